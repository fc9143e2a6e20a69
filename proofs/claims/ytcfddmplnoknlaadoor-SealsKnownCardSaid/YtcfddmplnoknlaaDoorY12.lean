/-
  The walk of caissonref02.Compress.
-/
import Derived.Test.YtcfddmplnoknlaaDoorY11
import Derived.Deep.RegionHeld3
import Derived.Deep.DeepCutAuto
namespace Go.Proofs.YtcfddmplnoknlaaDoor
set_option maxRecDepth 16384
open Go.RowKit Sh

theorem Reads.sub {w : World} {B g o n : Nat} {k : IntKind} {l : List Nat} (h : Reads w B 1 (some ⟨g, o, none⟩) n (nv k l)) (i m : Nat) (hm : 0 < m) (hi : i + m ≤ n) : Reads w B 1 (some ⟨g, o + i, none⟩) m (nv k ((l.drop i).take m)) := by
  have hl := h.len
  refine ⟨by rw [nv_len]; simp; omega, fun _ => ?_⟩
  obtain ⟨ad, e, hb, hc⟩ := h.2 (by omega)
  cases e
  refine ⟨_, rfl, hb, fun j u hu => ?_⟩
  have hj : j < m := by
    rcases Nat.lt_or_ge j m with h0 | h0
    · exact h0
    · rw [List.getElem?_eq_none (by rw [nv_len]; simp; omega)] at hu; cases hu
  have := hc (i + j) u (by
    rw [← nv_take, ← nv_drop, List.getElem?_take, if_pos hj, List.getElem?_drop] at hu
    exact hu)
  rw [Addr.add_mid] at this ⊢
  rw [Nat.add_assoc]; exact this

theorem rrotr_q0 (x : Nat) (n : Int) (m : Nat) (hm : n = (m : Int)) (hx : x < 4294967296) (h1 : 1 ≤ m) (hn : m ≤ 31) (w : World) (q : Nat) :
  Calls Tryd.prog 84 #[.int .u32 (x : Int), .int .i64 n] (w.drewN q) fun e w'' => e = .returned (.int .u32 (rotr x m : Nat)) ∧ ∃ j, w'' = w.drewN j :=
 Calls.quiet_of (rrotr_lit x n m hm hx h1 hn _)
theorem ch2_eq (e f g : Nat) (he : e < 4294967296) (hf : f < 4294967296) (hg : g < 4294967296) :
  bits BinOp.or IntKind.u32 (bits BinOp.and IntKind.u32 (e : Int) (f : Int)) (bits BinOp.and IntKind.u32 (bits BinOp.xor IntKind.u32 IntKind.u32.max (e : Int)) (g : Int)) = ((ch e f g : Nat) : Int) := by
 rw [not32_eq e he, u32_and_nat _ _ he hf, u32_and_nat _ _ (by omega) hg, u32_or_nat _ _ (and32 he) (and32 (by omega)), ch_or e f g he]
theorem mj2_eq (a b c : Nat) (ha : a < 4294967296) (hb : b < 4294967296) (hc : c < 4294967296) :
  bits BinOp.or IntKind.u32 (bits BinOp.or IntKind.u32 (bits BinOp.and IntKind.u32 (a : Int) (b : Int)) (bits BinOp.and IntKind.u32 (a : Int) (c : Int))) (bits BinOp.and IntKind.u32 (b : Int) (c : Int)) = ((mj a b c : Nat) : Int) := by
 rw [u32_and_nat _ _ ha hb, u32_and_nat _ _ ha hc, u32_and_nat _ _ hb hc, u32_or_nat _ _ (and32 ha) (and32 ha), u32_or_nat _ _ (Nat.or_lt_two_pow (n := 32) (and32 ha) (and32 ha)) (and32 hb), mj_or]

structure RcMem (G T : Nat) (h b l : List Nat) (k : Nat) (w wr : World) : Prop where
 a : Blk wr G 91 (va .u32 h)
 r : Blk wr (G + 1) 91 (va .u32 z8)
 kk : Blk wr T 123 (va .u32 kL)
 ww : Blk wr (T + 1 + 1) 123 (va .u32 l)
 len : l.length = 64
 d : ∀ j, j < k → l.getD j 0 = wAt b j
 lt : G + 1 < T
 bel : Below G w wr
theorem RcMem.drewN_ {G T : Nat} {h b l : List Nat} {k : Nat} {w wr : World} (m : RcMem G T h b l k w wr) (n : Nat) : RcMem G T h b l k w (wr.drewN n) := ⟨m.a, m.r, m.kk, m.ww, m.len, m.d, m.lt, below_drewN m.bel n⟩
theorem RcMem.step {G T : Nat} {h b l : List Nat} {k : Nat} {w wr : World} (m : RcMem G T h b l k w wr) (hk : k < 64) (v : Nat) (hv : v = wAt b k) : RcMem G T h b (l.set k v) (k + 1) w (wr.setCell ⟨T + 1 + 1, k, none⟩ (.int .u32 (v : Int))) :=
  ⟨m.a.far (p := ⟨T + 1 + 1, k, none⟩) (by have := m.lt; simp; omega) _, m.r.far (p := ⟨T + 1 + 1, k, none⟩) (by have := m.lt; simp; omega) _, m.kk.far (p := ⟨T + 1 + 1, k, none⟩) (by simp; omega) _, m.ww.setNum k v, by rw [List.length_set]; exact m.len,
    fun j hj => by
      by_cases e : k = j
      · subst e; rw [Sh.getD_set_eq (by rw [m.len]; exact hk)]; exact hv
      · rw [Sh.getD_set_ne e]; exact m.d j (by omega), m.lt, m.bel.setCell (by have := m.lt; simp; omega) _⟩

set_option maxRecDepth 100000 in
set_option maxHeartbeats 1600000 in
theorem rcompress_any (h b : List Nat) (g o c B : Nat) (hl8 : h.length = 8) (hh : W32 h) (hb : Byt b) (hc64 : 64 ≤ c) (w : World) (hr : Reads w B 1 (some ⟨g, o, none⟩) 64 (nv .u8 b)) (hB : B ≤ w.heap.size) :
    Calls Tryd.prog 74 #[.agg (va .u32 h), .slice (some ⟨g, o, none⟩) 64 c] w fun e w' => e = .returned (.agg (va .u32 (comp h b))) ∧ Below w.heap.size w w' := by
  have hzv := zvW
  have hzh := zvH
  have hc64' : 64 ≤ (c : Int) := by omega
  have hl := hr.len
  have hr' := Lib.hid hr
  have hB' := Lib.hid hB
  have hl' := Lib.hid hl
  have hl8' := Lib.hid hl8
  clear hr hB hl hl8
  go_enter Tryd.func74, Tryd.ntmps74
  have a0 : Blk ((w.alloc (.cells (va .u32 h) 91)).alloc (.cells (va .u32 z8) 91)) w.heap.size 91 (va .u32 h) := (Blk.new _ _ _).alloc _
  have r0 : Blk ((w.alloc (.cells (va .u32 h) 91)).alloc (.cells (va .u32 z8) 91)) (w.heap.size + 1) 91 (va .u32 z8) := by
    have := Blk.new (w.alloc (.cells (va .u32 h) 91)) 91 (va .u32 z8)
    simpa using this
  have l0 : Below w.heap.size w ((w.alloc (.cells (va .u32 h) 91)).alloc (.cells (va .u32 z8) 91)) := ((Below.refl _ _).alloc (Nat.le_refl _) _).alloc (by simp) _
  have hs0 : ((w.alloc (.cells (va .u32 h) 91)).alloc (.cells (va .u32 z8) 91)).heap.size = w.heap.size + 2 := by simp
  have a1 := Lib.hid a0
  have r1 := Lib.hid r0
  have l1 := Lib.hid l0
  have hs1 := Lib.hid hs0
  clear a0 r0 l0 hs0
  go_wp2_with fail
  refine (consts_any _).mono ?_
  rintro e w1 ⟨rfl, b1⟩
  have hT : w.heap.size + 2 ≤ w1.heap.size := by rw [← hs1.out]; exact b1.size
  have a2 := a1.out.below b1 a1.out.lt
  have r2 := r1.out.below b1 r1.out.lt
  have l2 := l1.out.trans (b1.mono (by rw [hs1.out]; omega))
  have k0 : Blk ((w1.alloc (.cells (va .u32 z64) 123)).alloc (.cells (va .u32 z8) 91)) w1.heap.size 123 (va .u32 z64) := (Blk.new _ _ _).alloc _
  have i0 : Blk ((w1.alloc (.cells (va .u32 z64) 123)).alloc (.cells (va .u32 z8) 91)) (w1.heap.size + 1) 91 (va .u32 z8) := by
    have := Blk.new (w1.alloc (.cells (va .u32 z64) 123)) 91 (va .u32 z8)
    simpa using this
  have hst := run_storeBlk (P := Tryd.prog) k0 .u32 kL (by rw [va_size, z64_len, kL_len])
  have i1 := i0.rowFar (g' := w1.heap.size) (by omega) (va .u32 kL)
  have hst2 := run_storeBlk (P := Tryd.prog) i1 .u32 hL (by rw [va_size, hL_len, show z8.length = 8 from List.length_replicate ..])
  have k2 := (k0.row (va .u32 kL)).rowFar (g' := w1.heap.size + 1) (by omega) (va .u32 hL)
  have b2 : Below w.heap.size w ((((w1.alloc (.cells (va .u32 z64) 123)).alloc (.cells (va .u32 z8) 91)).setRow w1.heap.size (va .u32 kL)).setRow (w1.heap.size + 1) (va .u32 hL)) :=
    below_setRow (below_setRow ((l2.alloc l2.size _).alloc (by have := l2.size; simp; omega) _) (by omega) _) (by omega) _
  have a3 := (((a2.alloc (Obj.cells (va .u32 z64) 123)).alloc (Obj.cells (va .u32 z8) 91)).rowFar (g' := w1.heap.size) (by omega) (va .u32 kL)).rowFar (g' := w1.heap.size + 1) (by omega) (va .u32 hL)
  have r3 := (((r2.alloc (Obj.cells (va .u32 z64) 123)).alloc (Obj.cells (va .u32 z8) 91)).rowFar (g' := w1.heap.size) (by omega) (va .u32 kL)).rowFar (g' := w1.heap.size + 1) (by omega) (va .u32 hL)
  have hs3 : ((((w1.alloc (.cells (va .u32 z64) 123)).alloc (.cells (va .u32 z8) 91)).setRow w1.heap.size (va .u32 kL)).setRow (w1.heap.size + 1) (va .u32 hL)).heap.size = w1.heap.size + 1 + 1 := by simp
  have hv1 : (va .u32 kL).size = 64 := by rw [va_size, kL_len]
  have hv2 : (va .u32 hL).size = 8 := by rw [va_size, hL_len]
  have hm0 : RcMem w.heap.size w1.heap.size h b z64 0 w (((((w1.alloc (.cells (va .u32 z64) 123)).alloc (.cells (va .u32 z8) 91)).setRow w1.heap.size (va .u32 kL)).setRow (w1.heap.size + 1) (va .u32 hL)).alloc (.cells (va .u32 z64) 123)) :=
    ⟨a3.alloc _, r3.alloc _, k2.alloc _, by rw [← hs3]; exact Blk.new _ _ _, z64_len, fun j hj => by omega, by omega, b2.alloc (by rw [hs3]; omega) _⟩
  have hm1 := Lib.hid hm0
  have hT' := Lib.hid hT
  clear hm0 a3 r3 k2 b2 k0 i0 i1 a2 r2 l2 hT b1 a1 r1 l1 hs1
  go_wp2
  clear hst hst2 hv1 hv2 hs3
  generalize (((((w1.alloc (.cells (va .u32 z64) 123)).alloc (.cells (va .u32 z8) 91)).setRow w1.heap.size (va .u32 kL)).setRow (w1.heap.size + 1) (va .u32 hL)).alloc (.cells (va .u32 z64) 123)) = w3 at *
  generalize w1.heap.size = T at *
  go_loopw [8] (fun s wr => ∃ (k : Nat) (l : List Nat), k ≤ 64 ∧ s = .int .i64 (k : Int) ∧ RcMem w.heap.size T h b l k w wr) (fun s _ => 64 - (intOf s).toNat)
  case atStart => exact ⟨0, z64, by omega, rfl, hm1.out⟩
  case round =>
    obtain ⟨k, l, hk, rfl, hmem⟩ := hrel
    clear hm1
    have hc := hmem.ww.num (i := k)
    have hf := hmem.ww.frozen k
    have hlen := hmem.len
    by_cases h16 : k < 16
    · have h16' : (k : Int) < 16 := by omega
      have h64' : (k : Int) < 64 := by omega
      have q1 : (4 * (k : Int)).toNat = 4 * k := by omega
      have q2 : (4 * (k : Int) + 4).toNat = 4 * k + 4 := by omega
      have q3 : ¬ c = 4 * k := by omega
      have q4 : 4 * (k : Int) + 4 ≤ (c : Int) := by omega
      have q5 : 4 * k + 4 - 4 * k = 4 := by omega
      have hc1 := hc (by rw [hlen]; omega)
      have hrw := (hr'.out.below (hmem.bel.mono hB'.out)).sub (4 * k) 4 (by omega) (by omega)
      have hrw' := Lib.hid hrw
      have hbl := be32_lt b hb k
      have hmem' := Lib.hid hmem
      clear hmem hc hrw hlen
      generalize l.getD k 0 = lk at *
      obtain ⟨x, hx⟩ : ∃ x, beV ((b.drop (4 * k)).take 4) = x := ⟨_, rfl⟩
      have hxb : x = be32 b k := hx.symm
      have hcall := fun w4 hw4 => rget_any (some ⟨g, o + 4 * k, none⟩) 4 (c - 4 * k) B ((b.drop (4 * k)).take 4) 4 rfl (by omega) ((hb.drop _).take _) w4 hw4
      rw [hx] at hcall
      rw [← hxb] at hbl
      have hbl' : (x : Int) < 4294967296 := by omega
      have hcall' := Lib.hid hcall
      have hxb' := Lib.hid hxb
      clear hcall hx hxb
      go_wp2_with fail
      refine (hcall'.out _ hrw'.out).mono ?_
      rintro e w4 ⟨rfl, rfl⟩
      go_wp2
      go_roundw
      case rel => exact ⟨k + 1, l.set k x, by omega, by go_num, hmem'.out.step (by omega) x (hxb'.out.trans (wAt_lo b k h16).symm)⟩
      case measure => simp [intOf]; omega
    · by_cases h64 : k < 64
      · have h16' : ¬ (k : Int) < 16 := by omega
        have hk16' : 16 ≤ (k : Int) := by omega
        have h64' : (k : Int) < 64 := by omega
        have hc1 := hc (by rw [hlen]; omega)
        have c15 := hmem.ww.num (i := k - 15) (by omega)
        have c2 := hmem.ww.num (i := k - 2) (by omega)
        have c7 := hmem.ww.num (i := k - 7) (by omega)
        have c16 := hmem.ww.num (i := k - 16) (by omega)
        rw [hmem.d _ (by omega)] at c15 c2 c7 c16
        have hw := Lib.hid (wAt_hi b k (by omega) h64)
        have l15 := wAt_lt b hb (k - 15)
        have l2 := wAt_lt b hb (k - 2)
        have l7 := wAt_lt b hb (k - 7)
        have l16 := wAt_lt b hb (k - 16)
        generalize wAt b (k - 15) = x15 at *
        generalize wAt b (k - 2) = x2 at *
        generalize wAt b (k - 7) = x7 at *
        generalize wAt b (k - 16) = x16 at *
        have hmem' := Lib.hid hmem
        clear hmem hc hlen
        generalize l.getD k 0 = lk at *
        have i15 : ((k : Int) - 15).toNat = k - 15 := by omega
        have i2 : ((k : Int) - 2).toNat = k - 2 := by omega
        have i7 : ((k : Int) - 7).toNat = k - 7 := by omega
        have i16 : ((k : Int) - 16).toNat = k - 16 := by omega
        have w15 : IntKind.i64.wrap ((k : Int) - 15) = (k : Int) - 15 := IntWalk.i64_in _ (by omega)
        have w2 : IntKind.i64.wrap ((k : Int) - 2) = (k : Int) - 2 := IntWalk.i64_in _ (by omega)
        have w7 : IntKind.i64.wrap ((k : Int) - 7) = (k : Int) - 7 := IntWalk.i64_in _ (by omega)
        have w16 : IntKind.i64.wrap ((k : Int) - 16) = (k : Int) - 16 := IntWalk.i64_in _ (by omega)
        have n15 : 0 ≤ (k : Int) - 15 := by omega
        have n2 : 0 ≤ (k : Int) - 2 := by omega
        have n7 : 0 ≤ (k : Int) - 7 := by omega
        have n16 : 0 ≤ (k : Int) - 16 := by omega
        have u15 : (k : Int) - 15 < 64 := by omega
        have u2 : (k : Int) - 2 < 64 := by omega
        have u7 : (k : Int) - 7 < 64 := by omega
        have u16 : (k : Int) - 16 < 64 := by omega
        have e0 := sg0_eq x15 l15
        have e1 := sg1_eq x2 l2
        go_wp2
        go_quiet (fail)
        clear w15 w2 i15 i2 c15 c2 n15 n2 u15 u2
        have hmd := hmem'.out.drewN_ nq
        have hc1' : (wr.drewN nq).cell? ⟨T + 1 + 1, k, none⟩ = some (.int .u32 (lk : Int)) := hc1
        have hf' : (wr.drewN nq).frozen? ⟨T + 1 + 1, k, none⟩ = false := hf
        have c7' : (wr.drewN nq).cell? ⟨T + 1 + 1, k - 7, none⟩ = some (.int .u32 (x7 : Int)) := c7
        have c16' : (wr.drewN nq).cell? ⟨T + 1 + 1, k - 16, none⟩ = some (.int .u32 (x16 : Int)) := c16
        clear hmem' hc1 hf c7 c16
        generalize wr.drewN nq = wr1 at *
        have hmd' := Lib.hid hmd
        have m7 : 7 ≤ (k : Int) := by omega
        have d7 : ¬ k - 7 = k := by omega
        have d16 : ¬ k - 16 = k := by omega
        have d7' : ¬ k = k - 7 := by omega
        have d16' : ¬ k = k - 16 := by omega
        clear hmd
        go_upto_region 10 with fail
        go_region_held3 (fun w' => w'.cell? ⟨T + 1 + 1, k - 7, none⟩ = some (.int .u32 (x7 : Int)) ∧ w'.cell? ⟨T + 1 + 1, k - 16, none⟩ = some (.int .u32 (x16 : Int)))
          (first
            | go_keep
            | (refine ⟨?_, ?_⟩ <;> (refine (World.cell?_setCell_other _ _ _ _ (fun e => by injection e with _ e2 _; omega)).trans ?_; go_keep)))
          ((first
            | (go_at_call 84; (with_reducible refine (rrotr_lit x15 7 7 rfl l15 (by omega) (by omega) _).mono ?_); rintro e w5 ⟨rfl, j5, rfl⟩)
            | (go_at_call 84; (with_reducible refine (rrotr_lit x15 18 18 rfl l15 (by omega) (by omega) _).mono ?_); rintro e w5 ⟨rfl, j5, rfl⟩)
            | (go_at_call 84; (with_reducible refine (rrotr_lit x2 17 17 rfl l2 (by omega) (by omega) _).mono ?_); rintro e w5 ⟨rfl, j5, rfl⟩)
            | (go_at_call 84; (with_reducible refine (rrotr_lit x2 19 19 rfl l2 (by omega) (by omega) _).mono ?_); rintro e w5 ⟨rfl, j5, rfl⟩)))
        go_wp2
        go_roundw
        case rel =>
          refine ⟨k + 1, l.set k (wAt b k), by omega, by go_num, ?_⟩
          have ev : ((((x16 : Int) + x7) % 4294967296 + (sg0 x15 : Nat)) % 4294967296 + (sg1 x2 : Nat)) % 4294967296 = ((wAt b k : Nat) : Int) := by rw [hw.out]; omega
          rw [ev]
          exact (hmd'.out.drewN_ _).step h64 _ rfl
        case measure => simp [intOf]; omega
      · obtain rfl : k = 64 := by omega
        have ek : ((64 : Nat) : Int) = 64 := rfl
        have hall : ∀ j, j < 64 → l.getD j 0 = wAt b j := hmem.d
        have e64 : ¬ ((64 : Nat) : Int) < 64 := by omega
        have c0 := hmem.a.num (i := 0) (by rw [hl8'.out]; omega)
        have l0 := hh 0
        obtain ⟨a0, ha0⟩ : ∃ a, h.getD 0 0 = a := ⟨_, rfl⟩
        rw [ha0] at c0 l0
        have c1 := hmem.a.num (i := 1) (by rw [hl8'.out]; omega)
        have l1 := hh 1
        obtain ⟨a1, ha1⟩ : ∃ a, h.getD 1 0 = a := ⟨_, rfl⟩
        rw [ha1] at c1 l1
        have c2 := hmem.a.num (i := 2) (by rw [hl8'.out]; omega)
        have l2 := hh 2
        obtain ⟨a2, ha2⟩ : ∃ a, h.getD 2 0 = a := ⟨_, rfl⟩
        rw [ha2] at c2 l2
        have c3 := hmem.a.num (i := 3) (by rw [hl8'.out]; omega)
        have l3 := hh 3
        obtain ⟨a3, ha3⟩ : ∃ a, h.getD 3 0 = a := ⟨_, rfl⟩
        rw [ha3] at c3 l3
        have c4 := hmem.a.num (i := 4) (by rw [hl8'.out]; omega)
        have l4 := hh 4
        obtain ⟨a4, ha4⟩ : ∃ a, h.getD 4 0 = a := ⟨_, rfl⟩
        rw [ha4] at c4 l4
        have c5 := hmem.a.num (i := 5) (by rw [hl8'.out]; omega)
        have l5 := hh 5
        obtain ⟨a5, ha5⟩ : ∃ a, h.getD 5 0 = a := ⟨_, rfl⟩
        rw [ha5] at c5 l5
        have c6 := hmem.a.num (i := 6) (by rw [hl8'.out]; omega)
        have l6 := hh 6
        obtain ⟨a6, ha6⟩ : ∃ a, h.getD 6 0 = a := ⟨_, rfl⟩
        rw [ha6] at c6 l6
        have c7 := hmem.a.num (i := 7) (by rw [hl8'.out]; omega)
        have l7 := hh 7
        obtain ⟨a7, ha7⟩ : ∃ a, h.getD 7 0 = a := ⟨_, rfl⟩
        rw [ha7] at c7 l7
        have ha0' := Lib.hid ha0
        have ha1' := Lib.hid ha1
        have ha2' := Lib.hid ha2
        have ha3' := Lib.hid ha3
        have ha4' := Lib.hid ha4
        have ha5' := Lib.hid ha5
        have ha6' := Lib.hid ha6
        have ha7' := Lib.hid ha7
        have hmem' := Lib.hid hmem
        have hall' := Lib.hid hall
        have hrd := Lib.hid (show rnds h b 0 = [a0, a1, a2, a3, a4, a5, a6, a7] from by
          show h = _
          rw [← ha0, ← ha1, ← ha2, ← ha3, ← ha4, ← ha5, ← ha6, ← ha7]
          have h8 := hl8'.out
          match h, h8 with
          | [_, _, _, _, _, _, _, _], _ => rfl)
        clear hmem hc hlen hall ha0 ha1 ha2 ha3 ha4 ha5 ha6 ha7 hf
        go_wp2
        go_quiet (fail)
        clear c0 c1 c2 c3 c4 c5 c6 c7
        have hm2 := Lib.hid (hmem'.out.drewN_ nq)
        clear hmem'
        generalize wr.drewN nq = wr1 at *
        go_wp2
        go_loopw [13, 14, 15, 16, 17, 18, 19, 20, 21] (fun s0 s1 s2 s3 s4 s5 s6 s7 st wr => ∃ (k x0 x1 x2 x3 x4 x5 x6 x7 : Nat), k ≤ 64 ∧ st = .int .i64 (k : Int) ∧ s0 = .int .u32 (x0 : Int) ∧ s1 = .int .u32 (x1 : Int) ∧ s2 = .int .u32 (x2 : Int) ∧ s3 = .int .u32 (x3 : Int) ∧ s4 = .int .u32 (x4 : Int) ∧ s5 = .int .u32 (x5 : Int) ∧ s6 = .int .u32 (x6 : Int) ∧ s7 = .int .u32 (x7 : Int) ∧ rnds h b k = [x0, x1, x2, x3, x4, x5, x6, x7] ∧ RcMem w.heap.size T h b l 64 w wr) (fun _ _ _ _ _ _ _ _ st _ => 64 - (intOf st).toNat)
        case atStart => exact ⟨0, a0, a1, a2, a3, a4, a5, a6, a7, by omega, rfl, rfl, rfl, rfl, rfl, rfl, rfl, rfl, rfl, hrd.out, hm2.out⟩
        case round =>
          obtain ⟨k, x0, x1, x2, x3, x4, x5, x6, x7, hk, rfl, rfl, rfl, rfl, rfl, rfl, rfl, rfl, rfl, hx, hmem⟩ := hrel
          clear hm2
          have hlt := rnds_lt h b hh k
          rw [hx] at hlt
          have m0 : x0 < 4294967296 := hlt 0
          have m1 : x1 < 4294967296 := hlt 1
          have m2 : x2 < 4294967296 := hlt 2
          have m3 : x3 < 4294967296 := hlt 3
          have m4 : x4 < 4294967296 := hlt 4
          have m5 : x5 < 4294967296 := hlt 5
          have m6 : x6 < 4294967296 := hlt 6
          have m7 : x7 < 4294967296 := hlt 7
          have hx' := Lib.hid hx
          clear hlt hx
          by_cases hlt : k < 64
          · have hlt' : (k : Int) < 64 := by omega
            have ck := hmem.kk.num (i := k) (by rw [kL_len]; exact hlt)
            rw [show kL.getD k 0 = kAt k from getD_map_range _ _ _ hlt] at ck
            have cw := hmem.ww.num (i := k) (by rw [hmem.len]; exact hlt)
            rw [hall'.out k hlt] at cw
            have lk := kAt_lt k
            have lw := wAt_lt b hb k
            generalize hkk : kAt k = kk at *
            generalize hww : wAt b k = ww at *
            have hmem' := Lib.hid hmem
            have hkk' := Lib.hid hkk
            have hww' := Lib.hid hww
            clear hmem hkk hww
            have hy : rnds h b (k + 1) = [(t1 kk ww [x0, x1, x2, x3, x4, x5, x6, x7] + t2 [x0, x1, x2, x3, x4, x5, x6, x7]) % 4294967296, x0, x1, x2, (x3 + t1 kk ww [x0, x1, x2, x3, x4, x5, x6, x7]) % 4294967296, x4, x5, x6] := by
              show rnd (kAt k) (wAt b k) (rnds h b k) = _
              rw [hx'.out, hkk'.out, hww'.out]; rfl
            have hy' := Lib.hid hy
            clear hy
            have e1 := bs1_eq x4 m4
            have e2 := ch2_eq x4 x5 x6 m4 m5 m6
            have e3 := bs0_eq x0 m0
            have e4 := mj2_eq x0 x1 x2 m0 m1 m2
            go_wp2
            go_quiet ((go_at_call 84; (first | (with_reducible exact rrotr_q0 _ 6 6 rfl m4 (by omega) (by omega) _ _) | (with_reducible exact rrotr_q0 _ 11 11 rfl m4 (by omega) (by omega) _ _) | (with_reducible exact rrotr_q0 _ 25 25 rfl m4 (by omega) (by omega) _ _))))
            clear e1 e2 ck cw
            have hm3 := Lib.hid (hmem'.out.drewN_ nq)
            clear hmem'
            generalize wr.drewN nq = wr3 at *
            go_wp2_with (first
              | (go_at_call 84; (with_reducible refine (rrotr_lit x0 2 2 rfl m0 (by omega) (by omega) _).mono ?_); rintro e w5 ⟨rfl, j5, rfl⟩)
              | (go_at_call 84; (with_reducible refine (rrotr_lit x0 13 13 rfl m0 (by omega) (by omega) _).mono ?_); rintro e w5 ⟨rfl, j5, rfl⟩)
              | (go_at_call 84; (with_reducible refine (rrotr_lit x0 22 22 rfl m0 (by omega) (by omega) _).mono ?_); rintro e w5 ⟨rfl, j5, rfl⟩))
            go_roundw
            case rel =>
              have v0 : (((x7 : Int) + (bs1 x4 : Nat) + (ch x4 x5 x6 : Nat) + (kk : Int) + (ww : Int)) % 4294967296 + ((bs0 x0 : Nat) + (mj x0 x1 x2 : Nat)) % 4294967296) % 4294967296 = (((t1 kk ww [x0, x1, x2, x3, x4, x5, x6, x7] + t2 [x0, x1, x2, x3, x4, x5, x6, x7]) % 4294967296 : Nat) : Int) := by
                simp only [t1, t2, List.getD_cons_zero, List.getD_cons_succ]; omega
              have v4 : ((x3 : Int) + ((x7 : Int) + (bs1 x4 : Nat) + (ch x4 x5 x6 : Nat) + (kk : Int) + (ww : Int)) % 4294967296) % 4294967296 = (((x3 + t1 kk ww [x0, x1, x2, x3, x4, x5, x6, x7]) % 4294967296 : Nat) : Int) := by
                simp only [t1, List.getD_cons_zero, List.getD_cons_succ]; omega
              rw [v0, v4]
              exact ⟨k + 1, _, x0, x1, x2, _, x4, x5, x6, by omega, by go_num, rfl, rfl, rfl, rfl, rfl, rfl, rfl, rfl, hy'.out, hm3.out.drewN_ _⟩
            case measure => simp [intOf]; omega
          · obtain rfl : k = 64 := by omega
            have e64' : ¬ ((64 : Nat) : Int) < 64 := by omega
            have c0 := hmem.a.num (i := 0) (by rw [hl8'.out]; omega)
            have c1 := hmem.a.num (i := 1) (by rw [hl8'.out]; omega)
            have c2 := hmem.a.num (i := 2) (by rw [hl8'.out]; omega)
            have c3 := hmem.a.num (i := 3) (by rw [hl8'.out]; omega)
            have c4 := hmem.a.num (i := 4) (by rw [hl8'.out]; omega)
            have c5 := hmem.a.num (i := 5) (by rw [hl8'.out]; omega)
            have c6 := hmem.a.num (i := 6) (by rw [hl8'.out]; omega)
            have c7 := hmem.a.num (i := 7) (by rw [hl8'.out]; omega)
            rw [ha0'.out] at c0
            rw [ha1'.out] at c1
            rw [ha2'.out] at c2
            rw [ha3'.out] at c3
            rw [ha4'.out] at c4
            rw [ha5'.out] at c5
            rw [ha6'.out] at c6
            rw [ha7'.out] at c7
            have hmem' := Lib.hid hmem
            clear hmem
            go_wp2_with (first
              | (refine wpList_buildv rfl 91 _ rfl #[.int .u32 ((((a0 : Nat) : Int) + ((x0 : Nat) : Int)) % 4294967296), .int .u32 ((((a1 : Nat) : Int) + ((x1 : Nat) : Int)) % 4294967296), .int .u32 ((((a2 : Nat) : Int) + ((x2 : Nat) : Int)) % 4294967296), .int .u32 ((((a3 : Nat) : Int) + ((x3 : Nat) : Int)) % 4294967296), .int .u32 ((((a4 : Nat) : Int) + ((x4 : Nat) : Int)) % 4294967296), .int .u32 ((((a5 : Nat) : Int) + ((x5 : Nat) : Int)) % 4294967296), .int .u32 ((((a6 : Nat) : Int) + ((x6 : Nat) : Int)) % 4294967296), .int .u32 ((((a7 : Nat) : Int) + ((x7 : Nat) : Int)) % 4294967296)] (by kernel_rfl) ?_)
              | (refine wpList_store_row rfl 91 (.tmp 4) (.tmp 201) rfl (w.heap.size + 1) #[.int .u32 ((((a0 : Nat) : Int) + ((x0 : Nat) : Int)) % 4294967296), .int .u32 ((((a1 : Nat) : Int) + ((x1 : Nat) : Int)) % 4294967296), .int .u32 ((((a2 : Nat) : Int) + ((x2 : Nat) : Int)) % 4294967296), .int .u32 ((((a3 : Nat) : Int) + ((x3 : Nat) : Int)) % 4294967296), .int .u32 ((((a4 : Nat) : Int) + ((x4 : Nat) : Int)) % 4294967296), .int .u32 ((((a5 : Nat) : Int) + ((x5 : Nat) : Int)) % 4294967296), .int .u32 ((((a6 : Nat) : Int) + ((x6 : Nat) : Int)) % 4294967296), .int .u32 ((((a7 : Nat) : Int) + ((x7 : Nat) : Int)) % 4294967296)] rfl rfl 91 (va .u32 z8) hmem'.out.r (by kernel_rfl) (by rw [va_size, show z8.length = 8 from List.length_replicate ..]; rfl) (by simp [Value.oneCell']) ?_))
            have hfin : (#[.int .u32 ((((a0 : Nat) : Int) + ((x0 : Nat) : Int)) % 4294967296), .int .u32 ((((a1 : Nat) : Int) + ((x1 : Nat) : Int)) % 4294967296), .int .u32 ((((a2 : Nat) : Int) + ((x2 : Nat) : Int)) % 4294967296), .int .u32 ((((a3 : Nat) : Int) + ((x3 : Nat) : Int)) % 4294967296), .int .u32 ((((a4 : Nat) : Int) + ((x4 : Nat) : Int)) % 4294967296), .int .u32 ((((a5 : Nat) : Int) + ((x5 : Nat) : Int)) % 4294967296), .int .u32 ((((a6 : Nat) : Int) + ((x6 : Nat) : Int)) % 4294967296), .int .u32 ((((a7 : Nat) : Int) + ((x7 : Nat) : Int)) % 4294967296)] : Array Value) = va .u32 (comp h b) := by
              unfold comp addL
              rw [hx'.out]
              simp only [va, nv, List.range, List.range.loop, List.map_cons, List.map_nil, List.getD_cons_zero, List.getD_cons_succ, ha0'.out, ha1'.out, ha2'.out, ha3'.out, ha4'.out, ha5'.out, ha6'.out, ha7'.out, Int.natCast_emod, Int.natCast_add]
              rfl
            exact bodyPost_ret (results_cell_row rfl _ _ (w.heap.size + 1) 91 #[.int .u32 ((((a0 : Nat) : Int) + ((x0 : Nat) : Int)) % 4294967296), .int .u32 ((((a1 : Nat) : Int) + ((x1 : Nat) : Int)) % 4294967296), .int .u32 ((((a2 : Nat) : Int) + ((x2 : Nat) : Int)) % 4294967296), .int .u32 ((((a3 : Nat) : Int) + ((x3 : Nat) : Int)) % 4294967296), .int .u32 ((((a4 : Nat) : Int) + ((x4 : Nat) : Int)) % 4294967296), .int .u32 ((((a5 : Nat) : Int) + ((x5 : Nat) : Int)) % 4294967296), .int .u32 ((((a6 : Nat) : Int) + ((x6 : Nat) : Int)) % 4294967296), .int .u32 ((((a7 : Nat) : Int) + ((x7 : Nat) : Int)) % 4294967296)] (0, 0) _ rfl (hmem'.out.r.row _) Tryd.underlying91 rfl (by kernel_rfl)) rfl ⟨by rw [hfin], below_setRow hmem'.out.bel (by omega) _⟩
end Go.Proofs.YtcfddmplnoknlaaDoor
namespace Go.Proofs.YtcfddmplnoknlaaDoor
set_option maxRecDepth 16384
open Go.RowKit Sh
theorem sz__8_uint32 (l : List Nat) (h : l.length = 8) : (Tryd.prog.info? 91).map (·.size) = some (va .u32 l).size := by rw [va_size, h]; kernel_rfl
theorem zv__8_uint32 (w : World) : (zeroValue 91).run Tryd.prog w = .ok (.agg (va .u32 (List.replicate 8 0))) w := by kernel_rfl
theorem sz__64_uint32 (l : List Nat) (h : l.length = 64) : (Tryd.prog.info? 123).map (·.size) = some (va .u32 l).size := by rw [va_size, h]; kernel_rfl
theorem zv__64_uint32 (w : World) : (zeroValue 123).run Tryd.prog w = .ok (.agg (va .u32 (List.replicate 64 0))) w := by kernel_rfl
def outb (h : List Nat) (m : Nat) : List Nat := (List.range 32).map fun j => if j < m then (flat h).getD j 0 else 0
theorem outb_len (h : List Nat) (m : Nat) : (outb h m).length = 32 := by simp [outb]
theorem outb_zero (h : List Nat) : outb h 0 = List.replicate 32 0 := by
 apply ext_getD (by simp [outb])
 intro j hj
 rw [outb_len] at hj
 rw [outb, getD_map_range _ _ _ hj, if_neg (by omega), List.getD_eq_getElem?_getD, List.getElem?_replicate, if_pos hj]; rfl
theorem outb_all (h : List Nat) : outb h 32 = flat h := by
 apply ext_getD (by rw [outb_len, flat_len])
 intro j hj
 rw [outb_len] at hj
 rw [outb, getD_map_range _ _ _ hj, if_pos hj]
theorem outb_step (h : List Nat) (m : Nat) (hm : m < 32) : (outb h m).set m ((flat h).getD m 0) = outb h (m + 1) := by
  apply ext_getD (by rw [List.length_set, outb_len, outb_len])
  intro j hj
  rw [List.length_set, outb_len] at hj
  by_cases e : m = j
  · subst e
    rw [getD_set_eq (by rw [outb_len]; exact hm), outb, getD_map_range _ _ _ hj, if_pos (by omega)]
  · rw [Sh.getD_set_ne e, outb, getD_map_range _ _ _ hj, outb, getD_map_range _ _ _ hj]
    by_cases h : j < m
    · rw [if_pos h, if_pos (by omega)]
    · rw [if_neg h, if_neg (by omega)]
theorem flat_at (h : List Nat) (i k : Nat) (hi : i < 8) (hk : k < 4) : (flat h).getD (4 * i + k) 0 = (beB (h.getD i 0) 4).getD k 0 := by
 rw [flat, getD_map_range _ _ _ (by omega), beB, getD_map_range _ _ _ hk, show (4 * i + k) / 4 = i from by omega, show (4 * i + k) % 4 = k from by omega]
theorem pad_len (l : List Nat) : (pad l).length = l.length + 1 + zeros l.length + 8 := by simp [pad, beB_len]; omega
theorem pad_mod (l : List Nat) : (pad l).length % 64 = 0 := by rw [pad_len]; unfold zeros; omega
theorem byt_one' (x : Nat) (hx : x < 256) : Byt [x] := fun y hy => by simp at hy; omega
theorem padk_byt (l : List Nat) (k : Nat) (h : Byt l) : Byt (padk l k) := (h.app (byt_one' 128 (by omega))).app (Byt.rep _ _ (by omega))
theorem rput32_to (v : Nat) (hv : v < 4294967296) (w : World) :
  Calls Tryd.prog 27 #[.int .u32 (v : Int)] w fun e w' => ∃ g, e = .returned (.slice (some ⟨g, 0, none⟩) 4 4) ∧ Blk w' g 5 (va .u8 (beB v 4)) ∧ w.heap.size ≤ g ∧ Below w.heap.size w w' := by
 refine (rput32_any v hv w).mono ?_
 rintro e w' ⟨r, rfl, g, rfl, h1, h2, h3⟩
 exact ⟨g, by rw [beB_len], h1, h2, h3⟩
theorem rput64_to (v : Nat) (hv : v < 18446744073709551616) (w : World) :
  Calls Tryd.prog 48 #[.int .u64 (v : Int)] w fun e w' => ∃ g, e = .returned (.slice (some ⟨g, 0, none⟩) 8 8) ∧ Blk w' g 5 (va .u8 (beB v 8)) ∧ w.heap.size ≤ g ∧ Below w.heap.size w w' := by
 refine (rput64_any v hv w).mono ?_
 rintro e w' ⟨r, rfl, g, rfl, h1, h2, h3⟩
 exact ⟨g, by rw [beB_len], h1, h2, h3⟩
theorem pad_byt (l : List Nat) (h : Byt l) : Byt (pad l) := (padk_byt l _ h).app (beB_byt _ _)

set_option maxRecDepth 8000 in
set_option maxHeartbeats 4000000 in
theorem rsum_any (l : List Nat) (A : Option Addr) (n c B : Nat) (hl : Byt l) (hn : n < 1000000) (w : World) (hr : Reads w B 1 A n (nv .u8 l)) (hB : B ≤ w.heap.size) :
    Calls Tryd.prog 57 #[.slice A n c] w fun e w' => e = .returned (.agg (va .u8 (sha l))) ∧ Below w.heap.size w w' := by
  have hln := hr.len
  obtain ⟨B0, hB0e, hW, hB0⟩ := stB w
  rw [hB0e]
  have hBB : B ≤ B0 := by omega
  have rd := reads_of hr hBB
  clear hr hB
  have hB0q := Lib.hid hB0e
  clear hB0e
  go_enter Tryd.func57, Tryd.ntmps57
  go_upto_region 0 with fail
  refine wl_lit ?_
  refine runWL 2 (.pointer (some ⟨w.heap.size, 0, none⟩)) (w.alloc (.cells (va .u8 (List.replicate 32 0)) 45)) rfl (by rfl) (exec_allocV 45 rfl _ (zv_api_Digest _)) ?_
  simp only [Ls]
  have lw_p2 := Nat.le_trans hB0 hW.size
  have hp2 := Blk.new w 45 (va .u8 (List.replicate 32 0))
  replace hW := alB hW hB0 (.cells (va .u8 (List.replicate 32 0)) 45)
  generalize w.alloc (.cells (va .u8 (List.replicate 32 0)) 45) = w1 at *
  generalize w.heap.size = p2 at hp2 lw_p2  ⊢
  refine nilL ?_
  go_upto_region 1 with fail
  refine wl_lit ?_
  refine runWL 11 (.slice (some ⟨w1.heap.size, 0, none⟩) 0 0) (w1.alloc (.cells (va .u8 ([])) 5)) rfl (by rfl) (exec_bslice 34 0 _ rfl _ (by exact bs_0 _)) ?_
  simp only [Ls]
  have lp2_q1 := hp2.lt
  have lw_q1 := Nat.le_trans hB0 hW.size
  have hq1 : Blk (w1.alloc (.cells (va .u8 ([])) 5)) w1.heap.size 5 (va .u8 ([])) := Blk.new _ _ _
  have bx := bAl w1 (.cells (va .u8 ([])) 5)
  replace hp2 := blB hp2 bx
  replace hW := trB hW hB0 bx
  clear bx
  generalize w1.alloc (.cells (va .u8 ([])) 5) = w2 at *
  generalize w1.heap.size = q1 at hq1 lw_q1 lp2_q1 ⊢
  refine runL 12 (.slice A n c) rfl (by rfl) (by go_simp) ?_
  simp only [Ls]
  have hoq1 : Own w2 B0 (some ⟨q1, 0, none⟩) 0 0 ([]) := hq1.owned rfl lw_q1 (by unfold maxLen; omega)
  have noq1_p2 : Off (some ⟨q1, 0, none⟩) p2 := fun a ha => by cases ha; simp; omega
  clear hq1
  obtain ⟨A1, cA1, w3, hap, hA1, hcA1, hgr, hof⟩ := own_append hoq1 A n c _ l (rd.out _ hW) (Nat.le_trans hB0 hW.size) l (by simp) n (by omega) (by omega) 34
  refine runWL 13 (.slice A1 n cA1) w3 rfl (by rfl) (exec_append _ _ _ _ rfl _ _ _ rfl rfl hap) ?_
  simp only [Ls]
  have nA1_p2 := hof p2 noq1_p2 hp2.lt
  replace hp2 := hp2.grown hgr (noq1_p2.ob _ _)
  replace hW := Own.belowG hW (Nat.le_trans hB0 hW.size) hoq1.from_ hgr
  clear hoq1 hgr hof hap
  refine runWL 14 (.slice (some ⟨w3.heap.size, 0, none⟩) 1 1) (w3.alloc (.cells (va .u8 [128]) 5)) rfl (by rfl) (exec_bslice 34 1 _ rfl _ (by exact bs_b1 128 _)) ?_
  simp only [Ls]
  have lp2_q2 := hp2.lt
  have nA1_q2 := hA1.new_off
  have lw_q2 := Nat.le_trans hB0 hW.size
  have hq2 : Blk (w3.alloc (.cells (va .u8 [128]) 5)) w3.heap.size 5 (va .u8 [128]) := Blk.new _ _ _
  replace hp2 := hp2.alloc (.cells (va .u8 [128]) 5)
  replace hA1 := hA1.alloc (.cells (va .u8 [128]) 5)
  replace hW := alB hW hB0 (.cells (va .u8 [128]) 5)
  generalize w3.alloc (.cells (va .u8 [128]) 5) = w4 at *
  generalize w3.heap.size = q2 at hq2 lw_q2 lp2_q2 nA1_q2 ⊢
  obtain ⟨A2, cA2, w5, hap, hA2, hcA2, hgr, hof⟩ := own_append hA1 (some ⟨q2, 0, none⟩) 1 1 _ ([128]) (hq2.readsAll (Nat.lt_succ_self _) rfl) (Nat.le_trans hB0 hW.size) (l ++ [128]) rfl (n + 1) (by omega) (by omega) 34
  refine runWL 15 (.slice A2 (n + 1) cA2) w5 rfl (by rfl) (exec_append _ _ _ _ rfl _ _ _ rfl rfl hap) ?_
  simp only [Ls]
  have nA2_p2 := hof p2 nA1_p2 hp2.lt
  replace hp2 := hp2.grown hgr (nA1_p2.ob _ _)
  have nA2_q2 := hof q2 nA1_q2 hq2.lt
  replace hq2 := hq2.grown hgr (nA1_q2.ob _ _)
  replace hW := Own.belowG hW (Nat.le_trans hB0 hW.size) hA1.from_ hgr
  clear hA1 hgr hof hap
  refine runL 3 (.slice A2 (n + 1) cA2) rfl (by rfl) (by go_simp) ?_
  simp only [Ls]
  refine nilL ?_
  clear hq2
  have hzs := zeros_lt n
  have hstop := zeros_stop n
  rw [← padk_zero] at hA2
  go_wp2
  go_loopw [3] (fun v wr => ∃ (k N : Nat) (A : Option Addr) (c : Nat), v = .slice A N c ∧ N = n + 1 + k ∧ k ≤ zeros n ∧ Own wr B0 A N c (padk l k) ∧ Off A p2 ∧ Blk wr p2 45 (va .u8 (List.replicate 32 0)) ∧ Below B0 w wr) (fun v _ => zeros n + n + 2 - slen v)
  case atStart => exact ⟨0, n + 1, A2, cA2, rfl, rfl, by omega, hA2, nA2_p2, hp2, hW⟩
  case round =>
    clear hA2 nA2_p2 hp2 hW hcA2 hcA1 lp2_q2 lp2_q1
    obtain ⟨k, N, A3, cA3, rfl, hN, hk, hA3, nA3_p2, hp2, hW⟩ := hrel
    have hst := hstop k hk
    by_cases hlt : k < zeros n
    ·
      have hne : ¬ N % 64 = 56 := by omega
      have hneI : ¬ (N : Int) % 64 = 56 := by omega
      have htm : (N : Int).tmod 64 = (N : Int) % 64 := Int.tmod_eq_emod_of_nonneg (by omega)
      clear hst
      go_upto_region 3 with fail
      refine wl_lit ?_
      refine runL 20 (.slice A3 N cA3) rfl (by rfl) (by go_simp) ?_
      simp only [Ls]
      refine runWL 21 (.slice (some ⟨wr.heap.size, 0, none⟩) 1 1) (wr.alloc (.cells (va .u8 [0]) 5)) rfl (by rfl) (exec_bslice 34 1 _ rfl _ (by exact bs_b1 0 _)) ?_
      simp only [Ls]
      have lp2_q3 := hp2.lt
      have nA3_q3 := hA3.new_off
      have lw_q3 := Nat.le_trans hB0 hW.size
      have hq3 : Blk (wr.alloc (.cells (va .u8 [0]) 5)) wr.heap.size 5 (va .u8 [0]) := Blk.new _ _ _
      replace hp2 := hp2.alloc (.cells (va .u8 [0]) 5)
      replace hA3 := hA3.alloc (.cells (va .u8 [0]) 5)
      replace hW := alB hW hB0 (.cells (va .u8 [0]) 5)
      generalize wr.alloc (.cells (va .u8 [0]) 5) = w6 at *
      generalize wr.heap.size = q3 at hq3 lw_q3 lp2_q3 nA3_q3 ⊢
      obtain ⟨A4, cA4, w7, hap, hA4, hcA4, hgr, hof⟩ := own_append hA3 (some ⟨q3, 0, none⟩) 1 1 _ ([0]) (hq3.readsAll (Nat.lt_succ_self _) rfl) (Nat.le_trans hB0 hW.size) (padk l (k + 1)) (padk_succ _ _) (N + 1) (by omega) (by omega) 34
      refine runWL 22 (.slice A4 (N + 1) cA4) w7 rfl (by rfl) (exec_append _ _ _ _ rfl _ _ _ rfl rfl hap) ?_
      simp only [Ls]
      have nA4_p2 := hof p2 nA3_p2 hp2.lt
      replace hp2 := hp2.grown hgr (nA3_p2.ob _ _)
      have nA4_q3 := hof q3 nA3_q3 hq3.lt
      replace hq3 := hq3.grown hgr (nA3_q3.ob _ _)
      replace hW := Own.belowG hW (Nat.le_trans hB0 hW.size) hA3.from_ hgr
      clear hA3 hgr hof hap
      refine runL 3 (.slice A4 (N + 1) cA4) rfl (by rfl) (by go_simp) ?_
      simp only [Ls]
      refine nilL ?_
      go_wp2
      go_roundw
      case rel => exact ⟨k + 1, N + 1, A4, cA4, rfl, by omega, by omega, hA4, nA4_p2, hp2, hW⟩
      case measure => simp [slen]; omega
    ·
      obtain rfl : k = zeros n := by omega
      have heq : N % 64 = 56 := by omega
      have heqI : (N : Int) % 64 = 56 := by omega
      have htm : (N : Int).tmod 64 = (N : Int) % 64 := Int.tmod_eq_emod_of_nonneg (by omega)
      have w64a : IntKind.u64.wrap (n : Int) = (n : Int) := IntWalk.u64_in _ (by omega)
      have w64b : IntKind.u64.wrap (8 * (n : Int)) = ((8 * n : Nat) : Int) := (IntWalk.u64_in _ (by omega)).trans (by omega)
      clear hlt hst hk
      have hpl := pad_len l
      rw [hln] at hpl
      have hpm := pad_mod l
      obtain ⟨b, hb⟩ : ∃ b, (pad l).length = 64 * b := ⟨(pad l).length / 64, by omega⟩
      have hsha : sha l = flat (hs (pad l) b) := by unfold sha; rw [hb, show 64 * b / 64 = b by omega]
      have hshaq := Lib.hid hsha
      clear hsha hpm
      go_upto_region 4 with fail
      refine wl_lit ?_
      refine runL 23 (.slice A3 N cA3) rfl (by rfl) (by go_simp) ?_
      refine runL 24 (.slice A n c) rfl (by rfl) (by go_simp) ?_
      refine runL 25 (.int .i64 n) rfl (by rfl) (by go_simp) ?_
      refine runL 26 (.int .u64 (n : Int)) rfl (by rfl) (by go_simp) ?_
      refine runL 27 (.int .u64 ((8 * n : Nat) : Int)) rfl (by rfl) (by go_simp) ?_
      simp only [Ls]
      refine callL 28 rfl (by rfl) (fun K hK => wp_callF 48 #[.int .u64 ((8 * n : Nat) : Int)] (by go_simp) (rput64_to (8 * n) (by omega) _) ?_)
      rintro e w8 ⟨g, rfl, hg, hgg, bx⟩
      have lp2_g : p2 < g := Nat.lt_of_lt_of_le hp2.lt hgg
      have nA3_g := hA3.off_ge hgg
      have lw_g : B0 ≤ g := Nat.le_trans (Nat.le_trans hB0 hW.size) hgg
      replace hp2 := blB hp2 bx
      replace hA3 := hA3.below bx
      replace hW := trB hW hB0 bx
      clear hgg
      clear bx
      refine ⟨_, rfl, hK.out _ _ ?_⟩
      clear hK K
      simp only [Ls]
      obtain ⟨A5, cA5, w9, hap, hA5, hcA5, hgr, hof⟩ := own_append hA3 (some ⟨g, 0, none⟩) 8 8 _ (beB (8 * n) 8) (hg.readsAll (Nat.lt_succ_self _) (beB_len _ _)) (Nat.le_trans hB0 hW.size) (pad l) (by rw [pad_padk, hln]) (64 * b) (by omega) (by omega) 34
      refine runWL 29 (.slice A5 (64 * b) cA5) w9 rfl (by rfl) (exec_append _ _ _ _ rfl _ _ _ rfl rfl hap) ?_
      simp only [Ls]
      have nA5_p2 := hof p2 nA3_p2 hp2.lt
      replace hp2 := hp2.grown hgr (nA3_p2.ob _ _)
      have nA5_g := hof g nA3_g hg.lt
      replace hg := hg.grown hgr (nA3_g.ob _ _)
      replace hW := Own.belowG hW (Nat.le_trans hB0 hW.size) hA3.from_ hgr
      clear hA3 hgr hof hap
      refine runL 3 (.slice A5 (64 * b) cA5) rfl (by rfl) (by go_simp) ?_
      simp only [Ls]
      refine nilL ?_
      clear hg
      go_upto_region 5 with fail
      refine wl_lit ?_
      refine callL 31 rfl (by rfl) (fun K hK => wp_callF 73 #[] (by go_simp) (consts_any _) ?_)
      rintro e w10 ⟨rfl, bx⟩
      replace hp2 := blB hp2 bx
      replace hA5 := hA5.below bx
      replace hW := trB hW hB0 bx
      clear bx
      refine ⟨_, rfl, hK.out _ _ ?_⟩
      clear hK K
      refine runL 30 (.tuple #[.agg (va .u32 kL), .agg (va .u32 hL)]) rfl (by rfl) (by go_simp) ?_
      refine runL 32 (.agg (va .u32 kL)) rfl (by rfl) (by go_simp) ?_
      refine runL 33 (.agg (va .u32 hL)) rfl (by rfl) (by go_simp) ?_
      simp only [Ls]
      refine runWL 4 (.pointer (some ⟨w10.heap.size, 0, none⟩)) (w10.alloc (.cells (va .u32 (List.replicate 64 0)) 123)) rfl (by rfl) (exec_allocV 123 rfl _ (zv__64_uint32 _)) ?_
      simp only [Ls]
      have lp2_p4 := hp2.lt
      have nA5_p4 := hA5.new_off
      have lw_p4 := Nat.le_trans hB0 hW.size
      have hp4 := Blk.new w10 123 (va .u32 (List.replicate 64 0))
      replace hp2 := hp2.alloc (.cells (va .u32 (List.replicate 64 0)) 123)
      replace hA5 := hA5.alloc (.cells (va .u32 (List.replicate 64 0)) 123)
      replace hW := alB hW hB0 (.cells (va .u32 (List.replicate 64 0)) 123)
      generalize w10.alloc (.cells (va .u32 (List.replicate 64 0)) 123) = w11 at *
      generalize w10.heap.size = p4 at hp4 lw_p4 lp2_p4 nA5_p4 ⊢
      refine runWL 5 (.pointer (some ⟨w11.heap.size, 0, none⟩)) (w11.alloc (.cells (va .u32 (List.replicate 8 0)) 91)) rfl (by rfl) (exec_allocV 91 rfl _ (zv__8_uint32 _)) ?_
      simp only [Ls]
      have lp2_p5 := hp2.lt
      have nA5_p5 := hA5.new_off
      have lp4_p5 := hp4.lt
      have lw_p5 := Nat.le_trans hB0 hW.size
      have hp5 := Blk.new w11 91 (va .u32 (List.replicate 8 0))
      replace hp2 := hp2.alloc (.cells (va .u32 (List.replicate 8 0)) 91)
      replace hA5 := hA5.alloc (.cells (va .u32 (List.replicate 8 0)) 91)
      have bx := bAl w11 (.cells (va .u32 (List.replicate 8 0)) 91)
      replace hp4 := blB hp4 bx
      replace hW := trB hW hB0 bx
      clear bx
      generalize w11.alloc (.cells (va .u32 (List.replicate 8 0)) 91) = w12 at *
      generalize w11.heap.size = p5 at hp5 lw_p5 lp2_p5 nA5_p5 lp4_p5 ⊢
      refine runSL (w12.setRow p4 (va .u32 kL)) rfl (by rfl) (exec_storeRow 123 (.tmp 4) (.tmp 32) rfl p4 rfl (va .u32 kL) rfl 123 (va .u32 (List.replicate 64 0)) hp4 (sz_eq (sz__64_uint32 _ (List.length_replicate)) (sz__64_uint32 _ kL_len)) (sz__64_uint32 _ kL_len) (va_ones .u32 _)) ?_
      replace hp2 := hp2.rowFar (show p4 ≠ p2 from (by omega)) (va .u32 kL)
      replace hA5 := hA5.rowFar nA5_p4 (va .u32 kL)
      replace hp5 := hp5.rowFar (show p4 ≠ p5 from (by omega)) (va .u32 kL)
      replace hp4 := hp4.row (va .u32 kL)
      replace hW := below_setRow hW lw_p4 (va .u32 kL)
      generalize w12.setRow p4 (va .u32 kL) = w13 at *
      refine runSL (w13.setRow p5 (va .u32 hL)) rfl (by rfl) (exec_storeRow 91 (.tmp 5) (.tmp 33) rfl p5 rfl (va .u32 hL) rfl 91 (va .u32 (List.replicate 8 0)) hp5 (sz_eq (sz__8_uint32 _ (List.length_replicate)) (sz__8_uint32 _ hL_len)) (sz__8_uint32 _ hL_len) (va_ones .u32 _)) ?_
      replace hp2 := hp2.rowFar (show p5 ≠ p2 from (by omega)) (va .u32 hL)
      replace hA5 := hA5.rowFar nA5_p5 (va .u32 hL)
      replace hp4 := hp4.rowFar (show p5 ≠ p4 from (by omega)) (va .u32 hL)
      replace hp5 := hp5.row (va .u32 hL)
      replace hW := below_setRow hW lw_p5 (va .u32 hL)
      generalize w13.setRow p5 (va .u32 hL) = w14 at *
      refine nilL ?_
      clear hp4
      go_upto_region 6 with fail
      refine wl_lit ?_
      refine runL 6 (.int .i64 0) rfl (by rfl) (by go_simp) ?_
      simp only [Ls]
      refine nilL ?_
      have hb1 : 0 < b := by omega
      rcases hA5.form with ⟨_, h0, _⟩ | ⟨ga, rfl, hga, hgl⟩
      · omega
      have hcap := hA5.cap
      have nga_p5 := nA5_p5
      go_wp2
      go_loopw [6] (fun s wr => ∃ (j : Nat), j ≤ b ∧ s = .int .i64 ((64 * j : Nat) : Int) ∧ Own wr B0 (some ⟨ga, 0, none⟩) (64 * b) cA5 (pad l) ∧ Blk wr p5 91 (va .u32 (hs (pad l) j)) ∧ Blk wr p2 45 (va .u8 (List.replicate 32 0)) ∧ Below B0 w wr) (fun s _ => 64 * b - (intOf s).toNat)
      case atStart => exact ⟨0, by omega, rfl, hA5, hp5, hp2, hW⟩
      case round =>
        clear hA5 hp5 hp2 hW
        obtain ⟨j, hj, rfl, hA5, hp5, hp2, hW⟩ := hrel
        obtain ⟨oo, hoo⟩ : ∃ oo, 64 * j = oo := ⟨_, rfl⟩
        rw [hoo]
        have hooq := Lib.hid hoo
        by_cases hlt : j < b
        ·
          have hltI : (oo : Int) < ((64 * b : Nat) : Int) := by omega
          have ho0 : 0 ≤ (oo : Int) := by omega
          have hob : oo + 64 ≤ 64 * b := by omega
          have ho1 : (oo : Int) ≤ (oo : Int) + 64 := by omega
          have ho2 : (oo : Int) + 64 ≤ (cA5 : Int) := by omega
          have ho3 : ¬ cA5 = oo := by omega
          have ho4 : ((oo : Int) + 64).toNat = oo + 64 := by omega
          have ho5 : oo + 64 - oo = 64 := by omega
          have ho6 : IntKind.i64.wrap ((oo : Int) + 64) = (oo : Int) + 64 := IntWalk.i64_in _ (by omega)
          have hrd := Lib.hid (hA5.readsAt oo 64 (by omega))
          clear hoo
          go_upto_region 9 with fail
          replace hp5 := hp5.drew
          refine wp_region_held_drew (S := fun wr => Blk wr p2 45 (va .u8 (List.replicate 32 0)) ∧ Own wr B0 (some ⟨ga, 0, none⟩) (64 * b) cA5 (pad l) ∧ Below B0 w wr) (by kernel_rfl) ⟨hp2.drew, hA5.drew_, below_drewN hW 1⟩ (fun hH => ?_)
          clear hp2 hA5 hW
          obtain ⟨hp2, hA5, hW⟩ := hH
          generalize wr.drew = w15 at *
          refine takeH 7 1 41 (.slice (some ⟨ga, 0, none⟩) (64 * b) cA5) rfl rfl (by kernel_rfl) (by kernel_rfl) (by kernel_rfl) (fun _ _ _ h => h) (Or.inl ⟨by rfl, fun w _ => by go_simp⟩) ⟨hp2, hA5, hW⟩ ?_
          simp only [Ls]
          refine takeH 6 2 42 (.int .i64 (oo : Int)) rfl rfl (by kernel_rfl) (by kernel_rfl) (by kernel_rfl) (fun _ _ _ h => h) (Or.inl ⟨by rfl, fun w _ => by go_simp⟩) ⟨hp2, hA5, hW⟩ ?_
          simp only [Ls]
          refine takeH 5 3 43 (.int .i64 (oo : Int)) rfl rfl (by kernel_rfl) (by kernel_rfl) (by kernel_rfl) (fun _ _ _ h => h) (Or.inl ⟨by rfl, fun w _ => by go_simp⟩) ⟨hp2, hA5, hW⟩ ?_
          simp only [Ls]
          refine takeH 4 4 44 (.int .i64 ((oo : Int) + 64)) rfl rfl (by kernel_rfl) (by kernel_rfl) (by kernel_rfl) (fun _ _ _ h => h) (Or.inl ⟨by rfl, fun w _ => by go_simp⟩) ⟨hp2, hA5, hW⟩ ?_
          simp only [Ls]
          refine takeH 3 5 45 (.slice (some ⟨ga, oo, none⟩) 64 (cA5 - oo)) rfl rfl (by kernel_rfl) (by kernel_rfl) (by kernel_rfl) (fun _ _ _ h => h) (Or.inl ⟨by rfl, fun w _ => by go_simp⟩) ⟨hp2, hA5, hW⟩ ?_
          simp only [Ls]
          refine wpAnyH_ready (by kernel_rfl) (by simp) (readyRun 2 0 40 (.agg (va .u32 (hs (pad l) j))) w15 rfl rfl (by rfl) (exec_row 91 (.tmp 5) rfl p5 rfl 91 (va .u32 (hs (pad l) j)) _ hp5 (by exact Tryd.underlying91) rfl (sz__8_uint32 _ (hs_len _ _))) ⟨hp2, hA5, hW⟩ (fun _ => ?_) AllReadyH.nil)
          simp only [Ls]
          refine wpAnyH_ready (by kernel_rfl) (by simp) (readyCons 1 6 46 rfl rfl (by rfl) (fun K hK => wp_callF 74 #[.agg (va .u32 (hs (pad l) j)), .slice (some ⟨ga, oo, none⟩) 64 (cA5 - oo)] (by go_simp) (rcompress_any (hs (pad l) j) (((pad l).drop oo).take 64) ga oo (cA5 - oo) _ (hs_len _ _) (hs_lt _ _) (((pad_byt _ hl).drop _).take _) (by omega) _ (hA5.readsAt oo 64 (by omega)) (Nat.le_refl _)) ?_) AllReadyH.nil)
          rintro e w16 ⟨rfl, bx⟩
          replace hp2 := blB hp2 bx
          replace hp5 := blB hp5 bx
          replace hA5 := hA5.below bx
          replace hW := trB hW hB0 bx
          clear bx
          refine ⟨_, rfl, hK.out _ _ ⟨hp2, hA5, hW⟩ (fun _ => ?_)⟩
          clear hK K
          simp only [Ls]
          refine wpAnyH_ready (by kernel_rfl) (by simp) (readyRunS 0 7 (w16.setRow p5 (va .u32 (comp (hs (pad l) j) (((pad l).drop oo).take 64)))) rfl rfl (by rfl) (exec_storeRow 91 (.tmp 5) (.tmp 46) rfl p5 rfl (va .u32 (comp (hs (pad l) j) (((pad l).drop oo).take 64))) rfl 91 (va .u32 (hs (pad l) j)) hp5 (sz_eq (sz__8_uint32 _ (hs_len _ _)) (sz__8_uint32 _ (comp_len _ _))) (sz__8_uint32 _ (comp_len _ _)) (va_ones .u32 _)) ⟨hp2.rowFar (show p5 ≠ p2 from (by omega)) _, hA5.rowFar nA5_p5 _, below_setRow hW lw_p5 _⟩ (fun _ => ?_) AllReadyH.nil)
          replace hp2 := hp2.rowFar (show p5 ≠ p2 from (by omega)) (va .u32 (comp (hs (pad l) j) (((pad l).drop oo).take 64)))
          replace hA5 := hA5.rowFar nA5_p5 (va .u32 (comp (hs (pad l) j) (((pad l).drop oo).take 64)))
          replace hp5 := hp5.row (va .u32 (comp (hs (pad l) j) (((pad l).drop oo).take 64)))
          replace hW := below_setRow hW lw_p5 (va .u32 (comp (hs (pad l) j) (((pad l).drop oo).take 64)))
          generalize w16.setRow p5 (va .u32 (comp (hs (pad l) j) (((pad l).drop oo).take 64))) = w17 at *
          refine wpAnyH_done (by kernel_rfl) ?_ _
          go_wp2
          have hstep : comp (hs (pad l) j) (((pad l).drop oo).take 64) = hs (pad l) (j + 1) := by rw [← hooq.out]; rfl
          rw [hstep] at hp5
          have hwr : IntKind.i64.wrap ((oo : Int) + 64) = ((64 * (j + 1) : Nat) : Int) := by rw [ho6]; have := hooq.out; omega
          go_roundw
          case rel => exact ⟨j + 1, by omega, by go_num, hA5, hp5, hp2, hW⟩
          case measure => simp [intOf]; omega
        ·
          obtain rfl : j = b := by omega
          have hltI : ¬ (oo : Int) < ((64 * j : Nat) : Int) := by omega
          have hH8 := hs_len (pad l) j
          have hHw := hs_lt (pad l) j
          generalize hs (pad l) j = H at *
          clear hA5 hga hcap
          go_upto_region 10 with fail
          refine wl_lit ?_
          refine runWL 7 (.pointer (some ⟨wr.heap.size, 0, none⟩)) (wr.alloc (.cells (va .u8 (List.replicate 32 0)) 45)) rfl (by rfl) (exec_allocV 45 rfl _ (zv_api_Digest _)) ?_
          simp only [Ls]
          have lp2_p7 := hp2.lt
          have lp5_p7 := hp5.lt
          have lw_p7 := Nat.le_trans hB0 hW.size
          have hp7 := Blk.new wr 45 (va .u8 (List.replicate 32 0))
          have bx := bAl wr (.cells (va .u8 (List.replicate 32 0)) 45)
          replace hp2 := blB hp2 bx
          replace hp5 := blB hp5 bx
          replace hW := trB hW hB0 bx
          clear bx
          generalize wr.alloc (.cells (va .u8 (List.replicate 32 0)) 45) = w18 at *
          generalize wr.heap.size = p7 at hp7 lw_p7 lp2_p7 lp5_p7 ⊢
          refine nilL ?_
          rw [← outb_zero H] at hp7
          go_wp2
          go_loopw [8, 9, 10] (fun s x t wr => ∃ i : Nat, i ≤ 8 ∧ s = .int .i64 (i : Int) ∧ Blk wr p7 45 (va .u8 (outb H (4 * i))) ∧ Blk wr p5 91 (va .u32 H) ∧ Blk wr p2 45 (va .u8 (List.replicate 32 0)) ∧ Below B0 w wr) (fun s _ _ _ => 8 - (intOf s).toNat)
          case atStart => exact ⟨0, by omega, rfl, hp7, hp5, hp2, hW⟩
          case round =>
            clear hp7 hp5 hp2 hW
            obtain ⟨i, hi, rfl, hp7, hp5, hp2, hW⟩ := hrel
            by_cases hlt : i < 8
            ·
              have hltI : (i : Int) < 8 := by omega
              have hv := hHw i
              obtain ⟨v, hve⟩ : ∃ v, H.getD i 0 = v := ⟨_, rfl⟩
              rw [hve] at hv
              have hvq := Lib.hid hve
              clear hve
              go_upto_region 14 with fail
              refine wl_lit ?_
              refine runL 51 (.int .i64 (i : Int)) rfl (by rfl) (by go_simp) ?_
              refine runL 52 (.pointer (some ⟨p5, i, none⟩)) rfl (by rfl) (by go_simp) ?_
              refine runL 53 (.int .u32 ((v : Nat) : Int)) rfl (by rfl) (exec_cell 27 (.tmp 52) rfl p5 i rfl (.int .u32 ((v : Nat) : Int)) _ Tryd.underlying27 rfl (by rw [← hvq.out]; exact hp5.num (by rw [hH8]; exact hlt))) ?_
              simp only [Ls]
              refine callL 54 rfl (by rfl) (fun K hK => wp_callF 27 #[.int .u32 ((v : Nat) : Int)] (by go_simp) (rput32_to v hv _) ?_)
              rintro e w19 ⟨g, rfl, hg, hgg, bx⟩
              have lp2_g : p2 < g := Nat.lt_of_lt_of_le hp2.lt hgg
              have lp5_g : p5 < g := Nat.lt_of_lt_of_le hp5.lt hgg
              have lp7_g : p7 < g := Nat.lt_of_lt_of_le hp7.lt hgg
              have lw_g : B0 ≤ g := Nat.le_trans (Nat.le_trans hB0 hW.size) hgg
              replace hp2 := blB hp2 bx
              replace hp5 := blB hp5 bx
              replace hp7 := blB hp7 bx
              replace hW := trB hW hB0 bx
              clear hgg
              clear bx
              refine ⟨_, rfl, hK.out _ _ ?_⟩
              clear hK K
              refine runL 9 (.slice (some ⟨g, 0, none⟩) 4 4) rfl (by rfl) (by go_simp) ?_
              simp only [Ls]
              refine nilL ?_
              go_wp2
              go_loopw [10] (fun t wr => ∃ k : Nat, k ≤ 4 ∧ t = .int .i64 (k : Int) ∧ Blk wr g 5 (va .u8 (beB v 4)) ∧ Blk wr p7 45 (va .u8 (outb H (4 * i + k))) ∧ Blk wr p5 91 (va .u32 H) ∧ Blk wr p2 45 (va .u8 (List.replicate 32 0)) ∧ Below B0 w wr) (fun t _ => 4 - (intOf t).toNat)
              case atStart => exact ⟨0, by omega, rfl, hg, hp7, hp5, hp2, hW⟩
              case round =>
                rename_i wq _ _
                clear hg hp7 hp5 hp2 hW
                obtain ⟨k, hk, rfl, hg, hp7, hp5, hp2, hW⟩ := hrel
                by_cases hlt4 : k < 4
                ·
                  have hltK : (k : Int) < 4 := by omega
                  have hq0 : 4 * i + k < 32 := by omega
                  have hst := outb_step H (4 * i + k) hq0
                  rw [flat_at H i k hlt hlt4, hvq.out] at hst
                  obtain ⟨q, hq⟩ : ∃ q, 4 * i + k = q := ⟨_, rfl⟩
                  rw [hq] at hst hp7 hq0
                  have hqI : (q : Int) < 32 := by omega
                  have hq1 : 4 * (i : Int) + (k : Int) = (q : Int) := by omega
                  have ha1 : IntKind.i64.wrap (4 * (i : Int)) = 4 * (i : Int) := IntWalk.i64_in _ (by omega)
                  have ha2 : IntKind.i64.wrap (q : Int) = (q : Int) := IntWalk.i64_in _ (by omega)
                  obtain ⟨x, hx⟩ : ∃ x, (beB v 4).getD k 0 = x := ⟨_, rfl⟩
                  rw [hx] at hst
                  have hxq := Lib.hid hx
                  have hstq := Lib.hid hst
                  have hqq := Lib.hid hq
                  clear hx hst hq
                  go_upto_region 18 with fail
                  refine wl_lit ?_
                  refine runL 59 (.int .i64 (i : Int)) rfl (by rfl) (by go_simp) ?_
                  refine runL 60 (.int .i64 (4 * (i : Int))) rfl (by rfl) (by go_simp) ?_
                  refine runL 61 (.int .i64 (k : Int)) rfl (by rfl) (by go_simp) ?_
                  refine runL 62 (.int .i64 (q : Int)) rfl (by rfl) (by go_simp) ?_
                  refine runL 63 (.slice (some ⟨g, 0, none⟩) 4 4) rfl (by rfl) (by go_simp) ?_
                  refine runL 64 (.int .i64 (k : Int)) rfl (by rfl) (by go_simp) ?_
                  refine runL 65 (.pointer (some ⟨g, k, none⟩)) rfl (by rfl) (by go_simp) ?_
                  refine runL 66 (.int .u8 ((x : Nat) : Int)) rfl (by rfl) (exec_cell 5 (.tmp 65) rfl g k rfl (.int .u8 ((x : Nat) : Int)) _ Tryd.underlying5 rfl (by rw [← hxq.out]; exact hg.num (by rw [beB_len]; exact hlt4))) ?_
                  refine runL 67 (.pointer (some ⟨p7, q, none⟩)) rfl (by rfl) (by go_simp) ?_
                  simp only [Ls]
                  refine runSL (wr.setCell ⟨p7, q, none⟩ (.int .u8 ((x : Nat) : Int))) rfl (by rfl) (exec_storeCell 5 (.tmp 67) (.tmp 66) rfl p7 q rfl (.int .u8 ((x : Nat) : Int)) rfl rfl rfl 45 (va .u8 (outb H q)) hp7 (by rw [va_size, (outb_len _ _)]; exact hq0) (by kernel_rfl)) ?_
                  replace hp2 := hp2.far (p := ⟨p7, q, none⟩) (show p2 ≠ p7 from (by omega)) (.int .u8 ((x : Nat) : Int))
                  replace hp5 := hp5.far (p := ⟨p7, q, none⟩) (show p5 ≠ p7 from (by omega)) (.int .u8 ((x : Nat) : Int))
                  replace hg := hg.far (p := ⟨p7, q, none⟩) (show g ≠ p7 from (by omega)) (.int .u8 ((x : Nat) : Int))
                  replace hp7 : Blk (wr.setCell ⟨p7, q, none⟩ (.int .u8 ((x : Nat) : Int))) p7 45 (va .u8 (outb H (q + 1))) := by rw [← hstq.out]; exact hp7.setNum q (x)
                  replace hW := hW.setCell (p := ⟨p7, q, none⟩) lw_p7 (.int .u8 ((x : Nat) : Int))
                  generalize wr.setCell ⟨p7, q, none⟩ (.int .u8 ((x : Nat) : Int)) = w20 at *
                  refine nilL ?_
                  go_wp2
                  go_roundw
                  case rel => exact ⟨k + 1, by omega, by go_num, hg, by rw [show 4 * i + (k + 1) = q + 1 by have := hqq.out; omega]; exact hp7, hp5, hp2, hW⟩
                  case measure => simp [intOf]; omega
                ·
                  obtain rfl : k = 4 := by omega
                  go_wp2
                  go_roundw
                  case rel => exact ⟨i + 1, by omega, by go_num, by rw [show 4 * (i + 1) = 4 * i + 4 by omega]; exact hp7, hp5, hp2, hW⟩
                  case measure => simp [intOf]; omega
            ·
              obtain rfl : i = 8 := by omega
              rw [show 4 * 8 = 32 by omega, outb_all] at hp7
              go_upto_region 19 with fail
              refine wl_lit ?_
              refine runL 68 (.agg (va .u8 (flat H))) rfl (by rfl) (exec_row 45 (.tmp 7) rfl p7 rfl 45 (va .u8 (flat H)) _ hp7 (by exact Tryd.underlying45) rfl (sz_api_Digest _ (flat_len _))) ?_
              simp only [Ls]
              refine runSL (wr.setRow p2 (va .u8 (flat H))) rfl (by rfl) (exec_storeRow 45 (.tmp 2) (.tmp 68) rfl p2 rfl (va .u8 (flat H)) rfl 45 (va .u8 (List.replicate 32 0)) hp2 (sz_eq (sz_api_Digest _ (List.length_replicate)) (sz_api_Digest _ (flat_len _))) (sz_api_Digest _ (flat_len _)) (va_ones .u8 _)) ?_
              replace hp5 := hp5.rowFar (show p2 ≠ p5 from (by omega)) (va .u8 (flat H))
              replace hp7 := hp7.rowFar (show p2 ≠ p7 from (by omega)) (va .u8 (flat H))
              replace hp2 := hp2.row (va .u8 (flat H))
              replace hW := below_setRow hW lw_p2 (va .u8 (flat H))
              generalize wr.setRow p2 (va .u8 (flat H)) = w21 at *
              refine nilL ?_
              go_wp2_with fail
              exact bodyPost_ret (results_cell_row rfl _ _ p2 45 (va .u8 (flat H)) (0, 0) _ rfl hp2 (by exact Tryd.underlying45) rfl (sz_api_Digest _ (flat_len _))) rfl ⟨by rw [hshaq.out], hW⟩
end Go.Proofs.YtcfddmplnoknlaaDoor
