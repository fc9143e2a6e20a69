/-
  The walk of caissonref02.Compress.
-/
import Derived.Test.YtcdmbknmmnaocaaDoorRef2
import Derived.Deep.RegionHeld3
import Derived.Deep.DeepCutAuto
namespace Go.Proofs.YtcdmbknmmnaocaaDoor
open Go.RowKit Sh

theorem Reads.sub {w : World} {B g o n : Nat} {k : IntKind} {l : List Nat} (h : Reads w B 1 (some ⟨g, o, none⟩) n (nv k l)) (i m : Nat) (hm : 0 < m) (hi : i + m ≤ n) : Reads w B 1 (some ⟨g, o + i, none⟩) m (nv k ((l.drop i).take m)) := by
  have hl := h.len
  refine ⟨by rw [nv_len]; simp; omega, fun _ => ?_⟩
  obtain ⟨ad, e, hb, hc⟩ := h.2 (by omega)
  cases e
  refine ⟨_, rfl, hb, fun j u hu => ?_⟩
  have hj : j < m := by
    rcases Nat.lt_or_ge j m with h0 | h0
    · exact h0
    · rw [List.getElem?_eq_none (by rw [nv_len]; simp; omega)] at hu; cases hu
  have := hc (i + j) u (by
    rw [← nv_take, ← nv_drop, List.getElem?_take, if_pos hj, List.getElem?_drop] at hu
    exact hu)
  rw [Addr.add_mid] at this ⊢
  rw [Nat.add_assoc]; exact this

theorem rrotr_q0 (x : Nat) (n : Int) (m : Nat) (hm : n = (m : Int)) (hx : x < 4294967296) (h1 : 1 ≤ m) (hn : m ≤ 31) (w : World) (q : Nat) :
    Calls Tryd.prog 39 #[.int .u32 (x : Int), .int .i64 n] (w.drewN q) fun e w'' => e = .returned (.int .u32 (rotr x m : Nat)) ∧ ∃ j, w'' = w.drewN j :=
  Calls.quiet_of (rrotr_lit x n m hm hx h1 hn _)
theorem ch2_eq (e f g : Nat) (he : e < 4294967296) (hf : f < 4294967296) (hg : g < 4294967296) :
    bits BinOp.or IntKind.u32 (bits BinOp.and IntKind.u32 (e : Int) (f : Int)) (bits BinOp.and IntKind.u32 (bits BinOp.xor IntKind.u32 IntKind.u32.max (e : Int)) (g : Int)) = ((ch e f g : Nat) : Int) := by
  rw [not32_eq e he, u32_and_nat _ _ he hf, u32_and_nat _ _ (by omega) hg, u32_or_nat _ _ (and32 he) (and32 (by omega)), ch_or e f g he]
theorem mj2_eq (a b c : Nat) (ha : a < 4294967296) (hb : b < 4294967296) (hc : c < 4294967296) :
    bits BinOp.or IntKind.u32 (bits BinOp.or IntKind.u32 (bits BinOp.and IntKind.u32 (a : Int) (b : Int)) (bits BinOp.and IntKind.u32 (a : Int) (c : Int))) (bits BinOp.and IntKind.u32 (b : Int) (c : Int)) = ((mj a b c : Nat) : Int) := by
  rw [u32_and_nat _ _ ha hb, u32_and_nat _ _ ha hc, u32_and_nat _ _ hb hc, u32_or_nat _ _ (and32 ha) (and32 ha), u32_or_nat _ _ (Nat.or_lt_two_pow (n := 32) (and32 ha) (and32 ha)) (and32 hb), mj_or]

/-- the blocks of the reference's Compress -/
structure RcMem (G T : Nat) (h b l : List Nat) (k : Nat) (w wr : World) : Prop where
  a : Blk wr G 54 (va .u32 h)
  r : Blk wr (G + 1) 54 (va .u32 z8)
  kk : Blk wr T 65 (va .u32 kL)
  ww : Blk wr (T + 1 + 1) 65 (va .u32 l)
  len : l.length = 64
  d : ∀ j, j < k → l.getD j 0 = wAt b j
  lt : G + 1 < T
  bel : Below G w wr
theorem RcMem.drew_ {G T : Nat} {h b l : List Nat} {k : Nat} {w wr : World} (m : RcMem G T h b l k w wr) : RcMem G T h b l k w wr.drew := ⟨m.a, m.r, m.kk, m.ww, m.len, m.d, m.lt, m.bel.drew⟩
theorem RcMem.drewN_ {G T : Nat} {h b l : List Nat} {k : Nat} {w wr : World} (m : RcMem G T h b l k w wr) (n : Nat) : RcMem G T h b l k w (wr.drewN n) := ⟨m.a, m.r, m.kk, m.ww, m.len, m.d, m.lt, below_drewN m.bel n⟩
theorem RcMem.step {G T : Nat} {h b l : List Nat} {k : Nat} {w wr : World} (m : RcMem G T h b l k w wr) (hk : k < 64) (v : Nat) (hv : v = wAt b k) : RcMem G T h b (l.set k v) (k + 1) w (wr.setCell ⟨T + 1 + 1, k, none⟩ (.int .u32 (v : Int))) :=
  ⟨m.a.far (p := ⟨T + 1 + 1, k, none⟩) (by have := m.lt; simp; omega) _, m.r.far (p := ⟨T + 1 + 1, k, none⟩) (by have := m.lt; simp; omega) _, m.kk.far (p := ⟨T + 1 + 1, k, none⟩) (by simp; omega) _, m.ww.setNum k v, by rw [List.length_set]; exact m.len,
    fun j hj => by
      by_cases e : k = j
      · subst e; rw [Sh.getD_set_eq (by rw [m.len]; exact hk)]; exact hv
      · rw [Sh.getD_set_ne e]; exact m.d j (by omega), m.lt, m.bel.setCell (by have := m.lt; simp; omega) _⟩

set_option maxRecDepth 100000 in
set_option maxHeartbeats 1600000 in
theorem rcompress_any (h b : List Nat) (g o c B : Nat) (hl8 : h.length = 8) (hh : W32 h) (hb : Byt b) (hc64 : 64 ≤ c) (w : World) (hr : Reads w B 1 (some ⟨g, o, none⟩) 64 (nv .u8 b)) (hB : B ≤ w.heap.size) :
    Calls Tryd.prog 29 #[.agg (va .u32 h), .slice (some ⟨g, o, none⟩) 64 c] w fun e w' => e = .returned (.agg (va .u32 (comp h b))) ∧ Below w.heap.size w w' := by
  have hzv := zvW
  have hzh := zvH
  have hc64' : 64 ≤ (c : Int) := by omega
  have hl := hr.len
  have hr' := Lib.hid hr
  have hB' := Lib.hid hB
  have hl' := Lib.hid hl
  have hl8' := Lib.hid hl8
  clear hr hB hl hl8
  go_enter Tryd.func29, Tryd.ntmps29
  have a0 : Blk ((w.alloc (.cells (va .u32 h) 54)).alloc (.cells (va .u32 z8) 54)) w.heap.size 54 (va .u32 h) := (Blk.new _ _ _).alloc _
  have r0 : Blk ((w.alloc (.cells (va .u32 h) 54)).alloc (.cells (va .u32 z8) 54)) (w.heap.size + 1) 54 (va .u32 z8) := by
    have := Blk.new (w.alloc (.cells (va .u32 h) 54)) 54 (va .u32 z8)
    simpa using this
  have l0 : Below w.heap.size w ((w.alloc (.cells (va .u32 h) 54)).alloc (.cells (va .u32 z8) 54)) := ((Below.refl _ _).alloc (Nat.le_refl _) _).alloc (by simp) _
  have hs0 : ((w.alloc (.cells (va .u32 h) 54)).alloc (.cells (va .u32 z8) 54)).heap.size = w.heap.size + 2 := by simp
  have a1 := Lib.hid a0
  have r1 := Lib.hid r0
  have l1 := Lib.hid l0
  have hs1 := Lib.hid hs0
  clear a0 r0 l0 hs0
  go_wp2_with fail
  refine (consts_any _).mono ?_
  rintro e w1 ⟨rfl, b1⟩
  have hT : w.heap.size + 2 ≤ w1.heap.size := by rw [← hs1.out]; exact b1.size
  have a2 := a1.out.below b1 a1.out.lt
  have r2 := r1.out.below b1 r1.out.lt
  have l2 := l1.out.trans (b1.mono (by rw [hs1.out]; omega))
  have k0 : Blk ((w1.alloc (.cells (va .u32 z64) 65)).alloc (.cells (va .u32 z8) 54)) w1.heap.size 65 (va .u32 z64) := (Blk.new _ _ _).alloc _
  have i0 : Blk ((w1.alloc (.cells (va .u32 z64) 65)).alloc (.cells (va .u32 z8) 54)) (w1.heap.size + 1) 54 (va .u32 z8) := by
    have := Blk.new (w1.alloc (.cells (va .u32 z64) 65)) 54 (va .u32 z8)
    simpa using this
  have hst := run_storeBlk (P := Tryd.prog) k0 .u32 kL (by rw [va_size, z64_len, kL_len])
  have i1 := i0.rowFar (g' := w1.heap.size) (by omega) (va .u32 kL)
  have hst2 := run_storeBlk (P := Tryd.prog) i1 .u32 hL (by rw [va_size, hL_len, show z8.length = 8 from List.length_replicate ..])
  have k2 := (k0.row (va .u32 kL)).rowFar (g' := w1.heap.size + 1) (by omega) (va .u32 hL)
  have b2 : Below w.heap.size w ((((w1.alloc (.cells (va .u32 z64) 65)).alloc (.cells (va .u32 z8) 54)).setRow w1.heap.size (va .u32 kL)).setRow (w1.heap.size + 1) (va .u32 hL)) :=
    below_setRow (below_setRow ((l2.alloc l2.size _).alloc (by have := l2.size; simp; omega) _) (by omega) _) (by omega) _
  have a3 := (((a2.alloc (Obj.cells (va .u32 z64) 65)).alloc (Obj.cells (va .u32 z8) 54)).rowFar (g' := w1.heap.size) (by omega) (va .u32 kL)).rowFar (g' := w1.heap.size + 1) (by omega) (va .u32 hL)
  have r3 := (((r2.alloc (Obj.cells (va .u32 z64) 65)).alloc (Obj.cells (va .u32 z8) 54)).rowFar (g' := w1.heap.size) (by omega) (va .u32 kL)).rowFar (g' := w1.heap.size + 1) (by omega) (va .u32 hL)
  have hs3 : ((((w1.alloc (.cells (va .u32 z64) 65)).alloc (.cells (va .u32 z8) 54)).setRow w1.heap.size (va .u32 kL)).setRow (w1.heap.size + 1) (va .u32 hL)).heap.size = w1.heap.size + 1 + 1 := by simp
  have hv1 : (va .u32 kL).size = 64 := by rw [va_size, kL_len]
  have hv2 : (va .u32 hL).size = 8 := by rw [va_size, hL_len]
  have hm0 : RcMem w.heap.size w1.heap.size h b z64 0 w (((((w1.alloc (.cells (va .u32 z64) 65)).alloc (.cells (va .u32 z8) 54)).setRow w1.heap.size (va .u32 kL)).setRow (w1.heap.size + 1) (va .u32 hL)).alloc (.cells (va .u32 z64) 65)) :=
    ⟨a3.alloc _, r3.alloc _, k2.alloc _, by rw [← hs3]; exact Blk.new _ _ _, z64_len, fun j hj => by omega, by omega, b2.alloc (by rw [hs3]; omega) _⟩
  have hm1 := Lib.hid hm0
  have hT' := Lib.hid hT
  clear hm0 a3 r3 k2 b2 k0 i0 i1 a2 r2 l2 hT b1 a1 r1 l1 hs1
  go_wp2
  clear hst hst2 hv1 hv2 hs3
  generalize (((((w1.alloc (.cells (va .u32 z64) 65)).alloc (.cells (va .u32 z8) 54)).setRow w1.heap.size (va .u32 kL)).setRow (w1.heap.size + 1) (va .u32 hL)).alloc (.cells (va .u32 z64) 65)) = w3 at *
  generalize w1.heap.size = T at *
  go_loopw [8] (fun s wr => ∃ (k : Nat) (l : List Nat), k ≤ 64 ∧ s = .int .i64 (k : Int) ∧ RcMem w.heap.size T h b l k w wr) (fun s _ => 64 - (intOf s).toNat)
  case atStart => exact ⟨0, z64, by omega, rfl, hm1.out⟩
  case round =>
    obtain ⟨k, l, hk, rfl, hmem⟩ := hrel
    clear hm1
    have hc := hmem.ww.num (i := k)
    have hf := hmem.ww.frozen k
    have hlen := hmem.len
    by_cases h16 : k < 16
    · have h16' : (k : Int) < 16 := by omega
      have h64' : (k : Int) < 64 := by omega
      have q1 : (4 * (k : Int)).toNat = 4 * k := by omega
      have q2 : (4 * (k : Int) + 4).toNat = 4 * k + 4 := by omega
      have q3 : ¬ c = 4 * k := by omega
      have q4 : 4 * (k : Int) + 4 ≤ (c : Int) := by omega
      have q5 : 4 * k + 4 - 4 * k = 4 := by omega
      have hc1 := hc (by rw [hlen]; omega)
      have hrw := (hr'.out.below (hmem.bel.mono hB'.out)).sub (4 * k) 4 (by omega) (by omega)
      have hrw' := Lib.hid hrw
      have hbl := be32_lt b hb k
      have hmem' := Lib.hid hmem
      clear hmem hc hrw hlen
      generalize l.getD k 0 = lk at *
      obtain ⟨x, hx⟩ : ∃ x, beV ((b.drop (4 * k)).take 4) = x := ⟨_, rfl⟩
      have hxb : x = be32 b k := hx.symm
      have hcall := fun w4 hw4 => rget_any (some ⟨g, o + 4 * k, none⟩) 4 (c - 4 * k) B ((b.drop (4 * k)).take 4) 4 rfl (by omega) ((hb.drop _).take _) w4 hw4
      rw [hx] at hcall
      rw [← hxb] at hbl
      have hbl' : (x : Int) < 4294967296 := by omega
      have hcall' := Lib.hid hcall
      have hxb' := Lib.hid hxb
      clear hcall hx hxb
      go_wp2_with fail
      refine (hcall'.out _ hrw'.out).mono ?_
      rintro e w4 ⟨rfl, rfl⟩
      go_wp2
      go_roundw
      case rel => exact ⟨k + 1, l.set k x, by omega, by go_num, hmem'.out.step (by omega) x (hxb'.out.trans (wAt_lo b k h16).symm)⟩
      case measure => simp [intOf]; omega
    · by_cases h64 : k < 64
      · have h16' : ¬ (k : Int) < 16 := by omega
        have hk16' : 16 ≤ (k : Int) := by omega
        have h64' : (k : Int) < 64 := by omega
        have hc1 := hc (by rw [hlen]; omega)
        have c15 := hmem.ww.num (i := k - 15) (by omega)
        have c2 := hmem.ww.num (i := k - 2) (by omega)
        have c7 := hmem.ww.num (i := k - 7) (by omega)
        have c16 := hmem.ww.num (i := k - 16) (by omega)
        rw [hmem.d _ (by omega)] at c15 c2 c7 c16
        have hw := Lib.hid (wAt_hi b k (by omega) h64)
        have l15 := wAt_lt b hb (k - 15)
        have l2 := wAt_lt b hb (k - 2)
        have l7 := wAt_lt b hb (k - 7)
        have l16 := wAt_lt b hb (k - 16)
        generalize wAt b (k - 15) = x15 at *
        generalize wAt b (k - 2) = x2 at *
        generalize wAt b (k - 7) = x7 at *
        generalize wAt b (k - 16) = x16 at *
        have hmem' := Lib.hid hmem
        clear hmem hc hlen
        generalize l.getD k 0 = lk at *
        have i15 : ((k : Int) - 15).toNat = k - 15 := by omega
        have i2 : ((k : Int) - 2).toNat = k - 2 := by omega
        have i7 : ((k : Int) - 7).toNat = k - 7 := by omega
        have i16 : ((k : Int) - 16).toNat = k - 16 := by omega
        have w15 : IntKind.i64.wrap ((k : Int) - 15) = (k : Int) - 15 := IntWalk.i64_in _ (by omega)
        have w2 : IntKind.i64.wrap ((k : Int) - 2) = (k : Int) - 2 := IntWalk.i64_in _ (by omega)
        have w7 : IntKind.i64.wrap ((k : Int) - 7) = (k : Int) - 7 := IntWalk.i64_in _ (by omega)
        have w16 : IntKind.i64.wrap ((k : Int) - 16) = (k : Int) - 16 := IntWalk.i64_in _ (by omega)
        have n15 : 0 ≤ (k : Int) - 15 := by omega
        have n2 : 0 ≤ (k : Int) - 2 := by omega
        have n7 : 0 ≤ (k : Int) - 7 := by omega
        have n16 : 0 ≤ (k : Int) - 16 := by omega
        have u15 : (k : Int) - 15 < 64 := by omega
        have u2 : (k : Int) - 2 < 64 := by omega
        have u7 : (k : Int) - 7 < 64 := by omega
        have u16 : (k : Int) - 16 < 64 := by omega
        have e0 := sg0_eq x15 l15
        have e1 := sg1_eq x2 l2
        go_wp2
        go_quiet (fail)
        clear w15 w2 i15 i2 c15 c2 n15 n2 u15 u2
        have hmd := hmem'.out.drewN_ nq
        have hc1' : (wr.drewN nq).cell? ⟨T + 1 + 1, k, none⟩ = some (.int .u32 (lk : Int)) := hc1
        have hf' : (wr.drewN nq).frozen? ⟨T + 1 + 1, k, none⟩ = false := hf
        have c7' : (wr.drewN nq).cell? ⟨T + 1 + 1, k - 7, none⟩ = some (.int .u32 (x7 : Int)) := c7
        have c16' : (wr.drewN nq).cell? ⟨T + 1 + 1, k - 16, none⟩ = some (.int .u32 (x16 : Int)) := c16
        clear hmem' hc1 hf c7 c16
        generalize wr.drewN nq = wr1 at *
        have hmd' := Lib.hid hmd
        have m7 : 7 ≤ (k : Int) := by omega
        have d7 : ¬ k - 7 = k := by omega
        have d16 : ¬ k - 16 = k := by omega
        have d7' : ¬ k = k - 7 := by omega
        have d16' : ¬ k = k - 16 := by omega
        clear hmd
        go_upto_region 10 with fail
        go_region_held3 (fun w' => w'.cell? ⟨T + 1 + 1, k - 7, none⟩ = some (.int .u32 (x7 : Int)) ∧ w'.cell? ⟨T + 1 + 1, k - 16, none⟩ = some (.int .u32 (x16 : Int)))
          (first
            | go_keep
            | (refine ⟨?_, ?_⟩ <;> (refine (World.cell?_setCell_other _ _ _ _ (fun e => by injection e with _ e2 _; omega)).trans ?_; go_keep)))
          ((first
            | (go_at_call 39; (with_reducible refine (rrotr_lit x15 7 7 rfl l15 (by omega) (by omega) _).mono ?_); rintro e w5 ⟨rfl, j5, rfl⟩)
            | (go_at_call 39; (with_reducible refine (rrotr_lit x15 18 18 rfl l15 (by omega) (by omega) _).mono ?_); rintro e w5 ⟨rfl, j5, rfl⟩)
            | (go_at_call 39; (with_reducible refine (rrotr_lit x2 17 17 rfl l2 (by omega) (by omega) _).mono ?_); rintro e w5 ⟨rfl, j5, rfl⟩)
            | (go_at_call 39; (with_reducible refine (rrotr_lit x2 19 19 rfl l2 (by omega) (by omega) _).mono ?_); rintro e w5 ⟨rfl, j5, rfl⟩)))
        go_wp2
        go_roundw
        case rel =>
          refine ⟨k + 1, l.set k (wAt b k), by omega, by go_num, ?_⟩
          have ev : ((((x16 : Int) + x7) % 4294967296 + (sg0 x15 : Nat)) % 4294967296 + (sg1 x2 : Nat)) % 4294967296 = ((wAt b k : Nat) : Int) := by rw [hw.out]; omega
          rw [ev]
          exact (hmd'.out.drewN_ _).step h64 _ rfl
        case measure => simp [intOf]; omega
      · obtain rfl : k = 64 := by omega
        have ek : ((64 : Nat) : Int) = 64 := rfl
        have hall : ∀ j, j < 64 → l.getD j 0 = wAt b j := hmem.d
        have e64 : ¬ ((64 : Nat) : Int) < 64 := by omega
        have c0 := hmem.a.num (i := 0) (by rw [hl8'.out]; omega)
        have l0 := hh 0
        obtain ⟨a0, ha0⟩ : ∃ a, h.getD 0 0 = a := ⟨_, rfl⟩
        rw [ha0] at c0 l0
        have c1 := hmem.a.num (i := 1) (by rw [hl8'.out]; omega)
        have l1 := hh 1
        obtain ⟨a1, ha1⟩ : ∃ a, h.getD 1 0 = a := ⟨_, rfl⟩
        rw [ha1] at c1 l1
        have c2 := hmem.a.num (i := 2) (by rw [hl8'.out]; omega)
        have l2 := hh 2
        obtain ⟨a2, ha2⟩ : ∃ a, h.getD 2 0 = a := ⟨_, rfl⟩
        rw [ha2] at c2 l2
        have c3 := hmem.a.num (i := 3) (by rw [hl8'.out]; omega)
        have l3 := hh 3
        obtain ⟨a3, ha3⟩ : ∃ a, h.getD 3 0 = a := ⟨_, rfl⟩
        rw [ha3] at c3 l3
        have c4 := hmem.a.num (i := 4) (by rw [hl8'.out]; omega)
        have l4 := hh 4
        obtain ⟨a4, ha4⟩ : ∃ a, h.getD 4 0 = a := ⟨_, rfl⟩
        rw [ha4] at c4 l4
        have c5 := hmem.a.num (i := 5) (by rw [hl8'.out]; omega)
        have l5 := hh 5
        obtain ⟨a5, ha5⟩ : ∃ a, h.getD 5 0 = a := ⟨_, rfl⟩
        rw [ha5] at c5 l5
        have c6 := hmem.a.num (i := 6) (by rw [hl8'.out]; omega)
        have l6 := hh 6
        obtain ⟨a6, ha6⟩ : ∃ a, h.getD 6 0 = a := ⟨_, rfl⟩
        rw [ha6] at c6 l6
        have c7 := hmem.a.num (i := 7) (by rw [hl8'.out]; omega)
        have l7 := hh 7
        obtain ⟨a7, ha7⟩ : ∃ a, h.getD 7 0 = a := ⟨_, rfl⟩
        rw [ha7] at c7 l7
        have ha0' := Lib.hid ha0
        have ha1' := Lib.hid ha1
        have ha2' := Lib.hid ha2
        have ha3' := Lib.hid ha3
        have ha4' := Lib.hid ha4
        have ha5' := Lib.hid ha5
        have ha6' := Lib.hid ha6
        have ha7' := Lib.hid ha7
        have hmem' := Lib.hid hmem
        have hall' := Lib.hid hall
        have hrd := Lib.hid (show rnds h b 0 = [a0, a1, a2, a3, a4, a5, a6, a7] from by
          show h = _
          rw [← ha0, ← ha1, ← ha2, ← ha3, ← ha4, ← ha5, ← ha6, ← ha7]
          have h8 := hl8'.out
          match h, h8 with
          | [_, _, _, _, _, _, _, _], _ => rfl)
        clear hmem hc hlen hall ha0 ha1 ha2 ha3 ha4 ha5 ha6 ha7 hf
        go_wp2
        go_quiet (fail)
        clear c0 c1 c2 c3 c4 c5 c6 c7
        have hm2 := Lib.hid (hmem'.out.drewN_ nq)
        clear hmem'
        generalize wr.drewN nq = wr1 at *
        go_wp2
        go_loopw [13, 14, 15, 16, 17, 18, 19, 20, 21] (fun s0 s1 s2 s3 s4 s5 s6 s7 st wr => ∃ (k x0 x1 x2 x3 x4 x5 x6 x7 : Nat), k ≤ 64 ∧ st = .int .i64 (k : Int) ∧ s0 = .int .u32 (x0 : Int) ∧ s1 = .int .u32 (x1 : Int) ∧ s2 = .int .u32 (x2 : Int) ∧ s3 = .int .u32 (x3 : Int) ∧ s4 = .int .u32 (x4 : Int) ∧ s5 = .int .u32 (x5 : Int) ∧ s6 = .int .u32 (x6 : Int) ∧ s7 = .int .u32 (x7 : Int) ∧ rnds h b k = [x0, x1, x2, x3, x4, x5, x6, x7] ∧ RcMem w.heap.size T h b l 64 w wr) (fun _ _ _ _ _ _ _ _ st _ => 64 - (intOf st).toNat)
        case atStart => exact ⟨0, a0, a1, a2, a3, a4, a5, a6, a7, by omega, rfl, rfl, rfl, rfl, rfl, rfl, rfl, rfl, rfl, hrd.out, hm2.out⟩
        case round =>
          obtain ⟨k, x0, x1, x2, x3, x4, x5, x6, x7, hk, rfl, rfl, rfl, rfl, rfl, rfl, rfl, rfl, rfl, hx, hmem⟩ := hrel
          clear hm2
          have hlt := rnds_lt h b hh k
          rw [hx] at hlt
          have m0 : x0 < 4294967296 := hlt 0
          have m1 : x1 < 4294967296 := hlt 1
          have m2 : x2 < 4294967296 := hlt 2
          have m3 : x3 < 4294967296 := hlt 3
          have m4 : x4 < 4294967296 := hlt 4
          have m5 : x5 < 4294967296 := hlt 5
          have m6 : x6 < 4294967296 := hlt 6
          have m7 : x7 < 4294967296 := hlt 7
          have hx' := Lib.hid hx
          clear hlt hx
          by_cases hlt : k < 64
          · have hlt' : (k : Int) < 64 := by omega
            have ck := hmem.kk.num (i := k) (by rw [kL_len]; exact hlt)
            rw [show kL.getD k 0 = kAt k from getD_map_range _ _ _ hlt] at ck
            have cw := hmem.ww.num (i := k) (by rw [hmem.len]; exact hlt)
            rw [hall'.out k hlt] at cw
            have lk := kAt_lt k
            have lw := wAt_lt b hb k
            generalize hkk : kAt k = kk at *
            generalize hww : wAt b k = ww at *
            have hmem' := Lib.hid hmem
            have hkk' := Lib.hid hkk
            have hww' := Lib.hid hww
            clear hmem hkk hww
            have hy : rnds h b (k + 1) = [(t1 kk ww [x0, x1, x2, x3, x4, x5, x6, x7] + t2 [x0, x1, x2, x3, x4, x5, x6, x7]) % 4294967296, x0, x1, x2, (x3 + t1 kk ww [x0, x1, x2, x3, x4, x5, x6, x7]) % 4294967296, x4, x5, x6] := by
              show rnd (kAt k) (wAt b k) (rnds h b k) = _
              rw [hx'.out, hkk'.out, hww'.out]; rfl
            have hy' := Lib.hid hy
            clear hy
            have e1 := bs1_eq x4 m4
            have e2 := ch2_eq x4 x5 x6 m4 m5 m6
            have e3 := bs0_eq x0 m0
            have e4 := mj2_eq x0 x1 x2 m0 m1 m2
            go_wp2
            go_quiet ((go_at_call 39; (first | (with_reducible exact rrotr_q0 _ 6 6 rfl m4 (by omega) (by omega) _ _) | (with_reducible exact rrotr_q0 _ 11 11 rfl m4 (by omega) (by omega) _ _) | (with_reducible exact rrotr_q0 _ 25 25 rfl m4 (by omega) (by omega) _ _))))
            clear e1 e2 ck cw
            have hm3 := Lib.hid (hmem'.out.drewN_ nq)
            clear hmem'
            generalize wr.drewN nq = wr3 at *
            go_wp2_with (first
              | (go_at_call 39; (with_reducible refine (rrotr_lit x0 2 2 rfl m0 (by omega) (by omega) _).mono ?_); rintro e w5 ⟨rfl, j5, rfl⟩)
              | (go_at_call 39; (with_reducible refine (rrotr_lit x0 13 13 rfl m0 (by omega) (by omega) _).mono ?_); rintro e w5 ⟨rfl, j5, rfl⟩)
              | (go_at_call 39; (with_reducible refine (rrotr_lit x0 22 22 rfl m0 (by omega) (by omega) _).mono ?_); rintro e w5 ⟨rfl, j5, rfl⟩))
            go_roundw
            case rel =>
              have v0 : (((x7 : Int) + (bs1 x4 : Nat) + (ch x4 x5 x6 : Nat) + (kk : Int) + (ww : Int)) % 4294967296 + ((bs0 x0 : Nat) + (mj x0 x1 x2 : Nat)) % 4294967296) % 4294967296 = (((t1 kk ww [x0, x1, x2, x3, x4, x5, x6, x7] + t2 [x0, x1, x2, x3, x4, x5, x6, x7]) % 4294967296 : Nat) : Int) := by
                simp only [t1, t2, List.getD_cons_zero, List.getD_cons_succ]; omega
              have v4 : ((x3 : Int) + ((x7 : Int) + (bs1 x4 : Nat) + (ch x4 x5 x6 : Nat) + (kk : Int) + (ww : Int)) % 4294967296) % 4294967296 = (((x3 + t1 kk ww [x0, x1, x2, x3, x4, x5, x6, x7]) % 4294967296 : Nat) : Int) := by
                simp only [t1, List.getD_cons_zero, List.getD_cons_succ]; omega
              rw [v0, v4]
              exact ⟨k + 1, _, x0, x1, x2, _, x4, x5, x6, by omega, by go_num, rfl, rfl, rfl, rfl, rfl, rfl, rfl, rfl, hy'.out, hm3.out.drewN_ _⟩
            case measure => simp [intOf]; omega
          · obtain rfl : k = 64 := by omega
            have e64' : ¬ ((64 : Nat) : Int) < 64 := by omega
            have c0 := hmem.a.num (i := 0) (by rw [hl8'.out]; omega)
            have c1 := hmem.a.num (i := 1) (by rw [hl8'.out]; omega)
            have c2 := hmem.a.num (i := 2) (by rw [hl8'.out]; omega)
            have c3 := hmem.a.num (i := 3) (by rw [hl8'.out]; omega)
            have c4 := hmem.a.num (i := 4) (by rw [hl8'.out]; omega)
            have c5 := hmem.a.num (i := 5) (by rw [hl8'.out]; omega)
            have c6 := hmem.a.num (i := 6) (by rw [hl8'.out]; omega)
            have c7 := hmem.a.num (i := 7) (by rw [hl8'.out]; omega)
            rw [ha0'.out] at c0
            rw [ha1'.out] at c1
            rw [ha2'.out] at c2
            rw [ha3'.out] at c3
            rw [ha4'.out] at c4
            rw [ha5'.out] at c5
            rw [ha6'.out] at c6
            rw [ha7'.out] at c7
            have hmem' := Lib.hid hmem
            clear hmem
            go_wp2_with (first
              | (refine wpList_buildv rfl 54 _ rfl #[.int .u32 ((((a0 : Nat) : Int) + ((x0 : Nat) : Int)) % 4294967296), .int .u32 ((((a1 : Nat) : Int) + ((x1 : Nat) : Int)) % 4294967296), .int .u32 ((((a2 : Nat) : Int) + ((x2 : Nat) : Int)) % 4294967296), .int .u32 ((((a3 : Nat) : Int) + ((x3 : Nat) : Int)) % 4294967296), .int .u32 ((((a4 : Nat) : Int) + ((x4 : Nat) : Int)) % 4294967296), .int .u32 ((((a5 : Nat) : Int) + ((x5 : Nat) : Int)) % 4294967296), .int .u32 ((((a6 : Nat) : Int) + ((x6 : Nat) : Int)) % 4294967296), .int .u32 ((((a7 : Nat) : Int) + ((x7 : Nat) : Int)) % 4294967296)] (by kernel_rfl) ?_)
              | (refine wpList_store_row rfl 54 (.tmp 4) (.tmp 201) rfl (w.heap.size + 1) #[.int .u32 ((((a0 : Nat) : Int) + ((x0 : Nat) : Int)) % 4294967296), .int .u32 ((((a1 : Nat) : Int) + ((x1 : Nat) : Int)) % 4294967296), .int .u32 ((((a2 : Nat) : Int) + ((x2 : Nat) : Int)) % 4294967296), .int .u32 ((((a3 : Nat) : Int) + ((x3 : Nat) : Int)) % 4294967296), .int .u32 ((((a4 : Nat) : Int) + ((x4 : Nat) : Int)) % 4294967296), .int .u32 ((((a5 : Nat) : Int) + ((x5 : Nat) : Int)) % 4294967296), .int .u32 ((((a6 : Nat) : Int) + ((x6 : Nat) : Int)) % 4294967296), .int .u32 ((((a7 : Nat) : Int) + ((x7 : Nat) : Int)) % 4294967296)] rfl rfl 54 (va .u32 z8) hmem'.out.r (by kernel_rfl) (by rw [va_size, show z8.length = 8 from List.length_replicate ..]; rfl) (by simp [Value.oneCell']) ?_))
            have hfin : (#[.int .u32 ((((a0 : Nat) : Int) + ((x0 : Nat) : Int)) % 4294967296), .int .u32 ((((a1 : Nat) : Int) + ((x1 : Nat) : Int)) % 4294967296), .int .u32 ((((a2 : Nat) : Int) + ((x2 : Nat) : Int)) % 4294967296), .int .u32 ((((a3 : Nat) : Int) + ((x3 : Nat) : Int)) % 4294967296), .int .u32 ((((a4 : Nat) : Int) + ((x4 : Nat) : Int)) % 4294967296), .int .u32 ((((a5 : Nat) : Int) + ((x5 : Nat) : Int)) % 4294967296), .int .u32 ((((a6 : Nat) : Int) + ((x6 : Nat) : Int)) % 4294967296), .int .u32 ((((a7 : Nat) : Int) + ((x7 : Nat) : Int)) % 4294967296)] : Array Value) = va .u32 (comp h b) := by
              unfold comp addL
              rw [hx'.out]
              simp only [va, nv, List.range, List.range.loop, List.map_cons, List.map_nil, List.getD_cons_zero, List.getD_cons_succ, ha0'.out, ha1'.out, ha2'.out, ha3'.out, ha4'.out, ha5'.out, ha6'.out, ha7'.out, Int.natCast_emod, Int.natCast_add]
              rfl
            exact bodyPost_ret (results_cell_row rfl _ _ (w.heap.size + 1) 54 #[.int .u32 ((((a0 : Nat) : Int) + ((x0 : Nat) : Int)) % 4294967296), .int .u32 ((((a1 : Nat) : Int) + ((x1 : Nat) : Int)) % 4294967296), .int .u32 ((((a2 : Nat) : Int) + ((x2 : Nat) : Int)) % 4294967296), .int .u32 ((((a3 : Nat) : Int) + ((x3 : Nat) : Int)) % 4294967296), .int .u32 ((((a4 : Nat) : Int) + ((x4 : Nat) : Int)) % 4294967296), .int .u32 ((((a5 : Nat) : Int) + ((x5 : Nat) : Int)) % 4294967296), .int .u32 ((((a6 : Nat) : Int) + ((x6 : Nat) : Int)) % 4294967296), .int .u32 ((((a7 : Nat) : Int) + ((x7 : Nat) : Int)) % 4294967296)] (0, 0) _ rfl (hmem'.out.r.row _) Tryd.underlying54 rfl (by kernel_rfl)) rfl ⟨by rw [hfin], below_setRow hmem'.out.bel (by omega) _⟩
end Go.Proofs.YtcdmbknmmnaocaaDoor
