/-
  Walks through package digests: rotr, schedule, Compress.
-/
import Derived.Test.YtcdmbknmmnaocaaDoorWords
import Derived.BigRegion
import Derived.BigQuiet
namespace Go.Proofs.YtcdmbknmmnaocaaDoor
open Go.RowKit Sh

set_option maxHeartbeats 400000 in
theorem rotr_any (x n : Nat) (hx : x < 4294967296) (h1 : 1 ≤ n) (hn : n ≤ 31) (w : World) :
    Calls Tryd.prog 41 #[.int .u32 (x : Int), .int .i64 (n : Int)] w fun e w' => e = .returned (.int .u32 (rotr x n : Nat)) ∧ w = w' := by
  go_enter Tryd.func41, Tryd.ntmps41
  go_wp2_with fail
  refine (rot_any x n hx h1 hn _).mono ?_
  rintro e w1 ⟨rfl, rfl⟩
  go_wp2
  go_ret
  exact ⟨rfl, rfl⟩

theorem rotr_lit (x : Nat) (n : Int) (m : Nat) (hm : n = (m : Int)) (hx : x < 4294967296) (h1 : 1 ≤ m) (hn : m ≤ 31) (w : World) :
    Calls Tryd.prog 41 #[.int .u32 (x : Int), .int .i64 n] w fun e w' => e = .returned (.int .u32 (rotr x m : Nat)) ∧ w = w' := by
  subst hm; exact rotr_any x m hx h1 hn w

theorem sg0_eq (x : Nat) (hx : x < 4294967296) : bits BinOp.xor IntKind.u32 (bits BinOp.xor IntKind.u32 (rotr x 7 : Nat) (rotr x 18 : Nat)) ((x : Int) / 8) = ((sg0 x : Nat) : Int) := by
  rw [u32_xor_nat _ _ (rotr_lt x 7 hx) (rotr_lt x 18 hx), show (x : Int) / 8 = ((x / 8 : Nat) : Int) from by omega, u32_xor_nat _ _ (xor32 (rotr_lt x 7 hx) (rotr_lt x 18 hx)) (by omega)]
  unfold sg0; rw [Nat.shiftRight_eq_div_pow]
theorem sg1_eq (x : Nat) (hx : x < 4294967296) : bits BinOp.xor IntKind.u32 (bits BinOp.xor IntKind.u32 (rotr x 17 : Nat) (rotr x 19 : Nat)) ((x : Int) / 1024) = ((sg1 x : Nat) : Int) := by
  rw [u32_xor_nat _ _ (rotr_lt x 17 hx) (rotr_lt x 19 hx), show (x : Int) / 1024 = ((x / 1024 : Nat) : Int) from by omega, u32_xor_nat _ _ (xor32 (rotr_lt x 17 hx) (rotr_lt x 19 hx)) (by omega)]
  unfold sg1; rw [Nat.shiftRight_eq_div_pow]

/-- 64 zeros -/
def z64 : List Nat := List.replicate 64 0
theorem zvW (w : World) : (zeroValue 65).run Tryd.prog w = .ok (.agg (va .u32 z64)) w := by kernel_rfl
theorem z64_len : z64.length = 64 := List.length_replicate ..

/-- the schedule of a block -/
def wL (b : List Nat) : List Nat := (List.range 64).map (wAt b)
theorem wL_len (b : List Nat) : (wL b).length = 64 := by simp [wL]
theorem wL_get (b : List Nat) (t : Nat) (ht : t < 64) : (wL b).getD t 0 = wAt b t := getD_map_range _ _ _ ht
structure SchMem (G : Nat) (b l : List Nat) (t : Nat) (w wr : World) : Prop where
  bb : Blk wr G 55 (va .u8 b)
  bl : Blk wr (G + 1) 65 (va .u32 l)
  len : l.length = 64
  d : ∀ j, j < t → l.getD j 0 = wAt b j
  bel : Below G w wr
theorem SchMem.step {G : Nat} {b l : List Nat} {t : Nat} {w wr : World} (h : SchMem G b l t w wr) (ht : t < 64) (v : Nat) (hv : v = wAt b t) :
    SchMem G b (l.set t v) (t + 1) w (wr.setCell ⟨G + 1, t, none⟩ (.int .u32 (v : Int))) := by
  refine ⟨h.bb.far (p := ⟨G + 1, t, none⟩) (by simp) _, h.bl.setNum t v, by rw [List.length_set]; exact h.len, fun j hj => ?_, h.bel.setCell (by simp) _⟩
  by_cases e : t = j
  · subst e; rw [Sh.getD_set_eq (by rw [h.len]; exact ht), hv]
  · rw [Sh.getD_set_ne e]; exact h.d j (by omega)
theorem SchMem.drew_ {G : Nat} {b l : List Nat} {t : Nat} {w wr : World} (h : SchMem G b l t w wr) : SchMem G b l t w wr.drew := ⟨h.bb, h.bl, h.len, h.d, h.bel.drew⟩
theorem SchMem.drewN_ {G : Nat} {b l : List Nat} {t : Nat} {w wr : World} (h : SchMem G b l t w wr) (n : Nat) : SchMem G b l t w (wr.drewN n) := ⟨h.bb, h.bl, h.len, h.d, below_drewN h.bel n⟩
theorem SchMem.all {G : Nat} {b l : List Nat} {w wr : World} (h : SchMem G b l 64 w wr) : l = wL b := by
  apply ext_getD (by rw [h.len, wL_len])
  intro i hi
  rw [h.len] at hi
  rw [h.d i hi, wL_get b i hi]

set_option maxRecDepth 100000 in
set_option maxHeartbeats 800000 in
theorem schedule_any (b : List Nat) (hb : Byt b) (hl : b.length = 64) (w : World) :
    Calls Tryd.prog 40 #[.agg (va .u8 b)] w fun e w' => e = .returned (.agg (va .u32 (wL b))) ∧ Below w.heap.size w w' := by
  have hzv := zvW
  go_enter Tryd.func40, Tryd.ntmps40
  go_wp2
  have hm : SchMem w.heap.size b z64 0 w ((w.alloc (Obj.cells (va .u8 b) 55)).alloc (Obj.cells (va .u32 z64) 65)) := by
    refine ⟨(Blk.new _ _ _).alloc _, ?_, z64_len, fun j hj => by omega, ((Below.refl _ _).alloc (Nat.le_refl _) _).alloc (by simp) _⟩
    have := Blk.new (w.alloc (Obj.cells (va .u8 b) 55)) 65 (va .u32 z64)
    simpa using this
  clear hzv
  generalize hGG : w.heap.size = G at *
  go_loopw [9] (fun s wr => ∃ (k : Nat) (l : List Nat), k ≤ 16 ∧ s = .int .i64 (k : Int) ∧ SchMem G b l k w wr) (fun s _ => 16 - (intOf s).toNat)
  case atStart => exact ⟨0, z64, by omega, rfl, hm⟩
  case round =>
    obtain ⟨k, l, hk, rfl, hmem⟩ := hrel
    clear hm
    by_cases hlt : k < 16
    · have hlt' : (k : Int) < 16 := by omega
      have q1 : 0 ≤ 4 * (k : Int) := by omega
      have q2 : 4 * (k : Int) ≤ 4 * (k : Int) + 4 := by omega
      have q3 : 4 * (k : Int) + 4 ≤ 64 := by omega
      have q4 : (4 * (k : Int) + 4).toNat = 4 * k + 4 := by omega
      have q5 : (4 * (k : Int)).toNat = 4 * k := by omega
      have hrd := hmem.bb.reads (B := wr.heap.size) hmem.bb.lt (4 * k) 4 (by omega)
      have hbl := be32_lt b hb k
      have hc := hmem.bl.num (i := k) (by rw [hmem.len]; omega)
      have hf := hmem.bl.frozen k
      have hmem' := Lib.hid hmem
      have hrd' := Lib.hid hrd
      clear hmem hrd
      generalize l.getD k 0 = lk at *
      go_wp2_with fail
      refine (get32_any _ _ _ _ ((hb.drop (4 * k)).take 4) _ hrd'.out).mono ?_
      rintro e w1 ⟨rfl, rfl⟩
      go_wp2
      go_roundw
      case rel => exact ⟨k + 1, _, by omega, by go_num, hmem'.out.step (by omega) (be32 b k) (wAt_lo b k hlt).symm⟩
      case measure => simp [intOf]; omega
    · have hmem16 : SchMem G b l 16 w wr := by
        obtain rfl : k = 16 := by omega
        exact hmem
      have ek : (k : Int) = 16 := by omega
      clear hmem
      go_wp2
      clear ek hk hlt
      go_loopw [4] (fun s wr => ∃ (k : Nat) (l : List Nat), 16 ≤ k ∧ k ≤ 64 ∧ s = .int .i64 (k : Int) ∧ SchMem G b l k w wr) (fun s _ => 64 - (intOf s).toNat)
      case atStart => exact ⟨16, l, by omega, by omega, rfl, hmem16⟩
      case round =>
        clear hmem16
        obtain ⟨k, l, hk16, hk, rfl, hmem⟩ := hrel
        by_cases hlt : k < 64
        · have hlt' : (k : Int) < 64 := by omega
          have hk16' : 16 ≤ (k : Int) := by omega
          have hlen := hmem.len
          have c15 := hmem.bl.num (i := k - 15) (by omega)
          have c2 := hmem.bl.num (i := k - 2) (by omega)
          have c7 := hmem.bl.num (i := k - 7) (by omega)
          have c16 := hmem.bl.num (i := k - 16) (by omega)
          have cc := hmem.bl.num (i := k) (by omega)
          have ff := hmem.bl.frozen k
          rw [hmem.d _ (by omega)] at c15 c2 c7 c16
          have hw := Lib.hid (wAt_hi b k hk16 hlt)
          have l15 := wAt_lt b hb (k - 15)
          have l2 := wAt_lt b hb (k - 2)
          have l7 := wAt_lt b hb (k - 7)
          have l16 := wAt_lt b hb (k - 16)
          generalize wAt b (k - 15) = x15 at *
          generalize wAt b (k - 2) = x2 at *
          generalize wAt b (k - 7) = x7 at *
          generalize wAt b (k - 16) = x16 at *
          generalize l.getD k 0 = lk at *
          have i15 : ((k : Int) - 15).toNat = k - 15 := by omega
          have i2 : ((k : Int) - 2).toNat = k - 2 := by omega
          have i7 : ((k : Int) - 7).toNat = k - 7 := by omega
          have i16 : ((k : Int) - 16).toNat = k - 16 := by omega
          have w15 : IntKind.i64.wrap ((k : Int) - 15) = (k : Int) - 15 := IntWalk.i64_in _ (by omega)
          have w2 : IntKind.i64.wrap ((k : Int) - 2) = (k : Int) - 2 := IntWalk.i64_in _ (by omega)
          have w7 : IntKind.i64.wrap ((k : Int) - 7) = (k : Int) - 7 := IntWalk.i64_in _ (by omega)
          have w16 : IntKind.i64.wrap ((k : Int) - 16) = (k : Int) - 16 := IntWalk.i64_in _ (by omega)
          have n15 : 0 ≤ (k : Int) - 15 := by omega
          have n2 : 0 ≤ (k : Int) - 2 := by omega
          have n7 : 0 ≤ (k : Int) - 7 := by omega
          have n16 : 0 ≤ (k : Int) - 16 := by omega
          have u15 : (k : Int) - 15 < 64 := by omega
          have u2 : (k : Int) - 2 < 64 := by omega
          have u7 : (k : Int) - 7 < 64 := by omega
          have u16 : (k : Int) - 16 < 64 := by omega
          have e0 := sg0_eq x15 l15
          have e1 := sg1_eq x2 l2
          go_wp2
          go_quiet (fail)
          clear w15 w2 i15 i2
          go_wp2_with (first
            | (go_at_call 41; (with_reducible refine (rotr_lit x15 7 7 rfl l15 (by omega) (by omega) _).mono ?_); rintro e w1 ⟨rfl, rfl⟩)
            | (go_at_call 41; (with_reducible refine (rotr_lit x15 18 18 rfl l15 (by omega) (by omega) _).mono ?_); rintro e w1 ⟨rfl, rfl⟩)
            | (go_at_call 41; (with_reducible refine (rotr_lit x2 17 17 rfl l2 (by omega) (by omega) _).mono ?_); rintro e w1 ⟨rfl, rfl⟩)
            | (go_at_call 41; (with_reducible refine (rotr_lit x2 19 19 rfl l2 (by omega) (by omega) _).mono ?_); rintro e w1 ⟨rfl, rfl⟩))
          clear e0 e1
          go_region
          all_goals go_wp2
          all_goals go_roundw
          case rel =>
            have hval : ((sg1 x2 : Nat) + (x7 : Int) + (sg0 x15 : Nat) + (x16 : Int)) % 4294967296 = ((wAt b k : Nat) : Int) := by rw [hw.out]; omega
            refine ⟨k + 1, l.set k (wAt b k), by omega, by omega, by go_num, ?_⟩
            rw [hval]
            exact (hmem.drewN_ _).step hlt _ rfl
          case measure => simp [intOf]; omega
        · have ek : (k : Int) = 64 := by omega
          obtain rfl : k = 64 := by omega
          have hlen := hmem.len
          have hall := Lib.hid hmem.all
          have hbl := hmem.bl
          have hbel := hmem.bel
          have hst := run_storeBlk (P := Tryd.prog) hbl .u32 l (va_size _ _)
          have hsz0 : (Tryd.prog.info? 65).map (·.size) = some (va .u32 l).size := by rw [va_size, hlen]; kernel_rfl
          have hsz := Lib.hid hsz0
          clear hsz0
          have hvs : (va .u32 l).size = 64 := by rw [va_size, hlen]
          go_wp2_with (refine wpList_load_row rfl 65 (.tmp 2) rfl (G + 1) rfl 65 (va .u32 l) (0, 0) _ hbl Tryd.underlying65 rfl hsz.out ?_)
          clear hsz
          have hsz : (Tryd.prog.info? 65).map (·.size) = some (va .u32 l).size := by rw [va_size, hlen]; kernel_rfl
          exact bodyPost_ret (results_cell_row rfl _ _ (G + 1) 65 (va .u32 l) (0, 0) _ rfl (hbl.row _) Tryd.underlying65 rfl hsz) rfl ⟨by rw [hall.out], by rw [hGG]; exact below_setRow hbel (by omega) _⟩
end Go.Proofs.YtcdmbknmmnaocaaDoor
