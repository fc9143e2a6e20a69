/-
  The walk of caissonref05.Table: all substitutes.
-/
import Derived.Test.YtpcdckhabaoieaaFRef2
import Derived.Test.YtpcdckhabaoieaaMem
import Derived.StillTailTactics
namespace Go.Proofs.Ytpcdckhabaoieaa
open Go.RowKit

/-- 256 zeros -/
def z256 : List Nat := List.replicate 256 0
theorem zv30 (w : World) : (zeroValue 82).run Try.prog w = .ok (.agg (va .u8 z256)) w := by kernel_rfl
theorem z256_len : z256.length = 256 := List.length_replicate ..

theorem getD_set_eq {l : List Nat} {i v : Nat} (h : i < l.length) : (l.set i v).getD i 0 = v := by
  simp [List.getD_eq_getElem?_getD, h]
theorem getD_set_ne {l : List Nat} {i j v : Nat} (h : i ≠ j) : (l.set i v).getD j 0 = l.getD j 0 := by
  simp [List.getD_eq_getElem?_getD, h]

/-- the two arrays of Table, and its result -/
structure TabMem (G : Nat) (o p : List Nat) (w wr : World) : Prop where
  r : Blk wr G 82 (va .u8 z256)
  bo : Blk wr (G + 1) 82 (va .u8 o)
  bp : Blk wr (G + 1 + 1) 82 (va .u8 p)
  ol : o.length = 256
  pl : p.length = 256
  bel : Below G w wr
theorem TabMem.setP {G : Nat} {o p : List Nat} {w wr : World} (h : TabMem G o p w wr) (i v : Nat) : TabMem G o (p.set i v) w (wr.setCell ⟨G + 1 + 1, i, none⟩ (.int .u8 (v : Int))) :=
  ⟨h.r.far (p := ⟨G + 1 + 1, i, none⟩) (by simp; omega) _, h.bo.far (p := ⟨G + 1 + 1, i, none⟩) (by simp) _, h.bp.setNum i v, h.ol, by rw [List.length_set]; exact h.pl, h.bel.setCell (by simp; omega) _⟩
theorem TabMem.setO {G : Nat} {o p : List Nat} {w wr : World} (h : TabMem G o p w wr) (i v : Nat) : TabMem G (o.set i v) p w (wr.setCell ⟨G + 1, i, none⟩ (.int .u8 (v : Int))) :=
  ⟨h.r.far (p := ⟨G + 1, i, none⟩) (by simp) _, h.bo.setNum i v, h.bp.far (p := ⟨G + 1, i, none⟩) (by simp) _, by rw [List.length_set]; exact h.ol, h.pl, h.bel.setCell (by simp) _⟩
theorem TabMem.drew_ {G : Nat} {o p : List Nat} {w wr : World} (h : TabMem G o p w wr) : TabMem G o p w wr.drew := ⟨h.r, h.bo, h.bp, h.ol, h.pl, h.bel.drew⟩

def subs : List Nat := (List.range 256).map Gf.sub
theorem subs_len : subs.length = 256 := by simp [subs]
def pows (p : List Nat) (k : Nat) : Prop := ∀ j, j < k → p.getD j 0 = Gf.ex j
def subd (o : List Nat) (k : Nat) : Prop := ∀ j, j < k → o.getD (Gf.ex j) 0 = Gf.sub (Gf.ex j)
theorem pows_step {p : List Nat} {k : Nat} (h : pows p k) (hl : k < p.length) : pows (p.set k (Gf.ex k)) (k + 1) := by
  intro j hj
  by_cases e : k = j
  · subst e; exact getD_set_eq hl
  · rw [getD_set_ne e]; exact h j (by omega)
theorem subd_step {o : List Nat} {k : Nat} (h : subd o k) (hl : Gf.ex k < o.length) : subd (o.set (Gf.ex k) (Gf.sub (Gf.ex k))) (k + 1) := by
  intro j hj
  by_cases e : Gf.ex k = Gf.ex j
  · rw [e]; exact getD_set_eq (by rw [← e]; exact hl)
  · rw [getD_set_ne e]; exact h j (by
      have : j ≠ k := by rintro rfl; exact e rfl
      omega)
theorem subd_all {o : List Nat} (h : subd o 255) (hl : o.length = 256) : o.set 0 (Gf.sub 0) = subs := by
  apply List.ext_getElem?
  intro i
  by_cases hi : i < 256
  · have e1 : (o.set 0 (Gf.sub 0)).getD i 0 = Gf.sub i := by
      by_cases h0 : 0 = i
      · subst h0; exact getD_set_eq (by omega)
      · rw [getD_set_ne h0]
        have := h (Gf.lg i) (Gf.lg_lt i hi)
        rw [Gf.ex_lg i hi (by omega)] at this; exact this
    have hi' : i < (o.set 0 (Gf.sub 0)).length := by rw [List.length_set]; omega
    rw [List.getD_eq_getElem?_getD, List.getElem?_eq_getElem hi'] at e1
    rw [List.getElem?_eq_getElem hi']
    simp only [Option.getD_some] at e1
    rw [e1]; unfold subs; rw [List.getElem?_map, List.getElem?_range hi]; rfl
  · rw [List.getElem?_eq_none (by rw [List.length_set]; omega), List.getElem?_eq_none (by simp [subs]; omega)]

theorem tw_lo (p : Nat) (hp : p < 256) (h : ¬ 255 < 2 * p) : bits .xor .u8 (2 * (p : Int)) (p : Int) = ((Gf.xt p ^^^ p : Nat) : Int) := by
  have e := Gf.xt_twice p hp
  rw [if_neg h, Nat.mod_eq_of_lt (by omega)] at e
  rw [show (2 * (p : Int)) = ((2 * p : Nat) : Int) from by omega, u8_xor_nat _ _ (by omega) hp, e]
theorem tw_hi (p : Nat) (hp : p < 256) (h : 255 < 2 * p) : bits .xor .u8 (bits .xor .i64 (2 * (p : Int)) 283 % 256) (p : Int) = ((Gf.xt p ^^^ p : Nat) : Int) := by
  have e := Gf.xt_twice p hp
  rw [if_pos h] at e
  rw [show (2 * (p : Int)) = ((2 * p : Nat) : Int) from by omega, show (283 : Int) = ((283 : Nat) : Int) from rfl, i64_xor_nat _ _ (by omega) (by omega)]
  rw [show (((2 * p ^^^ 283 : Nat) : Int) % 256) = (((2 * p ^^^ 283) % 256 : Nat) : Int) from by omega, u8_xor_nat _ _ (by omega) hp, e]

set_option maxRecDepth 100000 in
set_option maxHeartbeats 400000 in
theorem table_any (w : World) :
    Calls Try.prog 44 #[] w fun e w' => e = .returned (.agg (va .u8 subs)) ∧ Below w.heap.size w w' := by
  have hzv := zv30
  have hz0 : (va .u8 z256)[0]? = some (.int .u8 0) := by rw [va_get (by rw [z256_len]; omega)]; rfl
  go_enter Try.func44, Try.ntmps44
  go_wp2
  have hm : TabMem w.heap.size z256 (z256.set 0 1) w (((w.alloc (Obj.cells (va .u8 z256) 82)).alloc (Obj.cells (va .u8 z256) 82)).alloc (Obj.cells ((va .u8 z256).setIfInBounds 0 (.int .u8 1)) 82)) := by
    have e : (va .u8 z256).setIfInBounds 0 (.int .u8 1) = va .u8 (z256.set 0 1) := va_set .u8 z256 0 1
    rw [e]
    refine ⟨((Blk.new w _ _).alloc _).alloc _, ?_, ?_, z256_len, by rw [List.length_set]; exact z256_len, (((Below.refl _ _).alloc (Nat.le_refl _) _).alloc (by simp) _).alloc (by simp; omega) _⟩
    · have := (Blk.new (w.alloc (Obj.cells (va .u8 z256) 82)) 82 (va .u8 z256)).alloc (Obj.cells (va .u8 (z256.set 0 1)) 82)
      simpa using this
    · have := Blk.new ((w.alloc (Obj.cells (va .u8 z256) 82)).alloc (Obj.cells (va .u8 z256) 82)) 82 (va .u8 (z256.set 0 1))
      simpa using this
  have hp1 : pows (z256.set 0 1) 1 := by
    intro j hj
    obtain rfl : j = 0 := by omega
    rw [getD_set_eq (by rw [z256_len]; omega), Gf.ex_zero]
  generalize hGG : w.heap.size = G at *
  generalize z256.set 0 1 = P at hm hp1
  clear hzv hz0
  go_loopw [3, 4] (fun s _ wr => ∃ (k : Nat) (p : List Nat), 1 ≤ k ∧ k ≤ 256 ∧ s = .int .i64 (k : Int) ∧ pows p k ∧ TabMem G z256 p w wr) (fun s _ _ => 256 - (intOf s).toNat)
  case atStart => exact ⟨1, P, by omega, by omega, rfl, hp1, hm⟩
  case round =>
    obtain ⟨k, p, hk1, hk, rfl, hp, hmem⟩ := hrel
    clear hm hp1 P
    by_cases hlt : k < 256
    · have hlt' : (k : Int) < 256 := by omega
      have hk1' : 1 ≤ (k : Int) := by omega
      have hidx : ((k : Int) - 1).toNat = k - 1 := by omega
      have hl := hmem.pl
      have hc0 := hmem.bp.num (i := k - 1) (by omega)
      have hc1 := hmem.bp.num (i := k) (by omega)
      have hf1 := hmem.bp.frozen k
      rw [hp (k - 1) (by omega)] at hc0
      have hx := Gf.ex_lt (k - 1)
      generalize p.getD k 0 = pk at *
      have hs := Gf.ex_succ (k - 1) (by omega)
      rw [show k - 1 + 1 = k from by omega] at hs
      have hs' := Lib.hid hs
      clear hs
      by_cases hbig : 255 < 2 * Gf.ex (k - 1)
      · have hbig' : 255 < 2 * (Gf.ex (k - 1) : Int) := by omega
        go_wp2
        go_roundw
        case rel => exact ⟨k + 1, p.set k (Gf.ex k), by omega, by omega, by go_num, pows_step hp (by omega), by rw [tw_hi _ hx hbig, ← hs'.out]; exact hmem.setP k _⟩
        case measure => simp [intOf]; omega
      · have hbig' : 2 * (Gf.ex (k - 1) : Int) ≤ 255 := by omega
        go_wp2
        go_roundw
        case rel => exact ⟨k + 1, p.set k (Gf.ex k), by omega, by omega, by go_num, pows_step hp (by omega), by rw [tw_lo _ hx hbig, ← hs'.out]; exact hmem.setP k _⟩
        case measure => simp [intOf]; omega
    · have ek : (k : Int) = 256 := by omega
      replace hp : pows p 256 := fun j hj => hp j (by omega)
      go_wp2
      clear ek hk hk1 hlt
      go_loopw [5] (fun s wr => ∃ (k : Nat) (o : List Nat), k ≤ 255 ∧ s = .int .i64 (k : Int) ∧ subd o k ∧ TabMem G o p w wr) (fun s _ => 255 - (intOf s).toNat)
      case atStart => exact ⟨0, z256, by omega, rfl, fun j hj => by omega, hmem⟩
      case round =>
        obtain ⟨k, o, hk, rfl, ho, hmem⟩ := hrel
        by_cases hlt : k < 255
        · have hlt' : (k : Int) < 255 := by omega
          have hl := hmem.pl
          have hlo := hmem.ol
          have hc0 := hmem.bp.num (i := k) (by omega)
          have hc1 := hmem.bp.num (i := 255 - k) (by omega)
          have hx := Gf.ex_lt k
          have hc2 := hmem.bo.num (i := Gf.ex k) (by omega)
          have hf2 := hmem.bo.frozen (Gf.ex k)
          rw [hp k (by omega)] at hc0
          rw [hp (255 - k) (by omega), Gf.ex_inv k (by omega)] at hc1
          have hi := Gf.inv_lt (Gf.ex k)
          have hidx : ((255 : Int) - (k : Int)).toNat = 255 - k := by omega
          generalize o.getD (Gf.ex k) 0 = ok at *
          have hs := Lib.hid (Gf.sub_eq (Gf.ex k) hx)
          go_wp2
          have q1 : (k : Int) < 256 := by omega
          have q2 : (255 : Int) - (k : Int) < 256 := by omega
          have q3 : 0 ≤ (255 : Int) - (k : Int) := by omega
          have q3' : (k : Int) ≤ 255 := by omega
          have q4 : (Gf.ex k : Int) < 256 := by omega
          have q5 : IntKind.i64.wrap ((255 : Int) - (k : Int)) = (255 : Int) - (k : Int) := IntWalk.i64_in _ (by omega)
          refine wp_region_still_tail 9 (by kernel_rfl) (by kernel_rfl) ?_
          simp only [List.take_succ_cons, List.take_zero, List.drop_succ_cons, List.drop_zero]
          change wpStill _ _ wr.drew _ _ _
          iterate 7 still_step
          still_call ((subst_any _ hi _).mono (fun e w' h => ⟨h.1, h.2.symm⟩))
          still_step
          refine wpStill_nil ?_
          change wpList _ _ _ _ _ wr.drew
          go_wp2
          go_roundw
          case rel => exact ⟨k + 1, o.set (Gf.ex k) (Gf.sub (Gf.ex k)), by omega, by go_num, subd_step ho (by omega), by rw [hs.out]; first | exact (hmem.setO _ _).drew_ | exact hmem.drew_.setO _ _⟩
          case measure => simp [intOf]; omega
        · have ek : (k : Int) = 255 := by omega
          obtain rfl : k = 255 := by omega
          have hc0 := hmem.bo.num (i := 0) (by have := hmem.ol; omega)
          have hf0 := hmem.bo.frozen 0
          have hall := Lib.hid (subd_all ho hmem.ol)
          generalize o.getD 0 0 = o0 at *
          go_wp2_with fail
          refine (subst_any 0 (by omega) _).mono ?_
          rintro e w3 ⟨rfl, rfl⟩
          have haff : Gf.aff 0 = Gf.sub 0 := Gf.sub_eq 0 (by omega)
          have hm2 : TabMem G subs p w (wr.setCell ⟨G + 1, 0, none⟩ (.int .u8 (Gf.aff 0 : Nat))) := by rw [← hall.out, haff]; exact hmem.setO 0 _
          have hm3 := Lib.hid hm2
          clear haff hm2 hall hmem
          go_wp2
          have hm2 := hm3.out
          generalize wr.setCell ⟨G + 1, 0, none⟩ (.int .u8 (Gf.aff 0 : Nat)) = w3 at *
          have hsz : (Try.prog.info? 82).map (·.size) = some (va .u8 subs).size := by rw [va_size, subs_len]; kernel_rfl
          refine wp_load_row 82 (.tmp 1) rfl (G + 1) rfl 82 (va .u8 subs) (0, 0) _ hm2.bo Try.underlying82 rfl hsz ?_
          clear hsz
          have hst := run_storeBlk (P := Try.prog) hm2.r .u8 subs (by rw [va_size, subs_len, z256_len])
          go_wp2
          have hsz : (Try.prog.info? 82).map (·.size) = some (va .u8 subs).size := by rw [va_size, subs_len]; kernel_rfl
          exact bodyPost_ret (results_cell_row rfl _ _ G 82 (va .u8 subs) (0, 0) _ rfl (hm2.r.row _) Try.underlying82 rfl hsz) rfl ⟨rfl, by rw [hGG]; exact below_setRow hm2.bel (Nat.le_refl _) _⟩
end Go.Proofs.Ytpcdckhabaoieaa
