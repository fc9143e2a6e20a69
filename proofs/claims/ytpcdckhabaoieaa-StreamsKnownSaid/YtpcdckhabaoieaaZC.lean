/-
  The walk of caissonref05.Table: all substitutes.
-/
import Derived.Test.YtpcdckhabaoieaaZB
import Derived.Test.YtpcdckhabaoieaaMem
import Derived.StillTailTactics
namespace Go.Proofs.Ytpcdckhabaoieaa
open Go.RowKit

/-- 256 zeros -/
def z256 : List Nat := List.replicate 256 0
theorem zv30 (w : World) : (zeroValue 82).run Try.prog w = .ok (.agg (va .u8 z256)) w := by kernel_rfl
theorem z256_len : z256.length = 256 := List.length_replicate ..

theorem getD_set_eq {l : List Nat} {i v : Nat} (h : i < l.length) : (l.set i v).getD i 0 = v := by
  simp [List.getD_eq_getElem?_getD, h]
theorem getD_set_ne {l : List Nat} {i j v : Nat} (h : i ≠ j) : (l.set i v).getD j 0 = l.getD j 0 := by
  simp [List.getD_eq_getElem?_getD, h]

/-- the two arrays of Table, and its result -/
structure TabMem (G : Nat) (o p : List Nat) (w wr : World) : Prop where
  r : Blk wr G 82 (va .u8 z256)
  bo : Blk wr (G + 1) 82 (va .u8 o)
  bp : Blk wr (G + 1 + 1) 82 (va .u8 p)
  ol : o.length = 256
  pl : p.length = 256
  bel : Below G w wr
theorem TabMem.setP {G : Nat} {o p : List Nat} {w wr : World} (h : TabMem G o p w wr) (i v : Nat) : TabMem G o (p.set i v) w (wr.setCell ⟨G + 1 + 1, i, none⟩ (.int .u8 (v : Int))) :=
  ⟨h.r.far (p := ⟨G + 1 + 1, i, none⟩) (by simp; omega) _, h.bo.far (p := ⟨G + 1 + 1, i, none⟩) (by simp) _, h.bp.setNum i v, h.ol, by rw [List.length_set]; exact h.pl, h.bel.setCell (by simp; omega) _⟩
theorem TabMem.setO {G : Nat} {o p : List Nat} {w wr : World} (h : TabMem G o p w wr) (i v : Nat) : TabMem G (o.set i v) p w (wr.setCell ⟨G + 1, i, none⟩ (.int .u8 (v : Int))) :=
  ⟨h.r.far (p := ⟨G + 1, i, none⟩) (by simp) _, h.bo.setNum i v, h.bp.far (p := ⟨G + 1, i, none⟩) (by simp) _, by rw [List.length_set]; exact h.ol, h.pl, h.bel.setCell (by simp) _⟩
theorem TabMem.drew_ {G : Nat} {o p : List Nat} {w wr : World} (h : TabMem G o p w wr) : TabMem G o p w wr.drew := ⟨h.r, h.bo, h.bp, h.ol, h.pl, h.bel.drew⟩

def subs : List Nat := (List.range 256).map Gf.sub
theorem subs_len : subs.length = 256 := by simp [subs]
def pows (p : List Nat) (k : Nat) : Prop := ∀ j, j < k → p.getD j 0 = Gf.ex j
def subd (o : List Nat) (k : Nat) : Prop := ∀ j, j < k → o.getD (Gf.ex j) 0 = Gf.sub (Gf.ex j)
theorem pows_step {p : List Nat} {k : Nat} (h : pows p k) (hl : k < p.length) : pows (p.set k (Gf.ex k)) (k + 1) := by
  intro j hj
  by_cases e : k = j
  · subst e; exact getD_set_eq hl
  · rw [getD_set_ne e]; exact h j (by omega)
theorem subd_step {o : List Nat} {k : Nat} (h : subd o k) (hl : Gf.ex k < o.length) : subd (o.set (Gf.ex k) (Gf.sub (Gf.ex k))) (k + 1) := by
  intro j hj
  by_cases e : Gf.ex k = Gf.ex j
  · rw [e]; exact getD_set_eq (by rw [← e]; exact hl)
  · rw [getD_set_ne e]; exact h j (by
      have : j ≠ k := by rintro rfl; exact e rfl
      omega)
theorem subd_all {o : List Nat} (h : subd o 255) (hl : o.length = 256) : o.set 0 (Gf.sub 0) = subs := by
  apply List.ext_getElem?
  intro i
  by_cases hi : i < 256
  · have e1 : (o.set 0 (Gf.sub 0)).getD i 0 = Gf.sub i := by
      by_cases h0 : 0 = i
      · subst h0; exact getD_set_eq (by omega)
      · rw [getD_set_ne h0]
        have := h (Gf.lg i) (Gf.lg_lt i hi)
        rw [Gf.ex_lg i hi (by omega)] at this; exact this
    have hi' : i < (o.set 0 (Gf.sub 0)).length := by rw [List.length_set]; omega
    rw [List.getD_eq_getElem?_getD, List.getElem?_eq_getElem hi'] at e1
    rw [List.getElem?_eq_getElem hi']
    simp only [Option.getD_some] at e1
    rw [e1]; unfold subs; rw [List.getElem?_map, List.getElem?_range hi]; rfl
  · rw [List.getElem?_eq_none (by rw [List.length_set]; omega), List.getElem?_eq_none (by simp [subs]; omega)]

theorem tw_lo (p : Nat) (hp : p < 256) (h : ¬ 255 < 2 * p) : bits .xor .u8 (2 * (p : Int)) (p : Int) = ((Gf.xt p ^^^ p : Nat) : Int) := by
  have e := Gf.xt_twice p hp
  rw [if_neg h, Nat.mod_eq_of_lt (by omega)] at e
  rw [show (2 * (p : Int)) = ((2 * p : Nat) : Int) from by omega, u8_xor_nat _ _ (by omega) hp, e]
theorem tw_hi (p : Nat) (hp : p < 256) (h : 255 < 2 * p) : bits .xor .u8 (bits .xor .i64 (2 * (p : Int)) 283 % 256) (p : Int) = ((Gf.xt p ^^^ p : Nat) : Int) := by
  have e := Gf.xt_twice p hp
  rw [if_pos h] at e
  rw [show (2 * (p : Int)) = ((2 * p : Nat) : Int) from by omega, show (283 : Int) = ((283 : Nat) : Int) from rfl, i64_xor_nat _ _ (by omega) (by omega)]
  rw [show (((2 * p ^^^ 283 : Nat) : Int) % 256) = (((2 * p ^^^ 283) % 256 : Nat) : Int) from by omega, u8_xor_nat _ _ (by omega) hp, e]

set_option maxRecDepth 100000 in
set_option maxHeartbeats 400000 in
theorem table_any (w : World) :
    Calls Try.prog 44 #[] w fun e w' => e = .returned (.agg (va .u8 subs)) ∧ Below w.heap.size w w' := by
  have hzv := zv30
  have hz0 : (va .u8 z256)[0]? = some (.int .u8 0) := by rw [va_get (by rw [z256_len]; omega)]; rfl
  go_enter Try.func44, Try.ntmps44
  go_wp2
  have hm : TabMem w.heap.size z256 (z256.set 0 1) w (((w.alloc (Obj.cells (va .u8 z256) 82)).alloc (Obj.cells (va .u8 z256) 82)).alloc (Obj.cells ((va .u8 z256).setIfInBounds 0 (.int .u8 1)) 82)) := by
    have e : (va .u8 z256).setIfInBounds 0 (.int .u8 1) = va .u8 (z256.set 0 1) := va_set .u8 z256 0 1
    rw [e]
    refine ⟨((Blk.new w _ _).alloc _).alloc _, ?_, ?_, z256_len, by rw [List.length_set]; exact z256_len, (((Below.refl _ _).alloc (Nat.le_refl _) _).alloc (by simp) _).alloc (by simp; omega) _⟩
    · have := (Blk.new (w.alloc (Obj.cells (va .u8 z256) 82)) 82 (va .u8 z256)).alloc (Obj.cells (va .u8 (z256.set 0 1)) 82)
      simpa using this
    · have := Blk.new ((w.alloc (Obj.cells (va .u8 z256) 82)).alloc (Obj.cells (va .u8 z256) 82)) 82 (va .u8 (z256.set 0 1))
      simpa using this
  have hp1 : pows (z256.set 0 1) 1 := by
    intro j hj
    obtain rfl : j = 0 := by omega
    rw [getD_set_eq (by rw [z256_len]; omega), Gf.ex_zero]
  generalize hGG : w.heap.size = G at *
  generalize z256.set 0 1 = P at hm hp1
  clear hzv hz0
  go_loopw [3, 4] (fun s _ wr => ∃ (k : Nat) (p : List Nat), 1 ≤ k ∧ k ≤ 256 ∧ s = .int .i64 (k : Int) ∧ pows p k ∧ TabMem G z256 p w wr) (fun s _ _ => 256 - (intOf s).toNat)
  case atStart => exact ⟨1, P, by omega, by omega, rfl, hp1, hm⟩
  case round =>
    obtain ⟨k, p, hk1, hk, rfl, hp, hmem⟩ := hrel
    clear hm hp1 P
    by_cases hlt : k < 256
    · have hlt' : (k : Int) < 256 := by omega
      have hk1' : 1 ≤ (k : Int) := by omega
      have hidx : ((k : Int) - 1).toNat = k - 1 := by omega
      have hl := hmem.pl
      have hc0 := hmem.bp.num (i := k - 1) (by omega)
      have hc1 := hmem.bp.num (i := k) (by omega)
      have hf1 := hmem.bp.frozen k
      rw [hp (k - 1) (by omega)] at hc0
      have hx := Gf.ex_lt (k - 1)
      generalize p.getD k 0 = pk at *
      have hs := Gf.ex_succ (k - 1) (by omega)
      rw [show k - 1 + 1 = k from by omega] at hs
      have hs' := Lib.hid hs
      clear hs
      by_cases hbig : 255 < 2 * Gf.ex (k - 1)
      · have hbig' : 255 < 2 * (Gf.ex (k - 1) : Int) := by omega
        go_wp2
        go_roundw
        case rel => exact ⟨k + 1, p.set k (Gf.ex k), by omega, by omega, by go_num, pows_step hp (by omega), by rw [tw_hi _ hx hbig, ← hs'.out]; exact hmem.setP k _⟩
        case measure => simp [intOf]; omega
      · have hbig' : 2 * (Gf.ex (k - 1) : Int) ≤ 255 := by omega
        go_wp2
        go_roundw
        case rel => exact ⟨k + 1, p.set k (Gf.ex k), by omega, by omega, by go_num, pows_step hp (by omega), by rw [tw_lo _ hx hbig, ← hs'.out]; exact hmem.setP k _⟩
        case measure => simp [intOf]; omega
    · have ek : (k : Int) = 256 := by omega
      replace hp : pows p 256 := fun j hj => hp j (by omega)
      go_wp2
      clear ek hk hk1 hlt
      go_loopw [5] (fun s wr => ∃ (k : Nat) (o : List Nat), k ≤ 255 ∧ s = .int .i64 (k : Int) ∧ subd o k ∧ TabMem G o p w wr) (fun s _ => 255 - (intOf s).toNat)
      case atStart => exact ⟨0, z256, by omega, rfl, fun j hj => by omega, hmem⟩
      case round =>
        obtain ⟨k, o, hk, rfl, ho, hmem⟩ := hrel
        by_cases hlt : k < 255
        · have hlt' : (k : Int) < 255 := by omega
          have hl := hmem.pl
          have hlo := hmem.ol
          have hc0 := hmem.bp.num (i := k) (by omega)
          have hc1 := hmem.bp.num (i := 255 - k) (by omega)
          have hx := Gf.ex_lt k
          have hc2 := hmem.bo.num (i := Gf.ex k) (by omega)
          have hf2 := hmem.bo.frozen (Gf.ex k)
          rw [hp k (by omega)] at hc0
          rw [hp (255 - k) (by omega), Gf.ex_inv k (by omega)] at hc1
          have hi := Gf.inv_lt (Gf.ex k)
          have hidx : ((255 : Int) - (k : Int)).toNat = 255 - k := by omega
          generalize o.getD (Gf.ex k) 0 = ok at *
          have hs := Lib.hid (Gf.sub_eq (Gf.ex k) hx)
          go_wp2
          have q1 : (k : Int) < 256 := by omega
          have q2 : (255 : Int) - (k : Int) < 256 := by omega
          have q3 : 0 ≤ (255 : Int) - (k : Int) := by omega
          have q3' : (k : Int) ≤ 255 := by omega
          have q4 : (Gf.ex k : Int) < 256 := by omega
          have q5 : IntKind.i64.wrap ((255 : Int) - (k : Int)) = (255 : Int) - (k : Int) := IntWalk.i64_in _ (by omega)
          refine wp_region_still_tail 9 (by kernel_rfl) (by kernel_rfl) ?_
          simp only [List.take_succ_cons, List.take_zero, List.drop_succ_cons, List.drop_zero]
          change wpStill _ _ wr.drew _ _ _
          iterate 7 still_step
          still_call ((subst_any _ hi _).mono (fun e w' h => ⟨h.1, h.2.symm⟩))
          still_step
          refine wpStill_nil ?_
          change wpList _ _ _ _ _ wr.drew
          go_wp2
          go_roundw
          case rel => exact ⟨k + 1, o.set (Gf.ex k) (Gf.sub (Gf.ex k)), by omega, by go_num, subd_step ho (by omega), by rw [hs.out]; first | exact (hmem.setO _ _).drew_ | exact hmem.drew_.setO _ _⟩
          case measure => simp [intOf]; omega
        · have ek : (k : Int) = 255 := by omega
          obtain rfl : k = 255 := by omega
          have hc0 := hmem.bo.num (i := 0) (by have := hmem.ol; omega)
          have hf0 := hmem.bo.frozen 0
          have hall := Lib.hid (subd_all ho hmem.ol)
          generalize o.getD 0 0 = o0 at *
          go_wp2_with fail
          refine (subst_any 0 (by omega) _).mono ?_
          rintro e w3 ⟨rfl, rfl⟩
          have haff : Gf.aff 0 = Gf.sub 0 := Gf.sub_eq 0 (by omega)
          have hm2 : TabMem G subs p w (wr.setCell ⟨G + 1, 0, none⟩ (.int .u8 (Gf.aff 0 : Nat))) := by rw [← hall.out, haff]; exact hmem.setO 0 _
          have hm3 := Lib.hid hm2
          clear haff hm2 hall hmem
          go_wp2
          have hm2 := hm3.out
          generalize wr.setCell ⟨G + 1, 0, none⟩ (.int .u8 (Gf.aff 0 : Nat)) = w3 at *
          have hsz : (Try.prog.info? 82).map (·.size) = some (va .u8 subs).size := by rw [va_size, subs_len]; kernel_rfl
          refine wp_load_row 82 (.tmp 1) rfl (G + 1) rfl 82 (va .u8 subs) (0, 0) _ hm2.bo Try.underlying82 rfl hsz ?_
          clear hsz
          have hst := run_storeBlk (P := Try.prog) hm2.r .u8 subs (by rw [va_size, subs_len, z256_len])
          go_wp2
          have hsz : (Try.prog.info? 82).map (·.size) = some (va .u8 subs).size := by rw [va_size, subs_len]; kernel_rfl
          exact bodyPost_ret (results_cell_row rfl _ _ G 82 (va .u8 subs) (0, 0) _ rfl (hm2.r.row _) Try.underlying82 rfl hsz) rfl ⟨rfl, by rw [hGG]; exact below_setRow hm2.bel (Nat.le_refl _) _⟩
end Go.Proofs.Ytpcdckhabaoieaa

/-
  The functions of package fields, and of its reference, with results that the caller names.
-/
namespace Go.Proofs.Ytpcdckhabaoieaa
open Go.RowKit

theorem mul_to (a b c : Nat) (ha : a < 256) (hb : b < 256) (hc : Gf.gm a b = c) (w : World) :
    Calls Try.prog 42 #[.int .u8 (a : Int), .int .u8 (b : Int)] w fun e w' => e = .returned (.int .u8 (c : Int)) ∧ Below w.heap.size w w' := by
  rw [← hc]; exact mul_nat a b ha hb w
theorem rmul_to (a b c : Nat) (ha : a < 256) (hb : b < 256) (hc : Gf.gm a b = c) (w : World) :
    Calls Try.prog 46 #[.int .u8 (a : Int), .int .u8 (b : Int)] w fun e w' => e = .returned (.int .u8 (c : Int)) ∧ Below w.heap.size w w' := by
  rw [← hc]; exact rmul_any a b ha hb w
theorem power_to (a : Nat) (n : Int) (c : Nat) (ha : a < 256) (hc : Gf.powZ a n = c) (w : World) :
    Calls Try.prog 28 #[.int .u8 (a : Int), .int .i64 n] w fun e w' => e = .returned (.int .u8 (c : Int)) ∧ Below w.heap.size w w' :=
  power_any a n c (by omega) (by omega) hc w
theorem sub_to (a c : Nat) (ha : a < 256) (hc : Gf.sub a = c) (w : World) :
    Calls Try.prog 27 #[.int .u8 (a : Int)] w fun e w' => e = .returned (.int .u8 (c : Int)) ∧ Below w.heap.size w w' :=
  sub_any a c (by omega) (by omega) hc w
end Go.Proofs.Ytpcdckhabaoieaa

/-
  Plain words for ciphers: blocks as lists of 16 bytes.
-/
namespace Go.Proofs.Ytpcdckhabaoieaa.Ci

/-- a list whose first k elements are written anew -/
def upd (f : Nat → Nat) (b : List Nat) (k : Nat) : List Nat := (List.range b.length).map fun i => if i < k then f i else b.getD i 0
theorem upd_len (f : Nat → Nat) (b : List Nat) (k : Nat) : (upd f b k).length = b.length := by simp [upd]
theorem upd_get (f : Nat → Nat) (b : List Nat) (k i : Nat) (hi : i < b.length) : (upd f b k).getD i 0 = if i < k then f i else b.getD i 0 := by
  simp [upd, List.getD_eq_getElem?_getD, hi]
theorem upd_zero (f : Nat → Nat) (b : List Nat) : upd f b 0 = b := by
  apply List.ext_getElem
  · simp [upd]
  · intro i h1 h2
    simp [upd, List.getD_eq_getElem?_getD, h2]
theorem upd_set (f : Nat → Nat) (b : List Nat) (k : Nat) : (upd f b k).set k (f k) = upd f b (k + 1) := by
  apply List.ext_getElem
  · simp [upd]
  · intro i h1 h2
    have hi : i < b.length := by simpa [upd] using h2
    rw [List.getElem_set]
    by_cases e : k = i
    · subst e
      simp [upd]
    · rw [if_neg e]
      simp only [upd, List.getElem_map, List.getElem_range]
      by_cases h : i < k
      · rw [if_pos h, if_pos (by omega)]
      · rw [if_neg h, if_neg (by omega)]
theorem upd_all (f : Nat → Nat) (b : List Nat) (k : Nat) (hk : b.length ≤ k) : upd f b k = (List.range b.length).map f := by
  apply List.map_congr_left
  intro i hi
  rw [if_pos (by have := List.mem_range.1 hi; omega)]

/-- the steps of a round -/
def addK (b key : List Nat) : List Nat := (List.range 16).map fun i => b.getD i 0 ^^^ key.getD i 0
def each (s : Nat → Nat) (b : List Nat) : List Nat := (List.range 16).map fun i => s (b.getD i 0)
def rot (p : Nat) (b : List Nat) : List Nat := (List.range 16).map fun i => b.getD (4 * ((i / 4 + p * (i % 4)) % 4) + i % 4) 0
def mixS (f b : List Nat) (c r : Nat) : Nat → Nat
  | 0 => 0
  | j + 1 => mixS f b c r j ^^^ Gf.gm (f.getD j 0) (b.getD (4 * c + (r + j) % 4) 0)
def mix (f b : List Nat) : List Nat := (List.range 16).map fun i => mixS f b (i / 4) (i % 4) 4

def Byt (l : List Nat) : Prop := ∀ x ∈ l, x < 256
theorem Byt.get {l : List Nat} (h : Byt l) (i : Nat) : l.getD i 0 < 256 := by
  rw [List.getD_eq_getElem?_getD]
  rcases Nat.lt_or_ge i l.length with hi | hi
  · rw [List.getElem?_eq_getElem hi]; exact h _ (List.getElem_mem hi)
  · rw [List.getElem?_eq_none hi]; simp
theorem byt_map {f : Nat → Nat} {n : Nat} (h : ∀ i, i < n → f i < 256) : Byt ((List.range n).map f) := by
  intro x hx
  obtain ⟨i, hi, rfl⟩ := List.mem_map.1 hx
  exact h i (List.mem_range.1 hi)
theorem addK_byt {b k : List Nat} (hb : Byt b) (hk : Byt k) : Byt (addK b k) := byt_map fun i _ => Nat.xor_lt_two_pow (n := 8) (hb.get i) (hk.get i)
theorem rot_byt {p : Nat} {b : List Nat} (hb : Byt b) : Byt (rot p b) := byt_map fun i _ => hb.get _
theorem addK_len (b k : List Nat) : (addK b k).length = 16 := by simp [addK]
theorem each_len (s : Nat → Nat) (b : List Nat) : (each s b).length = 16 := by simp [each]
theorem rot_len (p : Nat) (b : List Nat) : (rot p b).length = 16 := by simp [rot]
theorem mix_len (f b : List Nat) : (mix f b).length = 16 := by simp [mix]
theorem mixS_lt (f b : List Nat) (hf : Byt f) (hb : Byt b) (c r : Nat) : ∀ j, mixS f b c r j < 256
  | 0 => by simp [mixS]
  | j + 1 => by
    unfold mixS
    exact Nat.xor_lt_two_pow (n := 8) (mixS_lt f b hf hb c r j) (Gf.gm_lt _ _ (hf.get j))
theorem mix_byt {f b : List Nat} (hf : Byt f) (hb : Byt b) : Byt (mix f b) := byt_map fun i _ => mixS_lt f b hf hb _ _ 4
end Go.Proofs.Ytpcdckhabaoieaa.Ci
