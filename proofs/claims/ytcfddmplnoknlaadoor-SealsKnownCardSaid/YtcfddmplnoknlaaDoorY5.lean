/-
  The walk of caissonref05.Table: all substitutes.
-/
import Derived.Test.YtcfddmplnoknlaaDoorY4
import Derived.StillTailTactics
import Derived.Deep.RegionWith
import Derived.Deep.MidRow
namespace Go.Proofs.YtcfddmplnoknlaaDoor
set_option maxRecDepth 16384
open Go.RowKit

def z256 : List Nat := List.replicate 256 0
theorem zv30 (w : World) : (zeroValue 139).run Tryd.prog w = .ok (.agg (va .u8 z256)) w := by kernel_rfl
theorem z256_len : z256.length = 256 := List.length_replicate ..

theorem getD_set_eq {l : List Nat} {i v : Nat} (h : i < l.length) : (l.set i v).getD i 0 = v := by
 simp [List.getD_eq_getElem?_getD, h]
theorem getD_set_ne {l : List Nat} {i j v : Nat} (h : i ≠ j) : (l.set i v).getD j 0 = l.getD j 0 := by
 simp [List.getD_eq_getElem?_getD, h]

structure TabMem (G : Nat) (o p : List Nat) (w wr : World) : Prop where
 r : Blk wr G 139 (va .u8 z256)
 bo : Blk wr (G + 1) 139 (va .u8 o)
 bp : Blk wr (G + 1 + 1) 139 (va .u8 p)
 ol : o.length = 256
 pl : p.length = 256
 bel : Below G w wr
theorem TabMem.setP {G : Nat} {o p : List Nat} {w wr : World} (h : TabMem G o p w wr) (i v : Nat) : TabMem G o (p.set i v) w (wr.setCell ⟨G + 1 + 1, i, none⟩ (.int .u8 (v : Int))) :=
 ⟨h.r.far (p := ⟨G + 1 + 1, i, none⟩) (by simp; omega) _, h.bo.far (p := ⟨G + 1 + 1, i, none⟩) (by simp) _, h.bp.setNum i v, h.ol, by rw [List.length_set]; exact h.pl, h.bel.setCell (by simp; omega) _⟩
theorem TabMem.setO {G : Nat} {o p : List Nat} {w wr : World} (h : TabMem G o p w wr) (i v : Nat) : TabMem G (o.set i v) p w (wr.setCell ⟨G + 1, i, none⟩ (.int .u8 (v : Int))) :=
 ⟨h.r.far (p := ⟨G + 1, i, none⟩) (by simp) _, h.bo.setNum i v, h.bp.far (p := ⟨G + 1, i, none⟩) (by simp) _, by rw [List.length_set]; exact h.ol, h.pl, h.bel.setCell (by simp) _⟩
theorem TabMem.drew_ {G : Nat} {o p : List Nat} {w wr : World} (h : TabMem G o p w wr) : TabMem G o p w wr.drew := ⟨h.r, h.bo, h.bp, h.ol, h.pl, h.bel.drew⟩

def subs : List Nat := (List.range 256).map Gf.sub
theorem subs_len : subs.length = 256 := by simp [subs]
def pows (p : List Nat) (k : Nat) : Prop := ∀ j, j < k → p.getD j 0 = Gf.ex j
def subd (o : List Nat) (k : Nat) : Prop := ∀ j, j < k → o.getD (Gf.ex j) 0 = Gf.sub (Gf.ex j)
theorem pows_step {p : List Nat} {k : Nat} (h : pows p k) (hl : k < p.length) : pows (p.set k (Gf.ex k)) (k + 1) := by
  intro j hj
  by_cases e : k = j
  · subst e; exact getD_set_eq hl
  · rw [getD_set_ne e]; exact h j (by omega)
theorem subd_step {o : List Nat} {k : Nat} (h : subd o k) (hl : Gf.ex k < o.length) : subd (o.set (Gf.ex k) (Gf.sub (Gf.ex k))) (k + 1) := by
  intro j hj
  by_cases e : Gf.ex k = Gf.ex j
  · rw [e]; exact getD_set_eq (by rw [← e]; exact hl)
  · rw [getD_set_ne e]; exact h j (by
      have : j ≠ k := by rintro rfl; exact e rfl
      omega)
theorem subd_all {o : List Nat} (h : subd o 255) (hl : o.length = 256) : o.set 0 (Gf.sub 0) = subs := by
  apply List.ext_getElem?
  intro i
  by_cases hi : i < 256
  · have e1 : (o.set 0 (Gf.sub 0)).getD i 0 = Gf.sub i := by
      by_cases h0 : 0 = i
      · subst h0; exact getD_set_eq (by omega)
      · rw [getD_set_ne h0]
        have := h (Gf.lg i) (Gf.lg_lt i hi)
        rw [Gf.ex_lg i hi (by omega)] at this; exact this
    have hi' : i < (o.set 0 (Gf.sub 0)).length := by rw [List.length_set]; omega
    rw [List.getD_eq_getElem?_getD, List.getElem?_eq_getElem hi'] at e1
    rw [List.getElem?_eq_getElem hi']
    simp only [Option.getD_some] at e1
    rw [e1]; unfold subs; rw [List.getElem?_map, List.getElem?_range hi]; rfl
  · rw [List.getElem?_eq_none (by rw [List.length_set]; omega), List.getElem?_eq_none (by simp [subs]; omega)]

theorem tw_lo (p : Nat) (hp : p < 256) (h : ¬ 255 < 2 * p) : bits .xor .u8 (2 * (p : Int)) (p : Int) = ((Gf.xt p ^^^ p : Nat) : Int) := by
 have e := Gf.xt_twice p hp
 rw [if_neg h, Nat.mod_eq_of_lt (by omega)] at e
 rw [show (2 * (p : Int)) = ((2 * p : Nat) : Int) from by omega, u8_xor_nat _ _ (by omega) hp, e]
theorem tw_hi (p : Nat) (hp : p < 256) (h : 255 < 2 * p) : bits .xor .u8 (bits .xor .i64 (2 * (p : Int)) 283 % 256) (p : Int) = ((Gf.xt p ^^^ p : Nat) : Int) := by
 have e := Gf.xt_twice p hp
 rw [if_pos h] at e
 rw [show (2 * (p : Int)) = ((2 * p : Nat) : Int) from by omega, show (283 : Int) = ((283 : Nat) : Int) from rfl, i64_xor_nat _ _ (by omega) (by omega)]
 rw [show (((2 * p ^^^ 283 : Nat) : Int) % 256) = (((2 * p ^^^ 283) % 256 : Nat) : Int) from by omega, u8_xor_nat _ _ (by omega) hp, e]

set_option maxRecDepth 100000 in
set_option maxHeartbeats 400000 in
theorem table_any (w : World) :
    Calls Tryd.prog 90 #[] w fun e w' => e = .returned (.agg (va .u8 subs)) ∧ Below w.heap.size w w' := by
  have hzv := zv30
  have hz0 : (va .u8 z256)[0]? = some (.int .u8 0) := by rw [va_get (by rw [z256_len]; omega)]; rfl
  go_enter Tryd.func90, Tryd.ntmps90
  go_wp2
  have hm : TabMem w.heap.size z256 (z256.set 0 1) w (((w.alloc (Obj.cells (va .u8 z256) 139)).alloc (Obj.cells (va .u8 z256) 139)).alloc (Obj.cells ((va .u8 z256).setIfInBounds 0 (.int .u8 1)) 139)) := by
    have e : (va .u8 z256).setIfInBounds 0 (.int .u8 1) = va .u8 (z256.set 0 1) := va_set .u8 z256 0 1
    rw [e]
    refine ⟨((Blk.new w _ _).alloc _).alloc _, ?_, ?_, z256_len, by rw [List.length_set]; exact z256_len, (((Below.refl _ _).alloc (Nat.le_refl _) _).alloc (by simp) _).alloc (by simp; omega) _⟩
    · have := (Blk.new (w.alloc (Obj.cells (va .u8 z256) 139)) 139 (va .u8 z256)).alloc (Obj.cells (va .u8 (z256.set 0 1)) 139)
      simpa using this
    · have := Blk.new ((w.alloc (Obj.cells (va .u8 z256) 139)).alloc (Obj.cells (va .u8 z256) 139)) 139 (va .u8 (z256.set 0 1))
      simpa using this
  have hp1 : pows (z256.set 0 1) 1 := by
    intro j hj
    obtain rfl : j = 0 := by omega
    rw [getD_set_eq (by rw [z256_len]; omega), Gf.ex_zero]
  generalize hGG : w.heap.size = G at *
  generalize z256.set 0 1 = P at hm hp1
  clear hzv hz0
  go_loopw [3, 4] (fun s _ wr => ∃ (k : Nat) (p : List Nat), 1 ≤ k ∧ k ≤ 256 ∧ s = .int .i64 (k : Int) ∧ pows p k ∧ TabMem G z256 p w wr) (fun s _ _ => 256 - (intOf s).toNat)
  case atStart => exact ⟨1, P, by omega, by omega, rfl, hp1, hm⟩
  case round =>
    obtain ⟨k, p, hk1, hk, rfl, hp, hmem⟩ := hrel
    clear hm hp1 P
    by_cases hlt : k < 256
    · have hlt' : (k : Int) < 256 := by omega
      have hk1' : 1 ≤ (k : Int) := by omega
      have hidx : ((k : Int) - 1).toNat = k - 1 := by omega
      have hl := hmem.pl
      have hc0 := hmem.bp.num (i := k - 1) (by omega)
      have hc1 := hmem.bp.num (i := k) (by omega)
      have hf1 := hmem.bp.frozen k
      rw [hp (k - 1) (by omega)] at hc0
      have hx := Gf.ex_lt (k - 1)
      generalize p.getD k 0 = pk at *
      have hs := Gf.ex_succ (k - 1) (by omega)
      rw [show k - 1 + 1 = k from by omega] at hs
      have hs' := Lib.hid hs
      clear hs
      by_cases hbig : 255 < 2 * Gf.ex (k - 1)
      · have hbig' : 255 < 2 * (Gf.ex (k - 1) : Int) := by omega
        go_wp2
        go_roundw
        case rel => exact ⟨k + 1, p.set k (Gf.ex k), by omega, by omega, by go_num, pows_step hp (by omega), by rw [tw_hi _ hx hbig, ← hs'.out]; exact hmem.setP k _⟩
        case measure => simp [intOf]; omega
      · have hbig' : 2 * (Gf.ex (k - 1) : Int) ≤ 255 := by omega
        go_wp2
        go_roundw
        case rel => exact ⟨k + 1, p.set k (Gf.ex k), by omega, by omega, by go_num, pows_step hp (by omega), by rw [tw_lo _ hx hbig, ← hs'.out]; exact hmem.setP k _⟩
        case measure => simp [intOf]; omega
    · have ek : (k : Int) = 256 := by omega
      replace hp : pows p 256 := fun j hj => hp j (by omega)
      go_wp2
      clear ek hk hk1 hlt
      go_loopw [5] (fun s wr => ∃ (k : Nat) (o : List Nat), k ≤ 255 ∧ s = .int .i64 (k : Int) ∧ subd o k ∧ TabMem G o p w wr) (fun s _ => 255 - (intOf s).toNat)
      case atStart => exact ⟨0, z256, by omega, rfl, fun j hj => by omega, hmem⟩
      case round =>
        obtain ⟨k, o, hk, rfl, ho, hmem⟩ := hrel
        by_cases hlt : k < 255
        · have hlt' : (k : Int) < 255 := by omega
          have hl := hmem.pl
          have hlo := hmem.ol
          have hc0 := hmem.bp.num (i := k) (by omega)
          have hc1 := hmem.bp.num (i := 255 - k) (by omega)
          have hx := Gf.ex_lt k
          have hc2 := hmem.bo.num (i := Gf.ex k) (by omega)
          have hf2 := hmem.bo.frozen (Gf.ex k)
          rw [hp k (by omega)] at hc0
          rw [hp (255 - k) (by omega), Gf.ex_inv k (by omega)] at hc1
          have hi := Gf.inv_lt (Gf.ex k)
          have hidx : ((255 : Int) - (k : Int)).toNat = 255 - k := by omega
          generalize o.getD (Gf.ex k) 0 = ok at *
          have hs := Lib.hid (Gf.sub_eq (Gf.ex k) hx)
          go_wp2
          have q1 : (k : Int) < 256 := by omega
          have q2 : (255 : Int) - (k : Int) < 256 := by omega
          have q3 : 0 ≤ (255 : Int) - (k : Int) := by omega
          have q3' : (k : Int) ≤ 255 := by omega
          have q4 : (Gf.ex k : Int) < 256 := by omega
          have q5 : IntKind.i64.wrap ((255 : Int) - (k : Int)) = (255 : Int) - (k : Int) := IntWalk.i64_in _ (by omega)
          refine wp_region_still_tail 9 (by kernel_rfl) (by kernel_rfl) ?_
          simp only [List.take_succ_cons, List.take_zero, List.drop_succ_cons, List.drop_zero]
          change wpStill _ _ wr.drew _ _ _
          iterate 7 still_step
          still_call ((subst_any _ hi _).mono (fun e w' h => ⟨h.1, h.2.symm⟩))
          still_step
          refine wpStill_nil ?_
          change wpList _ _ _ _ _ wr.drew
          go_wp2
          go_roundw
          case rel => exact ⟨k + 1, o.set (Gf.ex k) (Gf.sub (Gf.ex k)), by omega, by go_num, subd_step ho (by omega), by rw [hs.out]; first | exact (hmem.setO _ _).drew_ | exact hmem.drew_.setO _ _⟩
          case measure => simp [intOf]; omega
        · have ek : (k : Int) = 255 := by omega
          obtain rfl : k = 255 := by omega
          have hc0 := hmem.bo.num (i := 0) (by have := hmem.ol; omega)
          have hf0 := hmem.bo.frozen 0
          have hall := Lib.hid (subd_all ho hmem.ol)
          generalize o.getD 0 0 = o0 at *
          go_wp2_with fail
          refine (subst_any 0 (by omega) _).mono ?_
          rintro e w3 ⟨rfl, rfl⟩
          have haff : Gf.aff 0 = Gf.sub 0 := Gf.sub_eq 0 (by omega)
          have hm2 : TabMem G subs p w (wr.setCell ⟨G + 1, 0, none⟩ (.int .u8 (Gf.aff 0 : Nat))) := by rw [← hall.out, haff]; exact hmem.setO 0 _
          have hm3 := Lib.hid hm2
          clear haff hm2 hall hmem
          go_wp2
          have hm2 := hm3.out
          generalize wr.setCell ⟨G + 1, 0, none⟩ (.int .u8 (Gf.aff 0 : Nat)) = w3 at *
          have hsz : (Tryd.prog.info? 139).map (·.size) = some (va .u8 subs).size := by rw [va_size, subs_len]; kernel_rfl
          refine wp_load_row 139 (.tmp 1) rfl (G + 1) rfl 139 (va .u8 subs) (0, 0) _ hm2.bo Tryd.underlying139 rfl hsz ?_
          clear hsz
          have hst := run_storeBlk (P := Tryd.prog) hm2.r .u8 subs (by rw [va_size, subs_len, z256_len])
          go_wp2
          have hsz : (Tryd.prog.info? 139).map (·.size) = some (va .u8 subs).size := by rw [va_size, subs_len]; kernel_rfl
          exact bodyPost_ret (results_cell_row rfl _ _ G 139 (va .u8 subs) (0, 0) _ rfl (hm2.r.row _) Tryd.underlying139 rfl hsz) rfl ⟨rfl, by rw [hGG]; exact below_setRow hm2.bel (Nat.le_refl _) _⟩
end Go.Proofs.YtcfddmplnoknlaaDoor
namespace Go.Proofs.YtcfddmplnoknlaaDoor
set_option maxRecDepth 16384
open Go.RowKit

theorem mul_to (a b c : Nat) (ha : a < 256) (hb : b < 256) (hc : Gf.gm a b = c) (w : World) :
  Calls Tryd.prog 78 #[.int .u8 (a : Int), .int .u8 (b : Int)] w fun e w' => e = .returned (.int .u8 (c : Int)) ∧ Below w.heap.size w w' := by
 rw [← hc]; exact mul_nat a b ha hb w
theorem rmul_to (a b c : Nat) (ha : a < 256) (hb : b < 256) (hc : Gf.gm a b = c) (w : World) :
  Calls Tryd.prog 92 #[.int .u8 (a : Int), .int .u8 (b : Int)] w fun e w' => e = .returned (.int .u8 (c : Int)) ∧ Below w.heap.size w w' := by
 rw [← hc]; exact rmul_any a b ha hb w
theorem power_to (a : Nat) (n : Int) (c : Nat) (ha : a < 256) (hc : Gf.powZ a n = c) (w : World) :
  Calls Tryd.prog 60 #[.int .u8 (a : Int), .int .i64 n] w fun e w' => e = .returned (.int .u8 (c : Int)) ∧ Below w.heap.size w w' :=
 power_any a n c (by omega) (by omega) hc w
theorem sub_to (a c : Nat) (ha : a < 256) (hc : Gf.sub a = c) (w : World) :
  Calls Tryd.prog 59 #[.int .u8 (a : Int)] w fun e w' => e = .returned (.int .u8 (c : Int)) ∧ Below w.heap.size w w' :=
 sub_any a c (by omega) (by omega) hc w
end Go.Proofs.YtcfddmplnoknlaaDoor
namespace Go.Proofs.YtcfddmplnoknlaaDoor.Ci
set_option maxRecDepth 16384

def upd (f : Nat → Nat) (b : List Nat) (k : Nat) : List Nat := (List.range b.length).map fun i => if i < k then f i else b.getD i 0
theorem upd_len (f : Nat → Nat) (b : List Nat) (k : Nat) : (upd f b k).length = b.length := by simp [upd]
theorem upd_get (f : Nat → Nat) (b : List Nat) (k i : Nat) (hi : i < b.length) : (upd f b k).getD i 0 = if i < k then f i else b.getD i 0 := by
 simp [upd, List.getD_eq_getElem?_getD, hi]
theorem upd_zero (f : Nat → Nat) (b : List Nat) : upd f b 0 = b := by
  apply List.ext_getElem
  · simp [upd]
  · intro i h1 h2
    simp [upd, List.getD_eq_getElem?_getD, h2]
theorem upd_set (f : Nat → Nat) (b : List Nat) (k : Nat) : (upd f b k).set k (f k) = upd f b (k + 1) := by
  apply List.ext_getElem
  · simp [upd]
  · intro i h1 h2
    have hi : i < b.length := by simpa [upd] using h2
    rw [List.getElem_set]
    by_cases e : k = i
    · subst e
      simp [upd]
    · rw [if_neg e]
      simp only [upd, List.getElem_map, List.getElem_range]
      by_cases h : i < k
      · rw [if_pos h, if_pos (by omega)]
      · rw [if_neg h, if_neg (by omega)]
theorem upd_all (f : Nat → Nat) (b : List Nat) (k : Nat) (hk : b.length ≤ k) : upd f b k = (List.range b.length).map f := by
 apply List.map_congr_left
 intro i hi
 rw [if_pos (by have := List.mem_range.1 hi; omega)]

def addK (b key : List Nat) : List Nat := (List.range 16).map fun i => b.getD i 0 ^^^ key.getD i 0
def each (s : Nat → Nat) (b : List Nat) : List Nat := (List.range 16).map fun i => s (b.getD i 0)
def rot (p : Nat) (b : List Nat) : List Nat := (List.range 16).map fun i => b.getD (4 * ((i / 4 + p * (i % 4)) % 4) + i % 4) 0
def mixS (f b : List Nat) (c r : Nat) : Nat → Nat
 | 0 => 0
 | j + 1 => mixS f b c r j ^^^ Gf.gm (f.getD j 0) (b.getD (4 * c + (r + j) % 4) 0)
def mix (f b : List Nat) : List Nat := (List.range 16).map fun i => mixS f b (i / 4) (i % 4) 4

def Byt (l : List Nat) : Prop := ∀ x ∈ l, x < 256
theorem Byt.get {l : List Nat} (h : Byt l) (i : Nat) : l.getD i 0 < 256 := by
  rw [List.getD_eq_getElem?_getD]
  rcases Nat.lt_or_ge i l.length with hi | hi
  · rw [List.getElem?_eq_getElem hi]; exact h _ (List.getElem_mem hi)
  · rw [List.getElem?_eq_none hi]; simp
theorem byt_map {f : Nat → Nat} {n : Nat} (h : ∀ i, i < n → f i < 256) : Byt ((List.range n).map f) := by
 intro x hx
 obtain ⟨i, hi, rfl⟩ := List.mem_map.1 hx
 exact h i (List.mem_range.1 hi)
theorem addK_byt {b k : List Nat} (hb : Byt b) (hk : Byt k) : Byt (addK b k) := byt_map fun i _ => Nat.xor_lt_two_pow (n := 8) (hb.get i) (hk.get i)
theorem rot_byt {p : Nat} {b : List Nat} (hb : Byt b) : Byt (rot p b) := byt_map fun _i _ => hb.get _
theorem addK_len (b k : List Nat) : (addK b k).length = 16 := by simp [addK]
theorem each_len (s : Nat → Nat) (b : List Nat) : (each s b).length = 16 := by simp [each]
theorem rot_len (p : Nat) (b : List Nat) : (rot p b).length = 16 := by simp [rot]
theorem mix_len (f b : List Nat) : (mix f b).length = 16 := by simp [mix]
theorem mixS_lt (f b : List Nat) (hf : Byt f) (hb : Byt b) (c r : Nat) : ∀ j, mixS f b c r j < 256
 | 0 => by simp [mixS]
 | j + 1 => by
  unfold mixS
  exact Nat.xor_lt_two_pow (n := 8) (mixS_lt f b hf hb c r j) (Gf.gm_lt _ _ (hf.get j))
theorem mix_byt {f b : List Nat} (hf : Byt f) (hb : Byt b) : Byt (mix f b) := byt_map fun _i _ => mixS_lt f b hf hb _ _ 4
end Go.Proofs.YtcfddmplnoknlaaDoor.Ci
namespace Go.Proofs.YtcfddmplnoknlaaDoor
set_option maxRecDepth 16384
open Go.RowKit

structure StMem (S : Nat) (b : List Nat) (w wr : World) : Prop where
 s : Blk wr S 110 (va .u8 b)
 bel : Below S w wr

set_option maxHeartbeats 800000 in
theorem add_any (S : Nat) (b key : List Nat) (hbl : b.length = 16) (hkl : key.length = 16) (hb : Ci.Byt b) (hk : Ci.Byt key) (w : World) (hs : Blk w S 110 (va .u8 b)) :
    Calls Tryd.prog 61 #[.pointer (some ⟨S, 0, none⟩), .agg (va .u8 key)] w fun e w' => e = .returned (.tuple #[]) ∧ StMem S (Ci.addK b key) w w' := by
  have hlt := hs.lt
  have hm : StMem S (Ci.upd (fun i => b.getD i 0 ^^^ key.getD i 0) b 0) w (w.alloc (.cells (va .u8 key) 22)) := by
    rw [Ci.upd_zero]; exact ⟨hs.alloc _, (Below.refl _ _).alloc (by omega) _⟩
  have hkk : Blk (w.alloc (.cells (va .u8 key) 22)) w.heap.size 22 (va .u8 key) := Blk.new _ _ _
  have hmm := Lib.hid hm
  have hkh := Lib.hid hkk
  clear hs hm hkk
  go_enter Tryd.func61, Tryd.ntmps61
  go_wp2
  generalize w.alloc (.cells (va .u8 key) 22) = w1 at *
  go_loopw [5] (fun s wr => ∃ k : Nat, k ≤ 16 ∧ s = .int .i64 (k : Int) ∧ StMem S (Ci.upd (fun i => b.getD i 0 ^^^ key.getD i 0) b k) w wr ∧ Blk wr w.heap.size 22 (va .u8 key)) (fun s _ => 16 - (intOf s).toNat)
  case atStart => exact ⟨0, by omega, rfl, hmm.out, hkh.out⟩
  case round =>
    clear hmm hkh
    obtain ⟨k, hk16, rfl, hmem, hkey⟩ := hrel
    by_cases hlt : k < 16
    · have hltI : (k : Int) < 16 := by omega
      have hc := hmem.s.num (i := k) (by rw [Ci.upd_len]; omega)
      have hf := hmem.s.frozen k
      rw [Ci.upd_get _ _ _ _ (by omega), if_neg (by omega)] at hc
      have hc2 := hkey.num (i := k) (by omega)
      have hx := hb.get k
      have hy := hk.get k
      have hset := Lib.hid (Ci.upd_set (fun i => b.getD i 0 ^^^ key.getD i 0) b k)
      have hxy := Lib.hid (rfl : b.getD k 0 ^^^ key.getD k 0 = b.getD k 0 ^^^ key.getD k 0)
      have hmh := Lib.hid hmem
      have hkh := Lib.hid hkey
      clear hmem hkey
      obtain ⟨x, hxe⟩ : ∃ x, b.getD k 0 = x := ⟨_, rfl⟩
      obtain ⟨y, hye⟩ : ∃ y, key.getD k 0 = y := ⟨_, rfl⟩
      rw [hxe] at hc hx
      rw [hye] at hc2 hy
      have hxe' := Lib.hid hxe
      have hye' := Lib.hid hye
      have hxr : bits BinOp.xor IntKind.u8 (x : Int) (y : Int) = ((x ^^^ y : Nat) : Int) := u8_xor_nat x y hx hy
      clear hxe hye hxy
      go_wp2
      refine wp_region_still_tail 13 (by kernel_rfl) (by kernel_rfl) ?_
      simp only [List.take_succ_cons, List.take_zero, List.drop_succ_cons, List.drop_zero]
      change wpStill _ _ wr.drew _ _ _
      iterate 13 still_step
      refine wpStill_nil ?_
      change wpList _ _ _ _ _ wr.drew
      go_wp2
      go_roundw
      case rel =>
        refine ⟨k + 1, by omega, by go_num, ⟨?_, (below_drewN hmh.out.bel 1).setCell (Nat.le_refl _) _⟩, ?_⟩
        · rw [← hset.out, hxe'.out, hye'.out]
          have := hmh.out.s.drew.setNum k (x ^^^ y)
          first | exact this | simpa using this
        · exact hkh.out.drew.far (by simp; omega) _
      case measure => simp [intOf]; omega
    · obtain rfl : k = 16 := by omega
      go_wp2
      go_end0
      refine ⟨rfl, ?_, hmem.bel⟩
      have := hmem.s
      rw [Ci.upd_all _ _ _ (by omega), hbl] at this
      exact this
end Go.Proofs.YtcfddmplnoknlaaDoor
namespace Go.Proofs.YtcfddmplnoknlaaDoor
set_option maxRecDepth 16384
open Go.RowKit

set_option maxHeartbeats 800000 in
theorem each_sub (S : Nat) (b : List Nat) (hbl : b.length = 16) (hb : Ci.Byt b) (w : World) (hs : Blk w S 110 (va .u8 b)) :
    Calls Tryd.prog 62 #[.pointer (some ⟨S, 0, none⟩), .func (.func 59) #[] #[]] w fun e w' => e = .returned (.tuple #[]) ∧ StMem S (Ci.each Gf.sub b) w w' := by
  have hlt0 := hs.lt
  have hm : StMem S (Ci.upd (fun i => Gf.sub (b.getD i 0)) b 0) w w := by
    rw [Ci.upd_zero]; exact ⟨hs, Below.refl _ _⟩
  have hmm := Lib.hid hm
  have hsz0 : (Tryd.prog.info? 22).map (·.size) = some (va .u8 b).size := by rw [va_size, hbl]; kernel_rfl
  have hsz := Lib.hid hsz0
  obtain ⟨ie, hie, _, his, _⟩ := info_parts byte_info
  have hix : ∀ (k : Nat) (W : World), k < 16 → (Instr.index 22 (.agg (va .u8 b)) (.int .i64 (k : Int))).run Tryd.prog W = .ok (.int .u8 ((b.getD k 0 : Nat) : Int)) W := fun k W hk => run_index_num Tryd.underlying22 Tryd.underlying5 hie his hbl hk W
  have hixh := Lib.hid hix
  have hsh := Lib.hid hs
  clear hm hsz0 hix hs
  go_enter Tryd.func62, Tryd.ntmps62
  go_wp2_with (refine wpList_load_row rfl 22 (.tmp 8) rfl S rfl 110 (va .u8 b) (0, 0) _ hsh.out Tryd.underlying22 rfl hsz.out ?_)
  go_loopw [10] (fun s wr => ∃ k : Nat, k ≤ 16 ∧ s = .int .i64 (k : Int) ∧ StMem S (Ci.upd (fun i => Gf.sub (b.getD i 0)) b k) w wr) (fun s _ => 16 - (intOf s).toNat)
  case atStart => exact ⟨0, by omega, rfl, hmm.out⟩
  case round =>
    clear hmm
    obtain ⟨k, hk16, rfl, hmem⟩ := hrel
    by_cases hlt : k < 16
    · have hltI : (k : Int) < 16 := by omega
      have hrun := fun W => hixh.out k W hlt
      have hx := hb.get k
      have hset := Lib.hid (Ci.upd_set (fun i => Gf.sub (b.getD i 0)) b k)
      have hmh := Lib.hid hmem
      obtain ⟨x, hxe⟩ : ∃ x, b.getD k 0 = x := ⟨_, rfl⟩
      simp only [hxe] at hrun
      rw [hxe] at hx
      have hxe' := Lib.hid hxe
      clear hxe hmem
      go_wp2
      go_region_with (first
        | (go_at_call 59
           refine (sub_to x (Gf.sub x) hx rfl _).mono ?_
           rintro e w1 ⟨rfl, b1⟩
           have hS1 := Lib.hid (hmh.out.s.drew.below b1 hmh.out.s.lt)
           have hB1 := Lib.hid ((below_drewN hmh.out.bel 1).trans (b1.mono (Nat.le_of_lt hmh.out.s.lt)))
           have c1 := hS1.out.num (i := k) (by rw [Ci.upd_len]; omega)
           have f1 := hS1.out.frozen k
           clear b1))
      all_goals
        go_wp2
        go_roundw
      all_goals first
        | (refine ⟨k + 1, by omega, by go_num, ⟨?_, hB1.out.setCell (Nat.le_refl _) _⟩⟩
           rw [← hset.out, hxe'.out]
           exact hS1.out.setNum k (Gf.sub x))
        | (simp [intOf]; omega)
    · obtain rfl : k = 16 := by omega
      go_wp2
      go_end0
      refine ⟨rfl, ?_, hmem.bel⟩
      have := hmem.s
      rw [Ci.upd_all _ _ _ (by omega), hbl] at this
      exact this

end Go.Proofs.YtcfddmplnoknlaaDoor
namespace Go.Proofs.YtcfddmplnoknlaaDoor
set_option maxRecDepth 16384
open Go.RowKit

def z16 : List Nat := List.replicate 16 0
theorem z16_len : z16.length = 16 := List.length_replicate ..
theorem zero16 (w : World) : (zeroValue 22).run Tryd.prog w = .ok (.agg (va .u8 z16)) w := by kernel_rfl

set_option maxRecDepth 8000 in
set_option maxHeartbeats 800000 in
theorem rotate1_any (S : Nat) (b : List Nat) (hbl : b.length = 16) (_hb : Ci.Byt b) (w : World) (hs : Blk w S 110 (va .u8 b)) :
    Calls Tryd.prog 63 #[.pointer (some ⟨S, 0, none⟩), .int .i64 1] w fun e w' => e = .returned (.tuple #[]) ∧ StMem S (Ci.rot 1 b) w w' := by
  have hlt0 := hs.lt
  have hm : StMem S (Ci.upd (fun i => b.getD (4 * ((i / 4 + 1 * (i % 4)) % 4) + i % 4) 0) b 0) w (w.alloc (.cells (va .u8 b) 22)) := by
    rw [Ci.upd_zero]; exact ⟨hs.alloc _, (Below.refl _ _).alloc (by omega) _⟩
  have hkk : Blk (w.alloc (.cells (va .u8 b) 22)) w.heap.size 22 (va .u8 b) := Blk.new _ _ _
  have hmm := Lib.hid hm
  have hkh := Lib.hid hkk
  have hsz0 : (Tryd.prog.info? 22).map (·.size) = some (va .u8 b).size := by rw [va_size, hbl]; kernel_rfl
  have hsz := Lib.hid hsz0
  have hvs : (va .u8 b).size = 16 := by rw [va_size, hbl]
  have hzv := zero16
  have hst := run_storeNew (P := Tryd.prog) w 22 (va .u8 z16) .u8 b (by rw [va_size, hbl, z16_len])
  have hsh := Lib.hid hs
  clear hm hkk hsz0 hs
  go_enter Tryd.func63, Tryd.ntmps63
  go_wp2_with (refine wpList_load_row rfl 22 (.tmp 9) rfl S rfl 110 (va .u8 b) (0, 0) _ hsh.out Tryd.underlying22 rfl hsz.out ?_)
  clear hst hvs hzv
  generalize w.alloc (.cells (va .u8 b) 22) = w1 at *
  go_loopw [11] (fun s wr => ∃ c : Nat, c ≤ 4 ∧ s = .int .i64 (c : Int) ∧ StMem S (Ci.upd (fun i => b.getD (4 * ((i / 4 + 1 * (i % 4)) % 4) + i % 4) 0) b (4 * c)) w wr ∧ Blk wr w.heap.size 22 (va .u8 b)) (fun s _ => 4 - (intOf s).toNat)
  case atStart => exact ⟨0, by omega, rfl, hmm.out, hkh.out⟩
  case round =>
    clear hmm hkh
    obtain ⟨c, hc4, rfl, hmem, hold⟩ := hrel
    by_cases hlc : c < 4
    · have hlcI : (c : Int) < 4 := by omega
      have hmm := Lib.hid hmem
      have hkh := Lib.hid hold
      clear hmem hold
      go_wp2
      go_loopw [14] (fun s wr => ∃ r : Nat, r ≤ 4 ∧ s = .int .i64 (r : Int) ∧ StMem S (Ci.upd (fun i => b.getD (4 * ((i / 4 + 1 * (i % 4)) % 4) + i % 4) 0) b (4 * c + r)) w wr ∧ Blk wr w.heap.size 22 (va .u8 b)) (fun s _ => 4 - (intOf s).toNat)
      case atStart => exact ⟨0, by omega, rfl, hmm.out, hkh.out⟩
      case round =>
        clear hmm hkh
        obtain ⟨r, hr4, rfl, hmem, hold⟩ := hrel
        by_cases hlr : r < 4
        · have hlrI : (r : Int) < 4 := by omega
          obtain ⟨q, hq⟩ : ∃ q, (c + r) % 4 = q := ⟨_, rfl⟩
          obtain ⟨j, hj⟩ : ∃ j, 4 * q + r = j := ⟨_, rfl⟩
          obtain ⟨i, hi⟩ : ∃ i, 4 * c + r = i := ⟨_, rfl⟩
          have hq4 : q < 4 := by omega
          have hj16 : j < 16 := by omega
          have hi16 : i < 16 := by omega
          have hqe : ((c : Int) + (r : Int)) % 4 = (q : Int) := by omega
          have hqt : ((c : Int) + (r : Int)).tmod 4 = (q : Int) := by rw [Int.tmod_eq_emod_of_nonneg (by omega)]; exact hqe
          have hjI : 4 * (q : Int) + (r : Int) = (j : Int) := by omega
          have hiI : 4 * (c : Int) + (r : Int) = (i : Int) := by omega
          have hj16I : (j : Int) < 16 := by omega
          have hi16I : (i : Int) < 16 := by omega
          have w1 : IntKind.i64.wrap ((r : Int)) = (r : Int) := IntWalk.i64_in _ (by omega)
          have w2 : IntKind.i64.wrap ((c : Int) + (r : Int)) = (c : Int) + (r : Int) := IntWalk.i64_in _ (by omega)
          have w4 : IntKind.i64.wrap (4 * (q : Int)) = 4 * (q : Int) := IntWalk.i64_in _ (by omega)
          have w5 : IntKind.i64.wrap (j : Int) = (j : Int) := IntWalk.i64_in _ (by omega)
          have w6 : IntKind.i64.wrap (4 * (c : Int)) = 4 * (c : Int) := IntWalk.i64_in _ (by omega)
          have w7 : IntKind.i64.wrap (i : Int) = (i : Int) := IntWalk.i64_in _ (by omega)
          rw [hi] at hmem
          have hfi : b.getD (4 * ((i / 4 + 1 * (i % 4)) % 4) + i % 4) 0 = b.getD j 0 := by
            have e1 : i / 4 = c := by omega
            have e2 : i % 4 = r := by omega
            rw [e1, e2]
            have e3 : (c + 1 * r) % 4 = q := by omega
            rw [e3, hj]
          have hc0 := hmem.s.num (i := i) (by rw [Ci.upd_len]; omega)
          have hf := hmem.s.frozen i
          have hc2 := hold.num (i := j) (by omega)
          have hset := Ci.upd_set (fun i => b.getD (4 * ((i / 4 + 1 * (i % 4)) % 4) + i % 4) 0) b i
          rw [hfi] at hset
          obtain ⟨x, hxe⟩ : ∃ x, b.getD j 0 = x := ⟨_, rfl⟩
          rw [hxe] at hc2 hset
          have hset' := Lib.hid hset
          have hih := Lib.hid hi
          have hmh := Lib.hid hmem
          have hkh := Lib.hid hold
          generalize (Ci.upd (fun i => b.getD (4 * ((i / 4 + 1 * (i % 4)) % 4) + i % 4) 0) b i).getD i 0 = y0 at *
          clear hmem hold hset hxe hi hj hq hfi
          go_wp2
          refine wp_region_still_tail 19 (by kernel_rfl) (by kernel_rfl) ?_
          simp only [List.take_succ_cons, List.take_zero, List.drop_succ_cons, List.drop_zero]
          change wpStill _ _ wr.drew _ _ _
          iterate 19 still_step
          refine wpStill_nil ?_
          change wpList _ _ _ _ _ wr.drew
          go_wp2
          go_roundw
          case rel =>
            refine ⟨r + 1, by omega, by go_num, ⟨?_, (below_drewN hmh.out.bel 1).setCell (Nat.le_refl _) _⟩, hkh.out.drew.far (by simp; omega) _⟩
            have e4 : 4 * c + (r + 1) = i + 1 := by rw [← hih.out]; omega
            rw [e4, ← hset'.out]
            exact hmh.out.s.drew.setNum i x
          case measure => simp [intOf]; omega
        · obtain rfl : r = 4 := by omega
          have hmm := Lib.hid hmem
          have hkh := Lib.hid hold
          clear hmem hold
          go_wp2
          go_roundw
          case rel => exact ⟨c + 1, by omega, by go_num, by rw [show 4 * (c + 1) = 4 * c + 4 from by omega]; exact hmm.out, hkh.out⟩
          case measure => simp [intOf]; omega
    · obtain rfl : c = 4 := by omega
      go_wp2
      go_end0
      refine ⟨rfl, ?_, hmem.bel⟩
      have := hmem.s
      rw [Ci.upd_all _ _ _ (by omega), hbl] at this
      exact this

end Go.Proofs.YtcfddmplnoknlaaDoor
namespace Go.Proofs.YtcfddmplnoknlaaDoor
set_option maxRecDepth 16384
open Go.RowKit

set_option maxHeartbeats 1600000 in
theorem mix_any (S : Nat) (f b : List Nat) (hfl : f.length = 4) (hbl : b.length = 16) (hfb : Ci.Byt f) (hb : Ci.Byt b) (w : World) (hs : Blk w S 110 (va .u8 b)) :
    Calls Tryd.prog 64 #[.pointer (some ⟨S, 0, none⟩), .agg (va .u8 f)] w fun e w' => e = .returned (.tuple #[]) ∧ StMem S (Ci.mix f b) w w' := by
  have hlt0 := hs.lt
  have hm : StMem S (Ci.upd (fun i => Ci.mixS f b (i / 4) (i % 4) 4) b 0) w ((w.alloc (.cells (va .u8 f) 106)).alloc (.cells (va .u8 b) 22)) := by
    rw [Ci.upd_zero]; exact ⟨(hs.alloc _).alloc _, ((Below.refl _ _).alloc (by omega) _).alloc (by simp; omega) _⟩
  have hkk : Blk ((w.alloc (.cells (va .u8 f) 106)).alloc (.cells (va .u8 b) 22)) (w.heap.size + 1) 22 (va .u8 b) := by
    have := Blk.new (w.alloc (.cells (va .u8 f) 106)) 22 (va .u8 b)
    simpa using this
  have hff : Blk ((w.alloc (.cells (va .u8 f) 106)).alloc (.cells (va .u8 b) 22)) w.heap.size 106 (va .u8 f) := (Blk.new _ _ _).alloc _
  have hmm := Lib.hid hm
  have hkh := Lib.hid hkk
  have hfh := Lib.hid hff
  have hsz0 : (Tryd.prog.info? 22).map (·.size) = some (va .u8 b).size := by rw [va_size, hbl]; kernel_rfl
  have hsz := Lib.hid hsz0
  have hsz40 : (Tryd.prog.info? 106).map (·.size) = some (va .u8 f).size := by rw [va_size, hfl]; kernel_rfl
  have hsz4 := Lib.hid hsz40
  have hvs : (va .u8 b).size = 16 := by rw [va_size, hbl]
  have hzv := zero16
  have hst := run_storeNew (P := Tryd.prog) (w.alloc (.cells (va .u8 f) 106)) 22 (va .u8 z16) .u8 b (by rw [va_size, hbl, z16_len])
  rw [show (w.alloc (.cells (va .u8 f) 106)).heap.size = w.heap.size + 1 from by simp] at hst
  have hsh := Lib.hid (hs.alloc (.cells (va .u8 f) 106))
  obtain ⟨ie, hie, _, his, _⟩ := info_parts byte_info
  have hix : ∀ (k : Nat) (W : World), k < 4 → (Instr.index 106 (.agg (va .u8 f)) (.int .i64 (k : Int))).run Tryd.prog W = .ok (.int .u8 ((f.getD k 0 : Nat) : Int)) W := fun k W hk => run_index_num Tryd.underlying106 Tryd.underlying5 hie his hfl hk W
  have hixh := Lib.hid hix
  clear hm hkk hff hsz0 hsz40 hs hix
  go_enter Tryd.func64, Tryd.ntmps64
  go_wp2_with (refine wpList_load_row rfl 22 (.tmp 12) rfl S rfl 110 (va .u8 b) (0, 0) _ hsh.out Tryd.underlying22 rfl hsz.out ?_)
  clear hst hvs hzv
  generalize (w.alloc (.cells (va .u8 f) 106)).alloc (.cells (va .u8 b) 22) = w1 at *
  go_loopw [14] (fun s wr => ∃ c : Nat, c ≤ 4 ∧ s = .int .i64 (c : Int) ∧ StMem S (Ci.upd (fun i => Ci.mixS f b (i / 4) (i % 4) 4) b (4 * c)) w wr ∧ Blk wr (w.heap.size + 1) 22 (va .u8 b) ∧ Blk wr w.heap.size 106 (va .u8 f)) (fun s _ => 4 - (intOf s).toNat)
  case atStart => exact ⟨0, by omega, rfl, hmm.out, hkh.out, hfh.out⟩
  case round =>
    clear hmm hkh hfh hsh
    obtain ⟨c, hc4, rfl, hmem, hold, hfac⟩ := hrel
    by_cases hlc : c < 4
    · have hlcI : (c : Int) < 4 := by omega
      have hmm := Lib.hid hmem
      have hkh := Lib.hid hold
      have hfh := Lib.hid hfac
      clear hmem hold hfac
      go_wp2
      go_loopw [17] (fun s wr => ∃ r : Nat, r ≤ 4 ∧ s = .int .i64 (r : Int) ∧ StMem S (Ci.upd (fun i => Ci.mixS f b (i / 4) (i % 4) 4) b (4 * c + r)) w wr ∧ Blk wr (w.heap.size + 1) 22 (va .u8 b) ∧ Blk wr w.heap.size 106 (va .u8 f)) (fun s _ => 4 - (intOf s).toNat)
      case atStart => exact ⟨0, by omega, rfl, hmm.out, hkh.out, hfh.out⟩
      case round =>
        clear hmm hkh hfh
        obtain ⟨r, hr4, rfl, hmem, hold, hfac⟩ := hrel
        by_cases hlr : r < 4
        · have hlrI : (r : Int) < 4 := by omega
          have hmm := Lib.hid hmem
          have hkh := Lib.hid hold
          have hfh := Lib.hid hfac
          clear hmem hold hfac
          go_wp2_with (refine wpList_load_row rfl 106 (.tmp 3) rfl w.heap.size rfl 106 (va .u8 f) (0, 0) _ hfh.out Tryd.underlying106 rfl hsz4.out ?_)
          go_loopw [7, 21] (fun v s wx => ∃ j : Nat, j ≤ 4 ∧ s = .int .i64 (j : Int) ∧ v = .int .u8 (Ci.mixS f b c r j : Nat) ∧ StMem S (Ci.upd (fun i => Ci.mixS f b (i / 4) (i % 4) 4) b (4 * c + r)) w wx ∧ Blk wx (w.heap.size + 1) 22 (va .u8 b) ∧ Blk wx w.heap.size 106 (va .u8 f)) (fun _ s _ => 4 - (intOf s).toNat)
          case atStart => exact ⟨0, by omega, rfl, rfl, hmm.out, hkh.out, hfh.out⟩
          case round =>
            clear hmm hkh hfh
            obtain ⟨j, hj4, rfl, rfl, hmem, hold, hfac⟩ := hrel
            by_cases hlj : j < 4
            · have hljI : (j : Int) < 4 := by omega
              have hrun := fun W => hixh.out j W hlj
              obtain ⟨q, hq⟩ : ∃ q, (r + j) % 4 = q := ⟨_, rfl⟩
              obtain ⟨i, hi⟩ : ∃ i, 4 * c + q = i := ⟨_, rfl⟩
              have hq4 : q < 4 := by omega
              have hi16 : i < 16 := by omega
              have hqt : ((r : Int) + (j : Int)).tmod 4 = (q : Int) := by rw [Int.tmod_eq_emod_of_nonneg (by omega)]; omega
              have hqe : ((r : Int) + (j : Int)) % 4 = (q : Int) := by omega
              have hiI : 4 * (c : Int) + (q : Int) = (i : Int) := by omega
              have hi16I : (i : Int) < 16 := by omega
              have hc2 := hold.num (i := i) (by omega)
              have hfx := hfb.get j
              have hbx := hb.get i
              have hmx := Ci.mixS_lt f b hfb hb c r j
              have hstep : Ci.mixS f b c r (j + 1) = Ci.mixS f b c r j ^^^ Gf.gm (f.getD j 0) (b.getD i 0) := by
                show Ci.mixS f b c r j ^^^ Gf.gm (f.getD j 0) (b.getD (4 * c + (r + j) % 4) 0) = _
                rw [hq, hi]
              obtain ⟨x, hxe⟩ : ∃ x, f.getD j 0 = x := ⟨_, rfl⟩
              obtain ⟨y, hye⟩ : ∃ y, b.getD i 0 = y := ⟨_, rfl⟩
              simp only [hxe] at hrun
              rw [hxe] at hfx hstep
              rw [hye] at hbx hc2 hstep
              obtain ⟨z, hze⟩ : ∃ z, Gf.gm x y = z := ⟨_, rfl⟩
              have hz8 : z < 256 := by rw [← hze]; exact Gf.gm_lt _ _ hfx
              rw [hze] at hstep
              have hxor : bits BinOp.xor IntKind.u8 ((Ci.mixS f b c r j : Nat) : Int) (z : Int) = ((Ci.mixS f b c r (j + 1) : Nat) : Int) := by rw [hstep]; exact u8_xor_nat _ _ hmx hz8
              have hxor' := Lib.hid hxor
              generalize Ci.mixS f b c r j = m0 at *
              obtain ⟨m1, hm1⟩ : ∃ m1, Ci.mixS f b c r (j + 1) = m1 := ⟨_, rfl⟩
              rw [hm1] at hxor
              have hm1' := Lib.hid hm1
              clear hm1
              have hze' := Lib.hid hze
              have hmm := Lib.hid hmem
              have hkh := Lib.hid hold
              have hfh := Lib.hid hfac
              clear hmem hold hfac hxe hye hq hi hstep hze hxor'
              go_wp2_with fail
              refine (mul_to x y z hfx hbx hze'.out _).mono ?_
              rintro e w2 ⟨rfl, b2⟩
              have hmm2 := Lib.hid (StMem.mk (S := S) (w := w) (hmm.out.s.below b2 hmm.out.s.lt) (hmm.out.bel.trans (b2.mono (Nat.le_of_lt hmm.out.s.lt))))
              have hkh2 := Lib.hid (hkh.out.below b2 hkh.out.lt)
              have hfh2 := Lib.hid (hfh.out.below b2 hfh.out.lt)
              clear hmm hkh hfh b2 hc2 hrun
              go_wp2
              go_roundw
              case rel => exact ⟨j + 1, by omega, by go_num, by rw [hm1'.out], hmm2.out, hkh2.out, hfh2.out⟩
              case measure => simp [intOf]; omega
            · obtain rfl : j = 4 := by omega
              obtain ⟨i, hi⟩ : ∃ i, 4 * c + r = i := ⟨_, rfl⟩
              have hi16 : i < 16 := by omega
              have hiI : 4 * (c : Int) + (r : Int) = (i : Int) := by omega
              have hi16I : (i : Int) < 16 := by omega
              have hfi : Ci.mixS f b (i / 4) (i % 4) 4 = Ci.mixS f b c r 4 := by
                rw [show i / 4 = c from by omega, show i % 4 = r from by omega]
              have hset := Ci.upd_set (fun i => Ci.mixS f b (i / 4) (i % 4) 4) b i
              simp only [hfi] at hset
              rw [hi] at hmem
              have hc0 := hmem.s.num (i := i) (by rw [Ci.upd_len]; omega)
              have hf0 := hmem.s.frozen i
              generalize (Ci.upd (fun i => Ci.mixS f b (i / 4) (i % 4) 4) b i).getD i 0 = y0 at *
              generalize Ci.mixS f b c r 4 = m4 at *
              have hset' := Lib.hid hset
              have hih := Lib.hid hi
              have hmm := Lib.hid hmem
              have hkh := Lib.hid hold
              have hfh := Lib.hid hfac
              clear hmem hold hfac hset hi hfi
              go_wp2
              go_roundw
              case rel =>
                refine ⟨r + 1, by omega, by go_num, ⟨?_, hmm.out.bel.setCell (Nat.le_refl _) _⟩, hkh.out.far (by simp; omega) _, hfh.out.far (by simp; omega) _⟩
                have e4 : 4 * c + (r + 1) = i + 1 := by rw [← hih.out]; omega
                rw [e4, ← hset'.out]
                exact hmm.out.s.setNum i m4
              case measure => simp [intOf]; omega
        · obtain rfl : r = 4 := by omega
          have hmm := Lib.hid hmem
          have hkh := Lib.hid hold
          have hfh := Lib.hid hfac
          clear hmem hold hfac
          go_wp2
          go_roundw
          case rel => exact ⟨c + 1, by omega, by go_num, by rw [show 4 * (c + 1) = 4 * c + 4 from by omega]; exact hmm.out, hkh.out, hfh.out⟩
          case measure => simp [intOf]; omega
    · obtain rfl : c = 4 := by omega
      go_wp2
      go_end0
      refine ⟨rfl, ?_, hmem.bel⟩
      have := hmem.s
      rw [Ci.upd_all _ _ _ (by omega), hbl] at this
      exact this
end Go.Proofs.YtcfddmplnoknlaaDoor
namespace Go.Proofs.YtcfddmplnoknlaaDoor
set_option maxRecDepth 16384
open Go.RowKit

namespace Ci
def ks (L : List Nat) (k : Nat) : List Nat := (L.drop (k * 16)).take 16
def encS (L b : List Nat) : Nat → List Nat
 | 0 => addK b (ks L 0)
 | k + 1 => addK (if k + 1 < 10 then mix [2, 3, 1, 1] (rot 1 (each Gf.sub (encS L b k))) else rot 1 (each Gf.sub (encS L b k))) (ks L (k + 1))
def enc (L b : List Nat) : List Nat := encS L b 10
theorem ks_len {L : List Nat} (hL : L.length = 176) (k : Nat) (hk : k ≤ 10) : (ks L k).length = 16 := by simp [ks]; omega
theorem ks_byt {L : List Nat} (hL : Byt L) (k : Nat) : Byt (ks L k) := fun x hx => hL x (List.mem_of_mem_drop (List.mem_of_mem_take hx))
theorem each_byt {s : Nat → Nat} (hs : ∀ a, s a < 256) (b : List Nat) : Byt (each s b) := byt_map fun _ _ => hs _
theorem fac_byt : Byt [2, 3, 1, 1] := by intro x hx; simp at hx; omega
theorem encS_len (L b : List Nat) : ∀ k, (encS L b k).length = 16
 | 0 => addK_len _ _
 | _ + 1 => addK_len _ _
theorem encS_byt {L b : List Nat} (hL : Byt L) (hb : Byt b) : ∀ k, Byt (encS L b k)
  | 0 => addK_byt hb (ks_byt hL 0)
  | k + 1 => by
    refine addK_byt ?_ (ks_byt hL _)
    have h1 : Byt (rot 1 (each Gf.sub (encS L b k))) := rot_byt (each_byt Gf.sub_lt _)
    split
    · exact mix_byt fac_byt h1
    · exact h1
end Ci

theorem list16 {l : List Nat} (h : l.length = 16) : ∃ a0 a1 a2 a3 a4 a5 a6 a7 a8 a9 a10 a11 a12 a13 a14 a15, l = [a0, a1, a2, a3, a4, a5, a6, a7, a8, a9, a10, a11, a12, a13, a14, a15] :=
 match l, h with
 | [a0, a1, a2, a3, a4, a5, a6, a7, a8, a9, a10, a11, a12, a13, a14, a15], _ => ⟨a0, a1, a2, a3, a4, a5, a6, a7, a8, a9, a10, a11, a12, a13, a14, a15, rfl⟩
theorem zeroState (w : World) : (zeroValue 110).run Tryd.prog w = .ok (.agg (va .u8 z16)) w := by kernel_rfl

theorem fold_state {b : List Nat} (h : b.length = 16) : Array.foldl (fun (cs : Array Value) (x : Value × Nat) => cs.setIfInBounds x.snd x.fst) (va .u8 z16) (va .u8 b).zipIdx 0 16 = va .u8 b := by
 obtain ⟨a0, a1, a2, a3, a4, a5, a6, a7, a8, a9, a10, a11, a12, a13, a14, a15, rfl⟩ := list16 h
 kernel_rfl

structure EnMem (G : Nat) (L b : List Nat) (w wr : World) : Prop where
 k : Blk wr G 79 (va .u8 L)
 r : Blk wr (G + 1 + 1) 22 (va .u8 z16)
 s : Blk wr (G + 1 + 1 + 1) 110 (va .u8 b)
 bel : Below G w wr
theorem EnMem.step {G : Nat} {L b b' : List Nat} {w wr w2 : World} (h : EnMem G L b w wr) (hs : StMem (G + 1 + 1 + 1) b' wr w2) : EnMem G L b' w w2 :=
 ⟨h.k.below hs.bel (by omega), h.r.below hs.bel (by omega), hs.s, h.bel.trans (hs.bel.mono (by omega))⟩
theorem EnMem.key {G : Nat} {L b : List Nat} {w wr : World} (h : EnMem G L b w wr) (k : Nat) : wr.rangeAt G (k * 16) (nv .u8 (Ci.ks L k)) := fun j v hv => h.k.part (k * 16) 16 j v hv

set_option maxHeartbeats 1600000 in
theorem encrypt_any (L b : List Nat) (hLl : L.length = 176) (hbl : b.length = 16) (hL : Ci.Byt L) (hb : Ci.Byt b) (w : World) :
    Calls Tryd.prog 40 #[.agg (va .u8 L), .agg (va .u8 b)] w fun e w' => e = .returned (.agg (va .u8 (Ci.enc L b))) ∧ Below w.heap.size w w' := by
  have hsz0 : (Tryd.prog.info? 22).map (·.size) = some (va .u8 b).size := by rw [va_size, hbl]; kernel_rfl
  have hsz := Lib.hid hsz0
  have hzv := zero16
  have hzs := zeroState
  have hvs : (va .u8 b).size = 16 := by rw [va_size, hbl]
  have hfold := fold_state hbl
  have hmf : ∀ (fn : Fn) (first cap : Array Value) (w : World), (Instr.makeFunc fn first cap).run Tryd.prog w = .ok (.func fn first cap) w := fun _ _ _ _ => rfl
  have hst := run_storeNew (P := Tryd.prog) (((w.alloc (.cells (va .u8 L) 79)).alloc (.cells (va .u8 b) 22)).alloc (.cells (va .u8 z16) 22)) 110 (va .u8 z16) .u8 b (by rw [va_size, hbl, z16_len])
  rw [show (((w.alloc (.cells (va .u8 L) 79)).alloc (.cells (va .u8 b) 22)).alloc (.cells (va .u8 z16) 22)).heap.size = w.heap.size + 1 + 1 + 1 from by simp] at hst
  have hm : EnMem w.heap.size L b w ((((w.alloc (.cells (va .u8 L) 79)).alloc (.cells (va .u8 b) 22)).alloc (.cells (va .u8 z16) 22)).alloc (.cells (va .u8 b) 110)) := by
    refine ⟨(((Blk.new _ _ _).alloc _).alloc _).alloc _, ?_, ?_, ((((Below.refl _ _).alloc (Nat.le_refl _) _).alloc (by simp) _).alloc (by simp <;> omega) _).alloc (by simp <;> omega) _⟩
    · exact Blk.alloc (by have := Blk.new ((w.alloc (.cells (va .u8 L) 79)).alloc (.cells (va .u8 b) 22)) 22 (va .u8 z16); simpa using this) _
    · have := Blk.new (((w.alloc (.cells (va .u8 L) 79)).alloc (.cells (va .u8 b) 22)).alloc (.cells (va .u8 z16) 22)) 110 (va .u8 b)
      simpa using this
  have hmm := Lib.hid hm
  clear hsz0 hm
  go_enter Tryd.func40, Tryd.ntmps40
  go_wp2_with (first
    | (refine wpList_load_row rfl 22 (.tmp 3) rfl (w.heap.size + 1) rfl 22 (va .u8 b) (0, 0) _ ?hq Tryd.underlying22 rfl hsz.out ?_
       case hq => exact Blk.alloc (by have := Blk.new (w.alloc (.cells (va .u8 L) 79)) 22 (va .u8 b); simpa using this) _)
    | (refine wpList_buildv rfl 110 _ rfl (va .u8 b) (built_state hbl) ?_)
    | (refine wpList_load_mid rfl 22 (.tmp 18) rfl w.heap.size 0 rfl (nv .u8 (Ci.ks L 0)) _ (hmm.out.key 0) Tryd.underlying22 rfl (by rw [nv_len, Ci.ks_len hLl 0 (by omega)]; kernel_rfl) ?_))
  refine (add_any (w.heap.size + 1 + 1 + 1) b (Ci.ks L 0) hbl (Ci.ks_len hLl 0 (by omega)) hb (Ci.ks_byt hL 0) _ hmm.out.s).mono ?_
  rintro e w1 ⟨rfl, hs1⟩
  have hm1 := Lib.hid (hmm.out.step hs1)
  clear hs1 hst hfold hzs hzv hvs hmf hmm
  go_wp2
  go_loopw [10] (fun s wr => ∃ k : Nat, k ≤ 10 ∧ s = .int .i64 ((k : Int) + 1) ∧ EnMem w.heap.size L (Ci.encS L b k) w wr) (fun s _ => 11 - (intOf s).toNat)
  case atStart => exact ⟨0, by omega, rfl, hm1.out⟩
  case round =>
    clear hm1
    obtain ⟨k, hk, rfl, hmem⟩ := hrel
    by_cases hlt : k < 10
    · have hltI : (k : Int) + 1 ≤ 10 := by omega
      have hmm := Lib.hid hmem
      clear hmem
      go_wp2_with fail
      refine (each_sub (w.heap.size + 1 + 1 + 1) (Ci.encS L b k) (Ci.encS_len L b k) (Ci.encS_byt hL hb k) _ hmm.out.s).mono ?_
      rintro e w2 ⟨rfl, hs2⟩
      have hm2 := Lib.hid (hmm.out.step hs2)
      clear hs2 hmm
      go_wp2_with fail
      refine (rotate1_any (w.heap.size + 1 + 1 + 1) (Ci.each Gf.sub (Ci.encS L b k)) (Ci.each_len _ _) (Ci.each_byt Gf.sub_lt _) _ hm2.out.s).mono ?_
      rintro e w3 ⟨rfl, hs3⟩
      have hm3 := Lib.hid (hm2.out.step hs3)
      clear hs3 hm2
      by_cases h10 : k + 1 < 10
      · have h10I : (k : Int) + 1 < 10 := by omega
        go_wp2_with fail
        refine (mix_any (w.heap.size + 1 + 1 + 1) [2, 3, 1, 1] (Ci.rot 1 (Ci.each Gf.sub (Ci.encS L b k))) rfl (Ci.rot_len _ _) Ci.fac_byt (Ci.rot_byt (Ci.each_byt Gf.sub_lt _)) _ hm3.out.s).mono ?_
        rintro e w4 ⟨rfl, hs4⟩
        have hm4 := Lib.hid (hm3.out.step hs4)
        clear hs4 hm3
        go_wp2_with (refine wpList_load_mid rfl 22 (.tmp 36) rfl w.heap.size ((k + 1) * 16) rfl (nv .u8 (Ci.ks L (k + 1))) _ (hm4.out.key (k + 1)) Tryd.underlying22 rfl (by rw [nv_len, Ci.ks_len hLl (k + 1) (by omega)]; kernel_rfl) ?_)
        refine (add_any (w.heap.size + 1 + 1 + 1) (Ci.mix [2, 3, 1, 1] (Ci.rot 1 (Ci.each Gf.sub (Ci.encS L b k)))) (Ci.ks L (k + 1)) (Ci.mix_len _ _) (Ci.ks_len hLl (k + 1) (by omega)) (Ci.mix_byt Ci.fac_byt (Ci.rot_byt (Ci.each_byt Gf.sub_lt _))) (Ci.ks_byt hL _) _ hm4.out.s).mono ?_
        rintro e w5 ⟨rfl, hs5⟩
        have hm5 := hm4.out.step hs5
        have he : Ci.addK (Ci.mix [2, 3, 1, 1] (Ci.rot 1 (Ci.each Gf.sub (Ci.encS L b k)))) (Ci.ks L (k + 1)) = Ci.encS L b (k + 1) := by
          show _ = Ci.addK (if k + 1 < 10 then _ else _) _
          rw [if_pos h10]
        rw [he] at hm5
        have hm6 := Lib.hid hm5
        clear hs5 hm4 hm5 he
        go_wp2
        go_roundw
        case rel => exact ⟨k + 1, by omega, by go_num, hm6.out⟩
        case measure => simp [intOf]; omega
      · have h10I : 10 ≤ (k : Int) + 1 := by omega
        go_wp2_with (refine wpList_load_mid rfl 22 (.tmp 36) rfl w.heap.size ((k + 1) * 16) rfl (nv .u8 (Ci.ks L (k + 1))) _ (hm3.out.key (k + 1)) Tryd.underlying22 rfl (by rw [nv_len, Ci.ks_len hLl (k + 1) (by omega)]; kernel_rfl) ?_)
        refine (add_any (w.heap.size + 1 + 1 + 1) (Ci.rot 1 (Ci.each Gf.sub (Ci.encS L b k))) (Ci.ks L (k + 1)) (Ci.rot_len _ _) (Ci.ks_len hLl (k + 1) (by omega)) (Ci.rot_byt (Ci.each_byt Gf.sub_lt _)) (Ci.ks_byt hL _) _ hm3.out.s).mono ?_
        rintro e w5 ⟨rfl, hs5⟩
        have hm5 := hm3.out.step hs5
        have he : Ci.addK (Ci.rot 1 (Ci.each Gf.sub (Ci.encS L b k))) (Ci.ks L (k + 1)) = Ci.encS L b (k + 1) := by
          show _ = Ci.addK (if k + 1 < 10 then _ else _) _
          rw [if_neg h10]
        rw [he] at hm5
        have hm6 := Lib.hid hm5
        clear hs5 hm3 hm5 he
        go_wp2
        go_roundw
        case rel => exact ⟨k + 1, by omega, by go_num, hm6.out⟩
        case measure => simp [intOf]; omega
    · obtain rfl : k = 10 := by omega
      have hel : (Ci.encS L b 10).length = 16 := Ci.encS_len L b 10
      have hsz0 : (Tryd.prog.info? 22).map (·.size) = some (va .u8 (Ci.encS L b 10)).size := by rw [va_size, hel]; kernel_rfl
      have hszE := Lib.hid hsz0
      have hst := run_storeBlk (P := Tryd.prog) hmem.r .u8 (Ci.encS L b 10) (by rw [va_size, z16_len, hel])
      have hvs : (va .u8 (Ci.encS L b 10)).size = 16 := by rw [va_size, hel]
      have hmm := Lib.hid hmem
      clear hsz0 hmem hel
      go_wp2_with (refine wpList_load_row rfl 22 (.tmp 39) rfl (w.heap.size + 1 + 1 + 1) rfl 110 (va .u8 (Ci.encS L b 10)) (0, 0) _ hmm.out.s Tryd.underlying22 rfl hszE.out ?_)
      exact bodyPost_ret (results_cell_row rfl _ _ (w.heap.size + 1 + 1) 22 (va .u8 (Ci.encS L b 10)) (0, 0) _ rfl (hmm.out.r.row _) Tryd.underlying22 rfl hszE.out) rfl ⟨rfl, below_setRow hmm.out.bel (by omega) _⟩
end Go.Proofs.YtcfddmplnoknlaaDoor
namespace Go.Proofs.YtcfddmplnoknlaaDoor
set_option maxRecDepth 16384
open Go.RowKit

def z176 : List Nat := List.replicate 176 0
theorem z176_len : z176.length = 176 := List.length_replicate ..
theorem zeroWords (w : World) : (zeroValue 137).run Tryd.prog w = .ok (.agg (va .u8 z176)) w := by kernel_rfl


end Go.Proofs.YtcfddmplnoknlaaDoor
namespace Go.Proofs.YtcfddmplnoknlaaDoor.Ci
set_option maxRecDepth 16384

def tw (b : List Nat) (K j : Nat) : Nat := Gf.sub (b.getD (12 + (j + 1) % 4) 0) ^^^ (if j = 0 then Gf.pw 2 K else 0)
def col (b : List Nat) (K j : Nat) : Nat → Nat
 | 0 => tw b K j ^^^ b.getD j 0
 | q + 1 => col b K j q ^^^ b.getD (4 * (q + 1) + j) 0
def rowE (key : List Nat) : Nat → List Nat
 | 0 => key
 | K + 1 => (List.range 16).map fun i => col (rowE key K) K (i % 4) (i / 4)
def exF (key : List Nat) (n : Nat) : Nat := (rowE key (n / 16)).getD (n % 16) 0
def exL (key : List Nat) : List Nat := (List.range 176).map (exF key)
def wd (b : List Nat) (K i : Nat) : List Nat := (List.range 4).map fun j => match (i + 3 - j) / 4 with
 | 0 => tw b K j
 | q + 1 => col b K j q
theorem wd_step (b : List Nat) (K : Nat) : ∀ i, i < 16 → (wd b K i).set (i % 4) (col b K (i % 4) (i / 4)) = wd b K (i + 1) ∧ (wd b K i).getD (i % 4) 0 ^^^ b.getD i 0 = col b K (i % 4) (i / 4)
 | 0, _ => ⟨rfl, rfl⟩
 | 1, _ => ⟨rfl, rfl⟩
 | 2, _ => ⟨rfl, rfl⟩
 | 3, _ => ⟨rfl, rfl⟩
 | 4, _ => ⟨rfl, rfl⟩
 | 5, _ => ⟨rfl, rfl⟩
 | 6, _ => ⟨rfl, rfl⟩
 | 7, _ => ⟨rfl, rfl⟩
 | 8, _ => ⟨rfl, rfl⟩
 | 9, _ => ⟨rfl, rfl⟩
 | 10, _ => ⟨rfl, rfl⟩
 | 11, _ => ⟨rfl, rfl⟩
 | 12, _ => ⟨rfl, rfl⟩
 | 13, _ => ⟨rfl, rfl⟩
 | 14, _ => ⟨rfl, rfl⟩
 | 15, _ => ⟨rfl, rfl⟩
 | n + 16, h => by omega
theorem wd_zero (b : List Nat) (K : Nat) : wd b K 0 = [Gf.sub (b.getD 13 0) ^^^ Gf.pw 2 K, Gf.sub (b.getD 14 0), Gf.sub (b.getD 15 0), Gf.sub (b.getD 12 0)] := by
 show [_, Gf.sub (b.getD 14 0) ^^^ 0, Gf.sub (b.getD 15 0) ^^^ 0, Gf.sub (b.getD 12 0) ^^^ 0] = _
 simp only [Nat.xor_zero]
 rfl
theorem wd_len (b : List Nat) (K i : Nat) : (wd b K i).length = 4 := by simp [wd]
theorem tw_lt (b : List Nat) (K j : Nat) : tw b K j < 256 := by
  unfold tw
  refine Nat.xor_lt_two_pow (n := 8) (Gf.sub_lt _) ?_
  split
  · exact Gf.pw_lt 2 K (by omega)
  · omega
theorem col_lt {b : List Nat} (hb : Byt b) (K j : Nat) : ∀ q, col b K j q < 256
 | 0 => Nat.xor_lt_two_pow (n := 8) (tw_lt b K j) (hb.get _)
 | q + 1 => Nat.xor_lt_two_pow (n := 8) (col_lt hb K j q) (hb.get _)
theorem wd_byt {b : List Nat} (hb : Byt b) (K i : Nat) : Byt (wd b K i) := byt_map fun j _ => by
  split
  · exact tw_lt b K j
  · exact col_lt hb K j _
theorem rowE_len {key : List Nat} (h : key.length = 16) : ∀ K, (rowE key K).length = 16
 | 0 => h
 | _ + 1 => by simp [rowE]
theorem rowE_byt {key : List Nat} (h : Byt key) : ∀ K, Byt (rowE key K)
 | 0 => h
 | K + 1 => byt_map fun _ _ => col_lt (rowE_byt h K) _ _ _
theorem exF_row (key : List Nat) (K i : Nat) (hi : i < 16) : exF key (16 * K + i) = (rowE key K).getD i 0 := by
 unfold exF
 rw [show (16 * K + i) / 16 = K from by omega, show (16 * K + i) % 16 = i from by omega]
theorem exF_next (key : List Nat) (K i : Nat) (hi : i < 16) : exF key (16 * (K + 1) + i) = col (rowE key K) K (i % 4) (i / 4) := by
 rw [exF_row key (K + 1) i hi]
 simp [rowE, List.getD_eq_getElem?_getD, hi]
theorem exL_len (key : List Nat) : (exL key).length = 176 := by simp [exL]
theorem exF_lt {key : List Nat} (h : Byt key) (n : Nat) : exF key n < 256 := (rowE_byt h _).get _
theorem exL_byt {key : List Nat} (h : Byt key) : Byt (exL key) := byt_map fun n _ => exF_lt h n
theorem upd_row (key z : List Nat) (hz : z.length = 176) (hk : key.length = 16) (K n : Nat) (hn : 16 * (K + 1) ≤ n) (hn2 : n ≤ 176) : ((upd (exF key) z n).drop (K * 16)).take 16 = rowE key K := by
  apply List.ext_getElem
  · simp [upd_len, hz, rowE_len hk]; omega
  · intro i h1 h2
    have hi : i < 16 := by rw [rowE_len hk] at h2; exact h2
    have e := upd_get (exF key) z n (K * 16 + i) (by omega)
    rw [if_pos (by omega), show K * 16 + i = 16 * K + i from by omega, exF_row key K i hi] at e
    rw [List.getElem_take, List.getElem_drop]
    have h3 : K * 16 + i < (upd (exF key) z n).length := by rw [upd_len]; omega
    simp only [List.getD_eq_getElem?_getD, List.getElem?_eq_getElem h2] at e
    rw [show 16 * K + i = K * 16 + i from by omega, List.getElem?_eq_getElem h3] at e
    simpa using e
theorem upd_first (key z : List Nat) (hz : z.length = 176) (hk : key.length = 16) : key ++ z.drop 16 = upd (exF key) z 16 := by
  apply List.ext_getElem
  · simp [upd_len, hz, hk]
  · intro i h1 h2
    have hi : i < 176 := by rw [upd_len] at h2; omega
    simp only [upd, List.getElem_map, List.getElem_range]
    rw [List.getElem_append]
    split
    · rename_i h
      rw [if_pos (by omega)]
      have e := exF_row key 0 i (by omega)
      simp only [Nat.mul_zero, Nat.zero_add] at e
      rw [e]
      show _ = key.getD i 0
      simp [List.getD_eq_getElem?_getD, h]
    · rename_i h
      rw [if_neg (by omega)]
      rw [List.getElem_drop]
      simp [List.getD_eq_getElem?_getD, hk, show 16 + (i - 16) = i from by omega, show i < z.length from by omega]
theorem exL_all (key z : List Nat) (hz : z.length = 176) : upd (exF key) z 176 = exL key := by
 rw [upd_all _ _ _ (by omega), hz]; rfl
end Go.Proofs.YtcfddmplnoknlaaDoor.Ci
namespace Go.Proofs.YtcfddmplnoknlaaDoor.Ci
set_option maxRecDepth 16384

def pv (key : List Nat) (i j : Nat) : Nat := exF key (4 * (i - 1) + j)
def pvL (key : List Nat) (i : Nat) : List Nat := [pv key i 0, pv key i 1, pv key i 2, pv key i 3]
def tWord (key : List Nat) (i : Nat) : List Nat := if i % 4 = 0 then [Gf.sub (pv key i 1) ^^^ Gf.pw 2 ((i - 1) / 4), Gf.sub (pv key i 2), Gf.sub (pv key i 3), Gf.sub (pv key i 0)] else pvL key i
theorem tWord_len (key : List Nat) (i : Nat) : (tWord key i).length = 4 := by unfold tWord; split <;> rfl
theorem pv_lt {key : List Nat} (h : Byt key) (i j : Nat) : pv key i j < 256 := exF_lt h _
theorem tWord_byt {key : List Nat} (h : Byt key) (i : Nat) : Byt (tWord key i) := by
  have p := pv_lt h i
  intro x hx
  unfold tWord at hx
  split at hx
  · simp only [List.mem_cons, List.not_mem_nil, or_false] at hx
    rcases hx with rfl | rfl | rfl | rfl
    · exact Nat.xor_lt_two_pow (n := 8) (Gf.sub_lt _) (Gf.pw_lt 2 _ (by omega))
    all_goals exact Gf.sub_lt _
  · simp only [pvL, List.mem_cons, List.not_mem_nil, or_false] at hx
    rcases hx with rfl | rfl | rfl | rfl
    all_goals exact p _
theorem pv_first (key : List Nat) (K j : Nat) (hj : j < 4) : pv key (4 * (K + 1)) j = (rowE key K).getD (12 + j) 0 := by
 unfold pv
 rw [show 4 * (4 * (K + 1) - 1) + j = 16 * K + (12 + j) from by omega]
 exact exF_row key K _ (by omega)
theorem pv_next (key : List Nat) (K q j : Nat) (hq : q < 3) (hj : j < 4) : pv key (4 * (K + 1) + (q + 1)) j = col (rowE key K) K j q := by
 unfold pv
 rw [show 4 * (4 * (K + 1) + (q + 1) - 1) + j = 16 * (K + 1) + (4 * q + j) from by omega]
 rw [exF_next key K _ (by omega), show (4 * q + j) % 4 = j from by omega, show (4 * q + j) / 4 = q from by omega]
theorem word_next (key : List Nat) (i k : Nat) (h4 : 4 ≤ i) (hk : k < 4) : exF key (4 * (i - 4) + k) ^^^ (tWord key i).getD k 0 = exF key (4 * i + k) := by
  obtain ⟨K, q, hq, rfl⟩ : ∃ K q, q < 4 ∧ i = 4 * (K + 1) + q := ⟨i / 4 - 1, i % 4, by omega, by omega⟩
  rw [show 4 * (4 * (K + 1) + q - 4) + k = 16 * K + (4 * q + k) from by omega, exF_row key K _ (by omega)]
  rw [show 4 * (4 * (K + 1) + q) + k = 16 * (K + 1) + (4 * q + k) from by omega, exF_next key K _ (by omega)]
  rw [show (4 * q + k) % 4 = k from by omega, show (4 * q + k) / 4 = q from by omega]
  rcases q with _ | q
  · unfold tWord
    rw [if_pos (by omega)]
    simp only [Nat.add_zero]
    rw [pv_first key K 0 (by omega), pv_first key K 1 (by omega), pv_first key K 2 (by omega), pv_first key K 3 (by omega), show (4 * (K + 1) - 1) / 4 = K from by omega]
    simp only [col, Nat.mul_zero, Nat.zero_add]
    rw [Nat.xor_comm]
    refine congrArg (· ^^^ _) ?_
    rcases k with _ | _ | _ | _ | k
    · simp [tw]
    · simp [tw]
    · simp [tw]
    · simp [tw]
    · omega
  · unfold tWord
    rw [if_neg (by omega)]
    simp only [pvL]
    rw [pv_next key K q 0 (by omega) (by omega), pv_next key K q 1 (by omega) (by omega), pv_next key K q 2 (by omega) (by omega), pv_next key K q 3 (by omega) (by omega)]
    simp only [col]
    rw [Nat.xor_comm]
    refine congrArg (· ^^^ _) ?_
    rcases k with _ | _ | _ | _ | k
    · rfl
    · rfl
    · rfl
    · rfl
    · omega
theorem word_key {key : List Nat} (i k : Nat) (hi : i < 4) (hk : k < 4) : exF key (4 * i + k) = key.getD (4 * i + k) 0 := by
 have e := exF_row key 0 (4 * i + k) (by omega)
 rw [show 16 * 0 + (4 * i + k) = 4 * i + k from by omega] at e
 exact e
theorem pvL_part (key z : List Nat) (n i : Nat) (h1 : 1 ≤ i) (hn : 4 * i ≤ n) (hz : 4 * i ≤ z.length) : ((upd (exF key) z n).drop ((i - 1) * 4)).take 4 = pvL key i := by
  apply List.ext_getElem
  · simp [upd_len, pvL]; omega
  · intro j h1' h2
    have hj : j < 4 := h2
    rw [List.getElem_take, List.getElem_drop]
    have e := upd_get (exF key) z n ((i - 1) * 4 + j) (by omega)
    rw [if_pos (by omega)] at e
    have h3 : (i - 1) * 4 + j < (upd (exF key) z n).length := by rw [upd_len]; omega
    rw [List.getD_eq_getElem?_getD, List.getElem?_eq_getElem h3] at e
    simp only [Option.getD_some] at e
    rw [e, show (i - 1) * 4 + j = 4 * (i - 1) + j from by omega]
    rcases j with _ | _ | _ | _ | j
    · rfl
    · rfl
    · rfl
    · rfl
    · omega
theorem pow_keep (i : Nat) (h : i % 4 ≠ 0) : (i - 1) / 4 = (i + 1 - 1) / 4 := by omega
theorem pow_next (i : Nat) (h : i % 4 = 0) (h4 : 4 ≤ i) : Gf.gm (Gf.pw 2 ((i - 1) / 4)) 2 = Gf.pw 2 ((i + 1 - 1) / 4) := by
 rw [show (i + 1 - 1) / 4 = (i - 1) / 4 + 1 from by omega]
 rfl
end Go.Proofs.YtcfddmplnoknlaaDoor.Ci
namespace Go.Proofs.YtcfddmplnoknlaaDoor
open Go.RowKit
/-! blocks of four bytes -/
def z4 : List Nat := List.replicate 4 0
theorem z4_len : z4.length = 4 := rfl
theorem zero4 (w : World) : (zeroValue 106).run Tryd.prog w = .ok (.agg (va .u8 z4)) w := by kernel_rfl
theorem fourCells {w : World} {N : Nat} {t : TypeId} {a b c d : Value} (h : Blk w N t #[a, b, c, d]) : w.cell? ⟨N, 0, none⟩ = some a ∧ w.cell? ⟨N, 1, none⟩ = some b ∧ w.cell? ⟨N, 2, none⟩ = some c ∧ w.cell? ⟨N, 3, none⟩ = some d :=
 ⟨h.cell 0, h.cell 1, h.cell 2, h.cell 3⟩
theorem fourFree {w : World} {g : Nat} {t : TypeId} {cs : Array Value} (h : Blk w g t cs) :
  w.frozen? ⟨g, 0, none⟩ = false ∧ w.frozen? ⟨g, 1, none⟩ = false ∧ w.frozen? ⟨g, 2, none⟩ = false ∧ w.frozen? ⟨g, 3, none⟩ = false :=
 ⟨h.frozen 0, h.frozen 1, h.frozen 2, h.frozen 3⟩
end Go.Proofs.YtcfddmplnoknlaaDoor
