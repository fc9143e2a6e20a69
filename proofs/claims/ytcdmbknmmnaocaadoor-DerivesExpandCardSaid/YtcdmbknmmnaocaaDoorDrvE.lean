/-
  The walks of caissonlaw04.same, from, lives. (Printed by mkdrv04e.py.)
-/
import Derived.Test.YtcdmbknmmnaocaaDoorDrvC
import Derived.Test.YtcdmbknmmnaocaaDoorDrvD
import Derived.Laws.IdiomStrings
namespace Go.Proofs.YtcdmbknmmnaocaaDoor
open Go.RowKit Sh
/-- the slice reads the bytes l; its block, if it has one, is from B0 on -/
def Rs (W : World) (B0 : Nat) (A : Option Addr) (n : Nat) (l : List Nat) : Prop := l.length = n ∧ ((A = none ∧ n = 0) ∨ ∃ g, A = some ⟨g, 0, none⟩ ∧ B0 ≤ g ∧ ByB W g l)
section
variable {w w' : World} {B0 n : Nat} {A : Option Addr} {l : List Nat}
theorem Rs.reads (h : Rs w B0 A n l) : Reads w w.heap.size 1 A n (nv .u8 l) := by
  obtain ⟨hl, ⟨rfl, rfl⟩ | ⟨g, rfl, _, hb⟩⟩ := h
  · obtain rfl := List.eq_nil_of_length_eq_zero hl
    exact Reads.none_
  · exact (hb.reads hl).more hb.lt
theorem Rs.map (h : Rs w B0 A n l) (f : ∀ g, A = some ⟨g, 0, none⟩ → ByB w g l → ByB w' g l) : Rs w' B0 A n l := by
  refine ⟨h.1, ?_⟩
  rcases h.2 with h | ⟨g, rfl, hg, hb⟩
  · exact .inl h
  · exact .inr ⟨g, rfl, hg, f g rfl hb⟩
theorem Rs.lt (h : Rs w B0 A n l) {a : Addr} (ha : A = some a) : a.block < w.heap.size := by
  rcases h.2 with ⟨rfl, _⟩ | ⟨g, rfl, hg, hb⟩
  · cases ha
  · cases ha; exact hb.lt
theorem Rs.new_off (h : Rs w B0 A n l) : Off A w.heap.size := fun a ha e => by have := h.lt ha; omega
theorem Rs.off_ge (h : Rs w B0 A n l) {x : Nat} (hx : w.heap.size ≤ x) : Off A x := fun a ha e => by have := h.lt ha; omega
theorem Rs.below (h : Rs w B0 A n l) (bx : Below w.heap.size w w') : Rs w' B0 A n l := h.map fun g _ hb => hb.below bx hb.lt
theorem Rs.alloc (h : Rs w B0 A n l) (o : Obj) : Rs (w.alloc o) B0 A n l := h.map fun g _ hb => hb.alloc o
theorem Rs.drew_ (h : Rs w B0 A n l) : Rs w.drew B0 A n l := h.map fun g _ hb => hb.drew_
theorem Rs.far (h : Rs w B0 A n l) {p : Addr} (hne : Off A p.block) (u : Value) : Rs (w.setCell p u) B0 A n l := h.map fun g e hb => hb.far (hne _ e) u
theorem Rs.rowFar {x : Nat} (h : Rs w B0 A n l) (hne : Off A x) (cs : Array Value) : Rs (w.setRow x cs) B0 A n l := h.map fun g e hb => hb.rowFar (fun e2 => hne _ e e2.symm) cs
theorem Rs.mono {B1 : Nat} (h : Rs w B0 A n l) (hb : B1 ≤ B0) : Rs w B1 A n l := ⟨h.1, h.2.imp id fun ⟨g, e, hg, hb2⟩ => ⟨g, e, Nat.le_trans hb hg, hb2⟩⟩
theorem Rs.grown {A2 : Option Addr} {n2 c2 : Nat} (h : Rs w B0 A n l) (hb : w.grownBy w' (Value.slice A2 n2 c2).ownBlock) (hne : ∀ a, A = some a → Off A2 a.block) : Rs w' B0 A n l := h.map fun g e hy => hy.grown hb ((hne _ e).ob n2 c2)
end
/-- derives.Expand where it is allowed -/
theorem dexp_to (key info : List Nat) (z : Nat) (l : List Nat) (hl : ex key info z = l) (hz : z ≤ 8160) (A : Option Addr) (n c B : Nat) (A2 : Option Addr) (n2 c2 B2 : Nat) (hk : Byt key) (hi : Byt info) (hnc : n ≤ c) (hn : n < 1000) (hnc2 : n2 ≤ c2) (hn2 : n2 < 1000) (w : World) (hg : Glob w)
    (hr : Reads w B 1 A n (nv .u8 key)) (hB : B ≤ w.heap.size) (hr2 : Reads w B2 1 A2 n2 (nv .u8 info)) (hB2 : B2 ≤ w.heap.size) :
    Calls Tryd.prog 11 #[.slice A n c, .slice A2 n2 c2, .int .i64 (z : Int)] w fun e' w' => ∃ Ar, e' = .returned (.tuple #[.slice Ar z z, .int .i64 0]) ∧ Rs w' w.heap.size Ar z l ∧ Below w.heap.size w w' := by
  subst hl
  by_cases h0 : 0 < z
  · refine (dexp_ok key info z h0 hz A n c B A2 n2 c2 B2 hk hi hnc hn hnc2 hn2 w hg hr hB hr2 hB2).mono ?_
    rintro e w' ⟨g, rfl, hg, hgg, bx⟩
    exact ⟨_, rfl, ⟨ex_len _ _ _ hz, .inr ⟨g, rfl, hgg, hg⟩⟩, bx⟩
  · obtain rfl : z = 0 := by omega
    refine (dexp_none 0 0 (.inr (.inr ⟨rfl, rfl⟩)) (by omega) A n c A2 n2 c2 w).mono ?_
    rintro e w' ⟨rfl, bx⟩
    exact ⟨none, rfl, ⟨rfl, .inl ⟨rfl, rfl⟩⟩, bx⟩
theorem extract_to (key m t : List Nat) (ht : hm key m = t) (A : Option Addr) (n c B : Nat) (A2 : Option Addr) (n2 c2 B2 : Nat) (hk : Byt key) (hmb : Byt m) (hnc : n ≤ c) (hn : n < 1000) (hnc2 : n2 ≤ c2) (hn2 : n2 < 1000) (w : World) (hg : Glob w) (hr : Reads w B 1 A n (nv .u8 key)) (hB : B ≤ w.heap.size)
    (hr2 : Reads w B2 1 A2 n2 (nv .u8 m)) (hB2 : B2 ≤ w.heap.size) :
    Calls Tryd.prog 9 #[.slice A n c, .slice A2 n2 c2] w fun e w' => e = .returned (.agg (va .u8 t)) ∧ Below w.heap.size w w' := by
  subst ht; exact extract_any key m A n c B A2 n2 c2 B2 hk hmb hnc hn hnc2 hn2 w hg hr hB hr2 hB2

set_option maxRecDepth 8000 in
set_option maxHeartbeats 2000000 in
theorem same04_any (l : List Nat) (A : Option Addr) (n B : Nat) (A2 : Option Addr) (c2 B2 : Nat) (e : Int) (w : World) (hr : Reads w B 1 A n (nv .u8 l)) (hBw : B ≤ w.heap.size) (hr2 : Reads w B2 1 A2 n (nv .u8 l)) (hB2w : B2 ≤ w.heap.size) :
    Calls Tryd.prog 12 #[.slice A n n, .int .i64 e, .slice A2 n c2, .int .i64 e] w fun e w' => e = .returned (.bool true) ∧ Below w.heap.size w w' := by
  obtain ⟨B0, hB0e⟩ : ∃ b, w.heap.size = b := ⟨_, rfl⟩
  rw [hB0e]
  have hW : Below B0 w w := by rw [← hB0e]; exact Below.refl _ _
  have hB0 : B0 ≤ w.heap.size := by omega
  have rd := reads_of hr (by omega : B ≤ B0)
  have rd2 := reads_of hr2 (by omega : B2 ≤ B0)
  have hB0q := Lib.hid hB0e
  clear hB0e
  go_enter Tryd.func12, Tryd.ntmps12
  go_upto_region 0 with fail
  refine wl_lit ?_
  refine runL 8 (.bool false) rfl (by rfl) (by go_simp) ?_
  simp only [List.set_cons_zero, List.set_cons_succ]
  refine nilL ?_
  go_upto_region 1 with fail
  refine wl_lit ?_
  refine runL 9 (.int .i64 (e)) rfl (by rfl) (by go_simp) ?_
  simp only [List.set_cons_zero, List.set_cons_succ]
  refine runL 10 (.int .i64 (e)) rfl (by rfl) (by go_simp) ?_
  simp only [List.set_cons_zero, List.set_cons_succ]
  refine runL 11 (.bool true) rfl (by rfl) (by go_simp) ?_
  simp only [List.set_cons_zero, List.set_cons_succ]
  refine runL 12 (.bool true) rfl (by rfl) (by go_simp) ?_
  simp only [List.set_cons_zero, List.set_cons_succ]
  refine runL 13 (.slice (A) n n) rfl (by rfl) (by go_simp) ?_
  simp only [List.set_cons_zero, List.set_cons_succ]
  refine runL 14 (.string (bst (l))) rfl (by rfl) (exec_conv 22 9 (.tmp 13) rfl (.slice (A) n n) (.string (bst (l))) rfl (Reads.string (rd.out _ hW) _ _ Tryd.underlying22 Tryd.underlying9)) ?_
  simp only [List.set_cons_zero, List.set_cons_succ]
  refine runL 15 (.slice (A2) n c2) rfl (by rfl) (by go_simp) ?_
  simp only [List.set_cons_zero, List.set_cons_succ]
  refine runL 16 (.string (bst (l))) rfl (by rfl) (exec_conv 22 9 (.tmp 15) rfl (.slice (A2) n c2) (.string (bst (l))) rfl (Reads.string (rd2.out _ hW) _ _ Tryd.underlying22 Tryd.underlying9)) ?_
  simp only [List.set_cons_zero, List.set_cons_succ]
  refine runL 17 (.bool true) rfl (by rfl) (by go_simp) ?_
  simp only [List.set_cons_zero, List.set_cons_succ]
  refine runL 18 (.bool true) rfl (by rfl) (by go_simp) ?_
  simp only [List.set_cons_zero, List.set_cons_succ]
  refine runL 19 (.bool true) rfl (by rfl) (by go_simp) ?_
  simp only [List.set_cons_zero, List.set_cons_succ]
  refine runL 20 (.slice (A) n n) rfl (by rfl) (by go_simp) ?_
  simp only [List.set_cons_zero, List.set_cons_succ]
  refine runL 21 (.int .i64 (n)) rfl (by rfl) (by go_simp) ?_
  simp only [List.set_cons_zero, List.set_cons_succ]
  refine runL 22 (.slice (A) n n) rfl (by rfl) (by go_simp) ?_
  simp only [List.set_cons_zero, List.set_cons_succ]
  refine runL 23 (.int .i64 (n)) rfl (by rfl) (by go_simp) ?_
  simp only [List.set_cons_zero, List.set_cons_succ]
  refine runL 24 (.bool true) rfl (by rfl) (by go_simp) ?_
  simp only [List.set_cons_zero, List.set_cons_succ]
  refine runL 25 (.bool true) rfl (by rfl) (by go_simp) ?_
  simp only [List.set_cons_zero, List.set_cons_succ]
  refine runL 8 (.bool true) rfl (by rfl) (by go_simp) ?_
  simp only [List.set_cons_zero, List.set_cons_succ]
  refine nilL ?_
  go_wp2_with fail
  go_ret
  exact ⟨rfl, hW⟩

/-- n bytes that rise from x -/
def fr (x n : Nat) : List Nat := (List.range n).map fun i => (x + i) % 256
theorem fr_len (x n : Nat) : (fr x n).length = n := by simp [fr]
theorem fr_byt (x n : Nat) : Byt (fr x n) := fun y hy => by
  simp only [fr, List.mem_map] at hy
  obtain ⟨i, _, rfl⟩ := hy
  omega
theorem fr_step (x k : Nat) : fr x k ++ [(x + k) % 256] = fr x (k + 1) := by simp [fr, List.range_succ]

set_option maxRecDepth 8000 in
set_option maxHeartbeats 2000000 in
theorem from_any (x n : Nat) (hx : x < 256) (hn : n < 256) (w : World) :
    Calls Tryd.prog 16 #[.int .u8 (x : Int), .int .i64 (n : Int)] w fun e w' => ∃ A c, e = .returned (.slice A n c) ∧ Own w' w.heap.size A n c (fr x n) ∧ Below w.heap.size w w' := by
  obtain ⟨B0, hB0e⟩ : ∃ b, w.heap.size = b := ⟨_, rfl⟩
  rw [hB0e]
  have hW : Below B0 w w := by rw [← hB0e]; exact Below.refl _ _
  have hB0 : B0 ≤ w.heap.size := by omega
  have hB0q := Lib.hid hB0e
  clear hB0e
  go_enter Tryd.func16, Tryd.ntmps16
  go_upto_region 0 with fail
  refine wl_lit ?_
  refine runL 4 (.slice none 0 0) rfl (by rfl) (by go_simp) ?_
  simp only [List.set_cons_zero, List.set_cons_succ]
  refine nilL ?_
  go_upto_region 1 with fail
  refine wl_lit ?_
  refine runL 5 (.slice none 0 0) rfl (by rfl) (by go_simp) ?_
  simp only [List.set_cons_zero, List.set_cons_succ]
  refine nilL ?_
  have hO0 : Own w B0 none 0 0 [] := Own.nil _ _
  go_upto_region 2 with fail
  refine wl_lit ?_
  refine runL 6 (.int .i64 0) rfl (by rfl) (by go_simp) ?_
  simp only [List.set_cons_zero, List.set_cons_succ]
  refine nilL ?_
  go_wp2
  go_loopw [5, 6] (fun v u wr => ∃ (k : Nat) (AI : Option Addr) (cI : Nat), k ≤ n ∧ u = .int .i64 (k : Int) ∧ v = .slice AI k cI ∧ Own wr B0 AI k cI (fr x k) ∧ Below B0 w wr) (fun _ u _ => n - (intOf u).toNat)
  case atStart => exact ⟨0, none, 0, by omega, rfl, rfl, hO0, hW⟩
  case round =>
    clear hO0 hW
    obtain ⟨k, AI, cI, hk, rfl, rfl, hAI, hW⟩ := hrel
    by_cases hlt : k < n
    ·
      have hltI : (k : Int) < (n : Int) := by omega
      have hw8 : IntKind.u8.wrap (k : Int) = (k : Int) := by simp [IntKind.wrap, IntKind.bits, IntKind.signed]; omega
      obtain ⟨y, hy⟩ : ∃ y, (x + k) % 256 = y := ⟨_, rfl⟩
      have hwy : IntKind.u8.wrap ((x : Int) + (k : Int)) = (y : Int) := by simp [IntKind.wrap, IntKind.bits, IntKind.signed]; omega
      have hwi : IntKind.i64.wrap ((k : Int) + 1) = ((k + 1 : Nat) : Int) := by rw [IntWalk.i64_in _ (by omega)]; omega
      have hy256 : y < 256 := by omega
      have hst := fr_step x k
      rw [hy] at hst
      have hstq := Lib.hid hst
      clear hst hy
      go_upto_region 5 with fail
      refine wl_lit ?_
      refine runL 12 (.slice (AI) k cI) rfl (by rfl) (by go_simp) ?_
      simp only [List.set_cons_zero, List.set_cons_succ]
      refine runL 13 (.int .u8 (x : Int)) rfl (by rfl) (by go_simp) ?_
      simp only [List.set_cons_zero, List.set_cons_succ]
      refine runL 14 (.int .i64 (k : Int)) rfl (by rfl) (by go_simp) ?_
      simp only [List.set_cons_zero, List.set_cons_succ]
      refine runL 15 (.int .u8 (k : Int)) rfl (by rfl) (by go_simp) ?_
      simp only [List.set_cons_zero, List.set_cons_succ]
      refine runL 16 (.int .u8 ((y : Nat) : Int)) rfl (by rfl) (by go_simp) ?_
      simp only [List.set_cons_zero, List.set_cons_succ]
      refine runWL 17 (.slice (some ⟨wr.heap.size, 0, none⟩) 1 1) (wr.alloc (.cells (va .u8 ([y])) 5)) rfl (by rfl) (exec_bslice 22 1 _ rfl _ (by exact bs_b1 y _)) ?_
      simp only [List.set_cons_zero, List.set_cons_succ]
      have nAI_q1 := hAI.new_off
      have lw_q1 := Nat.le_trans hB0 hW.size
      have hq1 : Blk (wr.alloc (.cells (va .u8 ([y])) 5)) wr.heap.size 5 (va .u8 ([y])) := Blk.new _ _ _
      replace hAI := hAI.alloc (.cells (va .u8 ([y])) 5)
      replace hW := hW.alloc (Nat.le_trans hB0 hW.size) (.cells (va .u8 ([y])) 5)
      generalize wr.alloc (.cells (va .u8 ([y])) 5) = w1 at *
      generalize wr.heap.size = q1 at hq1 lw_q1 nAI_q1 ⊢
      obtain ⟨AJ, cAJ, w2, hap, hAJ, hcAJ, hgr, hof⟩ := own_append hAI (some ⟨q1, 0, none⟩) 1 1 _ ([y]) (hq1.readsAll (Nat.lt_succ_self _) (rfl)) (Nat.le_trans hB0 hW.size) (fr x (k + 1)) hstq.out (k + 1) (by omega) (by omega) 22
      refine runWL 18 (.slice AJ (k + 1) cAJ) w2 rfl (by rfl) (exec_append _ _ _ _ rfl _ _ _ rfl rfl hap) ?_
      simp only [List.set_cons_zero, List.set_cons_succ]
      have nAJ_q1 := hof q1 nAI_q1 hq1.lt
      replace hq1 := hq1.grown hgr (nAI_q1.ob _ _)
      replace hW := Own.belowG hW (Nat.le_trans hB0 hW.size) hAI.from_ hgr
      clear hAI hgr hof hap
      refine runL 5 (.slice (AJ) (k + 1) cAJ) rfl (by rfl) (by go_simp) ?_
      simp only [List.set_cons_zero, List.set_cons_succ]
      refine nilL ?_
      go_wp2
      go_roundw
      case rel => exact ⟨k + 1, AJ, cAJ, by omega, by go_num, rfl, hAJ, hW⟩
      case measure => simp [intOf]; omega
    ·
      obtain rfl : n = k := by omega
      go_upto_region 6 with fail
      refine wl_lit ?_
      refine runL 19 (.slice (AI) n cI) rfl (by rfl) (by go_simp) ?_
      simp only [List.set_cons_zero, List.set_cons_succ]
      refine runL 4 (.slice (AI) n cI) rfl (by rfl) (by go_simp) ?_
      simp only [List.set_cons_zero, List.set_cons_succ]
      refine nilL ?_
      go_wp2_with fail
      go_ret
      exact ⟨_, _, rfl, hAI, hW⟩

theorem bst_fold : ∀ (l : List Nat) (r : ByteArray), (l.map fun x : Nat => (x : Int)).foldl (fun r n => r.push (UInt8.ofNat n.toNat)) r = ⟨r.data ++ (l.map UInt8.ofNat).toArray⟩
  | [], r => by simp
  | x :: l, r => by
    simp only [List.map_cons, List.foldl_cons]
    rw [bst_fold l]
    simp [ByteArray.push]
theorem bst_data (l : List Nat) : (bst l).data = (l.map UInt8.ofNat).toArray := by
  unfold bst
  rw [bst_fold]
  simp
theorem bst_sizeD (l : List Nat) : (bst l).size = l.length := by
  show (bst l).data.size = _
  rw [bst_data]; simp
theorem str_bytes (l : List Nat) (hb : Byt l) (n : Nat) (hn : l.length = n) (w : World) : ∃ g c W', (convert 9 22 (.string (bst l))).run Tryd.prog w = .ok (.slice (some ⟨g, 0, none⟩) n c) W' ∧ ByB W' g l ∧ n ≤ c ∧ w.heap.size ≤ g ∧ Below w.heap.size w W' := by
  have hsz : (bst l).size = n := by rw [bst_sizeD, hn]
  have h := run_bytes_of_string (P := Tryd.prog) w 9 22 5 (bst l) Tryd.underlying9 Tryd.underlying22 Tryd.underlying5
  rw [hsz] at h
  have hc := grownCap_ge w n 0 5
  generalize grownCap w n 0 5 = c at *
  refine ⟨_, c, _, h, ⟨by simp, fun j v hv => ?_⟩, hc, Nat.le_refl _, (below_drewN (Below.refl _ w) 1).alloc (Nat.le_refl _) _⟩
  have hj : j < l.length := by
    rcases Nat.lt_or_ge j l.length with h1 | h1
    · exact h1
    · rw [List.getElem?_eq_none (by rw [nv_len]; exact h1)] at hv; cases hv
  rw [nv_get hj] at hv
  have hd : j < (bst l).data.size := by rw [bst_data]; simpa using hj
  have hx := hb.get j
  refine (World.cell?_alloc_mark w.drew _ _ _ j).trans ?_
  rw [bytesRow_at _ _ _ hd, ← hv]
  have e : ((bst l).data[j]).toNat = l.getD j 0 := by
    simp only [bst_data, List.getElem_toArray, List.getElem_map]
    rw [List.getD_eq_getElem?_getD, List.getElem?_eq_getElem hj] at hx ⊢
    simp only [Option.getD_some] at hx ⊢
    rw [UInt8.toNat_ofNat']
    omega
  rw [e]
def wantL : List Nat := [7, 119, 9, 54, 44, 46, 50, 223, 13, 220, 63, 13, 196, 123, 186, 99, 144, 182, 199, 59, 181, 15, 156, 49, 34, 236, 132, 74, 215, 194, 179, 229]
theorem byt_wantL : Byt wantL := fun x hx => by
  have h : wantL.all (· < 256) = true := by decide
  rw [List.all_eq_true] at h; simpa using h x hx
def outL : List Nat := [60, 178, 95, 37, 250, 172, 213, 122, 144, 67, 79, 100, 208, 54, 47, 42, 45, 45, 10, 144, 207, 26, 90, 76, 93, 176, 45, 86, 236, 196, 197, 191, 52, 0, 114, 8, 213, 184, 135, 24, 88, 101]
theorem byt_outL : Byt outL := fun x hx => by
  have h : outL.all (· < 256) = true := by decide
  rw [List.all_eq_true] at h; simpa using h x hx
def secL : List Nat := List.replicate 22 11
theorem hm_wantL : hm (fr 0 13) secL = wantL := by decide +kernel
theorem ex_outL : ex wantL (fr 240 10) 42 = outL := (ex_of _ _ 2 42 (by decide) (by decide)).symm.trans (by decide +kernel)
theorem wantL_str : (⟨#[7, 119, 9, 54, 44, 46, 50, 223, 13, 220, 63, 13, 196, 123, 186, 99, 144, 182, 199, 59, 181, 15, 156, 49, 34, 236, 132, 74, 215, 194, 179, 229]⟩ : ByteArray) = bst wantL := by decide +kernel
theorem outL_str : (⟨#[60, 178, 95, 37, 250, 172, 213, 122, 144, 67, 79, 100, 208, 54, 47, 42, 45, 45, 10, 144, 207, 26, 90, 76, 93, 176, 45, 86, 236, 196, 197, 191, 52, 0, 114, 8, 213, 184, 135, 24, 88, 101]⟩ : ByteArray) = bst outL := by decide +kernel
/-- the bytes that are laid -/
def manyl (x n i : Nat) : List Nat := List.replicate i x ++ List.replicate (n - i) 0
theorem manyl_len (x n i : Nat) (hi : i ≤ n) : (manyl x n i).length = n := by simp [manyl]; omega
theorem manyl_step (x n i : Nat) (hi : i < n) : (manyl x n i).set i x = manyl x n (i + 1) := by
  unfold manyl
  rw [List.set_append_right _ _ (by simp), List.length_replicate, Nat.sub_self, show n - i = (n - (i + 1)) + 1 by omega, List.replicate_succ, List.set_cons_zero, List.replicate_succ', List.append_assoc]
  rfl

set_option maxRecDepth 8000 in
set_option maxHeartbeats 4000000 in
theorem lives04_any (w : World) (hg : Glob w) :
    Calls Tryd.prog 8 #[] w fun e w' => e = .returned (.bool true) ∧ Below w.heap.size w w' := by
  obtain ⟨B0, hB0e⟩ : ∃ b, w.heap.size = b := ⟨_, rfl⟩
  rw [hB0e]
  have hW : Below B0 w w := by rw [← hB0e]; exact Below.refl _ _
  have hB0 : B0 ≤ w.heap.size := by omega
  have gl := glob_of hg hB0e
  clear hg
  have hB0q := Lib.hid hB0e
  clear hB0e
  go_enter Tryd.func8, Tryd.ntmps8
  go_upto_region 0 with fail
  refine wl_lit ?_
  refine runL 0 (.bool false) rfl (by rfl) (by go_simp) ?_
  simp only [List.set_cons_zero]
  refine nilL ?_
  go_upto_region 1 with fail
  refine wl_lit ?_
  refine runWL 15 (.slice (some ⟨w.heap.size, 0, none⟩) 22 22) (w.alloc (.cells (va .u8 (List.replicate 22 0)) 5)) rfl (by rfl) (exec_makeB _ _ rfl 22 (by omega) rfl rfl) ?_
  simp only [List.set_cons_zero, List.set_cons_succ]
  have lw_q1 := Nat.le_trans hB0 hW.size
  have hq1 : Blk (w.alloc (.cells (va .u8 (List.replicate 22 0)) 5)) w.heap.size 5 (va .u8 (List.replicate 22 0)) := Blk.new _ _ _
  replace hW := hW.alloc (Nat.le_trans hB0 hW.size) (.cells (va .u8 (List.replicate 22 0)) 5)
  generalize w.alloc (.cells (va .u8 (List.replicate 22 0)) 5) = w1 at *
  generalize w.heap.size = q1 at hq1 lw_q1  ⊢
  refine runL 1 (.slice (some ⟨q1, 0, none⟩) 22 22) rfl (by rfl) (by go_simp) ?_
  simp only [List.set_cons_zero, List.set_cons_succ]
  refine nilL ?_
  go_upto_region 2 with fail
  refine wl_lit ?_
  refine runL 2 (.int .i64 0) rfl (by rfl) (by go_simp) ?_
  simp only [List.set_cons_zero, List.set_cons_succ]
  refine nilL ?_
  have hz : List.replicate 22 0 = manyl 11 22 0 := by decide
  rw [hz] at hq1
  clear hz
  go_wp2
  go_loopw [2] (fun s wr => ∃ i : Nat, i ≤ 22 ∧ s = .int .i64 (i : Int) ∧ Blk wr q1 5 (va .u8 (manyl 11 22 i)) ∧ Below B0 w wr) (fun s _ => 22 - (intOf s).toNat)
  case atStart => exact ⟨0, by omega, rfl, hq1, hW⟩
  case round =>
    clear hq1 hW
    obtain ⟨i, hi, rfl, hq1, hW⟩ := hrel
    by_cases hlt : i < 22
    ·
      have hltI : (i : Int) < 22 := by omega
      have hwi : IntKind.i64.wrap ((i : Int) + 1) = ((i + 1 : Nat) : Int) := by rw [IntWalk.i64_in _ (by omega)]; omega
      go_upto_region 5 with fail
      refine wl_lit ?_
      refine runL 20 (.slice (some ⟨q1, 0, none⟩) 22 22) rfl (by rfl) (by go_simp) ?_
      simp only [List.set_cons_zero, List.set_cons_succ]
      refine runL 21 (.int .i64 (i : Int)) rfl (by rfl) (by go_simp) ?_
      simp only [List.set_cons_zero, List.set_cons_succ]
      refine runL 22 (.pointer (some ⟨q1, i, none⟩)) rfl (by rfl) (by go_simp) ?_
      simp only [List.set_cons_zero, List.set_cons_succ]
      refine runSL (wr.setCell ⟨q1, i, none⟩ (.int .u8 ((11 : Nat) : Int))) rfl (by rfl) (exec_storeCell 5 (.tmp 22) _ rfl q1 i rfl (.int .u8 ((11 : Nat) : Int)) rfl rfl rfl 5 (va .u8 (manyl 11 22 i)) hq1 (by rw [va_size, ((manyl_len 11 22 i hi))]; exact hlt) (by kernel_rfl)) ?_
      replace hq1 : Blk (wr.setCell ⟨q1, i, none⟩ (.int .u8 ((11 : Nat) : Int))) q1 5 (va .u8 (manyl 11 22 (i + 1))) := by rw [← manyl_step 11 22 i hlt]; exact hq1.setNum i (11)
      replace hW := hW.setCell (p := ⟨q1, i, none⟩) lw_q1 (.int .u8 ((11 : Nat) : Int))
      generalize wr.setCell ⟨q1, i, none⟩ (.int .u8 ((11 : Nat) : Int)) = w2 at *
      refine nilL ?_
      go_wp2
      go_roundw
      case rel => exact ⟨i + 1, by omega, by go_num, hq1, hW⟩
      case measure => simp [intOf]; omega
    ·
      have hi22 : i = 22 := by omega
      have hltI : ¬ (i : Int) < 22 := by omega
      have hz : manyl 11 22 i = secL := by rw [hi22]; decide
      rw [hz] at hq1
      clear hz hi22 hlt hi
      go_upto_region 6 with fail
      refine wl_lit ?_
      refine callL 23 rfl (by rfl) (fun K hK => wp_callF 16 #[.int .u8 0, .int .i64 13] (by go_simp) (from_any 0 13 (by decide) (by decide) _) ?_)
      rintro e w3 ⟨F1, cF1, rfl, hF1, bx⟩
      replace hF1 := hF1.mono (Nat.le_trans hB0 hW.size)
      replace hq1 := hq1.below bx hq1.lt
      replace hW := hW.trans (bx.mono (Nat.le_trans hB0 hW.size))
      clear bx
      refine ⟨_, rfl, hK.out _ _ ?_⟩
      clear hK K
      simp only [List.set_cons_zero, List.set_cons_succ]
      refine runL 24 (.slice (some ⟨q1, 0, none⟩) 22 22) rfl (by rfl) (by go_simp) ?_
      simp only [List.set_cons_zero, List.set_cons_succ]
      refine callL 25 rfl (by rfl) (fun K hK => wp_callF 9 #[.slice (F1) 13 cF1, .slice (some ⟨q1, 0, none⟩) 22 22] (by go_simp) (extract_to (fr 0 13) secL wantL hm_wantL _ 13 cF1 _ _ 22 22 _ (fr_byt _ _) (Byt.rep _ _ (by omega)) hF1.cap (by decide) (by decide) (by decide) _ (gl.out _ hW) hF1.reads (Nat.le_refl _) (hq1.readsAll (Nat.lt_succ_self _) (rfl)) hq1.lt) ?_)
      rintro e w4 ⟨rfl, bx⟩
      replace hq1 := hq1.below bx hq1.lt
      replace hF1 := hF1.below bx
      replace hW := hW.trans (bx.mono (Nat.le_trans hB0 hW.size))
      clear bx
      refine ⟨_, rfl, hK.out _ _ ?_⟩
      clear hK K
      simp only [List.set_cons_zero, List.set_cons_succ]
      refine runWL 3 (.pointer (some ⟨w4.heap.size, 0, none⟩)) (w4.alloc (.cells (va .u8 (List.replicate 32 0)) 25)) rfl (by rfl) (exec_allocV 25 rfl _ (zv_api_Digest _)) ?_
      simp only [List.set_cons_zero, List.set_cons_succ]
      have lq1_p3 := hq1.lt
      have nF1_p3 := hF1.new_off
      have lw_p3 := Nat.le_trans hB0 hW.size
      have hp3 : Blk (w4.alloc (.cells (va .u8 (List.replicate 32 0)) 25)) w4.heap.size 25 (va .u8 (List.replicate 32 0)) := Blk.new _ _ _
      replace hq1 := hq1.alloc (.cells (va .u8 (List.replicate 32 0)) 25)
      replace hF1 := hF1.alloc (.cells (va .u8 (List.replicate 32 0)) 25)
      replace hW := hW.alloc (Nat.le_trans hB0 hW.size) (.cells (va .u8 (List.replicate 32 0)) 25)
      generalize w4.alloc (.cells (va .u8 (List.replicate 32 0)) 25) = w5 at *
      generalize w4.heap.size = p3 at hp3 lw_p3 lq1_p3 nF1_p3 ⊢
      refine runSL (w5.setRow p3 (va .u8 (wantL))) rfl (by rfl) (exec_storeRow 25 (.tmp 3) (.tmp 25) rfl p3 rfl (va .u8 (wantL)) rfl 25 (va .u8 (List.replicate 32 0)) hp3 (sz_eq (sz_api_Digest _ (List.length_replicate)) (sz_api_Digest _ (rfl))) (sz_api_Digest _ (rfl)) (va_ones .u8 _)) ?_
      replace hq1 := hq1.rowFar (show p3 ≠ q1 from (by omega)) (va .u8 (wantL))
      replace hF1 := hF1.rowFar nF1_p3 (va .u8 (wantL))
      replace hp3 := hp3.row (va .u8 (wantL))
      replace hW := below_setRow hW lw_p3 (va .u8 (wantL))
      generalize w5.setRow p3 (va .u8 (wantL)) = w6 at *
      refine nilL ?_
      go_upto_region 7 with fail
      refine wl_lit ?_
      refine callL 26 rfl (by rfl) (fun K hK => wp_callF 16 #[.int .u8 240, .int .i64 10] (by go_simp) (from_any 240 10 (by decide) (by decide) _) ?_)
      rintro e w7 ⟨F2, cF2, rfl, hF2, bx⟩
      replace hF2 := hF2.mono (Nat.le_trans hB0 hW.size)
      replace hq1 := hq1.below bx hq1.lt
      replace hF1 := hF1.below bx
      replace hp3 := hp3.below bx hp3.lt
      replace hW := hW.trans (bx.mono (Nat.le_trans hB0 hW.size))
      clear bx
      refine ⟨_, rfl, hK.out _ _ ?_⟩
      clear hK K
      simp only [List.set_cons_zero, List.set_cons_succ]
      refine runL 4 (.slice (F2) 10 cF2) rfl (by rfl) (by go_simp) ?_
      simp only [List.set_cons_zero, List.set_cons_succ]
      refine nilL ?_
      go_upto_region 8 with fail
      refine wl_lit ?_
      refine runL 28 (.slice (some ⟨p3, 0, none⟩) 32 32) rfl (by rfl) (by go_simp) ?_
      simp only [List.set_cons_zero, List.set_cons_succ]
      refine runL 29 (.slice (F2) 10 cF2) rfl (by rfl) (by go_simp) ?_
      simp only [List.set_cons_zero, List.set_cons_succ]
      refine callL 30 rfl (by rfl) (fun K hK => wp_callF 11 #[.slice (some ⟨p3, 0, none⟩) 32 32, .slice (F2) 10 cF2, .int .i64 42] (by go_simp) (dexp_to wantL (fr 240 10) 42 outL ex_outL (by decide) _ 32 32 _ _ 10 cF2 _ byt_wantL (fr_byt _ _) (by decide) (by decide) hF2.cap (by decide) _ (gl.out _ hW) (hp3.readsAll (Nat.lt_succ_self _) rfl) hp3.lt hF2.reads (Nat.le_refl _)) ?_)
      rintro e w8 ⟨AX, rfl, hAX, bx⟩
      replace hAX := hAX.mono (Nat.le_trans hB0 hW.size)
      replace hq1 := hq1.below bx hq1.lt
      replace hF1 := hF1.below bx
      replace hp3 := hp3.below bx hp3.lt
      replace hF2 := hF2.below bx
      replace hW := hW.trans (bx.mono (Nat.le_trans hB0 hW.size))
      clear bx
      refine ⟨_, rfl, hK.out _ _ ?_⟩
      clear hK K
      simp only [List.set_cons_zero, List.set_cons_succ]
      refine runL 27 (.tuple #[.slice (AX) 42 42, .int .i64 0]) rfl (by rfl) (by go_simp) ?_
      simp only [List.set_cons_zero, List.set_cons_succ]
      refine runL 31 (.slice (AX) 42 42) rfl (by rfl) (by go_simp) ?_
      simp only [List.set_cons_zero, List.set_cons_succ]
      refine runL 32 (.int .i64 0) rfl (by rfl) (by go_simp) ?_
      simp only [List.set_cons_zero, List.set_cons_succ]
      refine runL 5 (.slice (AX) 42 42) rfl (by rfl) (by go_simp) ?_
      simp only [List.set_cons_zero, List.set_cons_succ]
      refine runL 6 (.int .i64 0) rfl (by rfl) (by go_simp) ?_
      simp only [List.set_cons_zero, List.set_cons_succ]
      refine nilL ?_
      go_upto_region 9 with fail
      refine wl_lit ?_
      refine runL 34 (.slice (some ⟨p3, 0, none⟩) 32 32) rfl (by rfl) (by go_simp) ?_
      simp only [List.set_cons_zero, List.set_cons_succ]
      refine runL 35 (.slice (F2) 10 cF2) rfl (by rfl) (by go_simp) ?_
      simp only [List.set_cons_zero, List.set_cons_succ]
      refine callL 36 rfl (by rfl) (fun K hK => wp_callF 11 #[.slice (some ⟨p3, 0, none⟩) 32 32, .slice (F2) 10 cF2, .int .i64 0] (by go_simp) (dexp_none 0 0 (.inr (.inr ⟨rfl, rfl⟩)) (by decide) _ _ _ _ _ _ _) ?_)
      rintro e w9 ⟨rfl, bx⟩
      replace hq1 := hq1.below bx hq1.lt
      replace hF1 := hF1.below bx
      replace hp3 := hp3.below bx hp3.lt
      replace hF2 := hF2.below bx
      replace hAX := hAX.below bx
      replace hW := hW.trans (bx.mono (Nat.le_trans hB0 hW.size))
      clear bx
      refine ⟨_, rfl, hK.out _ _ ?_⟩
      clear hK K
      simp only [List.set_cons_zero, List.set_cons_succ]
      refine runL 33 (.tuple #[.slice none 0 0, .int .i64 0]) rfl (by rfl) (by go_simp) ?_
      simp only [List.set_cons_zero, List.set_cons_succ]
      refine runL 37 (.slice none 0 0) rfl (by rfl) (by go_simp) ?_
      simp only [List.set_cons_zero, List.set_cons_succ]
      refine runL 38 (.int .i64 0) rfl (by rfl) (by go_simp) ?_
      simp only [List.set_cons_zero, List.set_cons_succ]
      refine runL 7 (.slice none 0 0) rfl (by rfl) (by go_simp) ?_
      simp only [List.set_cons_zero, List.set_cons_succ]
      refine runL 8 (.int .i64 0) rfl (by rfl) (by go_simp) ?_
      simp only [List.set_cons_zero, List.set_cons_succ]
      refine nilL ?_
      go_upto_region 10 with fail
      refine wl_lit ?_
      refine runL 40 (.slice (some ⟨p3, 0, none⟩) 32 32) rfl (by rfl) (by go_simp) ?_
      simp only [List.set_cons_zero, List.set_cons_succ]
      refine runL 41 (.slice (F2) 10 cF2) rfl (by rfl) (by go_simp) ?_
      simp only [List.set_cons_zero, List.set_cons_succ]
      refine callL 42 rfl (by rfl) (fun K hK => wp_callF 11 #[.slice (some ⟨p3, 0, none⟩) 32 32, .slice (F2) 10 cF2, .int .i64 (-1)] (by go_simp) (dexp_none (-1) 1 (.inl ⟨by decide, rfl⟩) (by decide) _ _ _ _ _ _ _) ?_)
      rintro e w10 ⟨rfl, bx⟩
      replace hq1 := hq1.below bx hq1.lt
      replace hF1 := hF1.below bx
      replace hp3 := hp3.below bx hp3.lt
      replace hF2 := hF2.below bx
      replace hAX := hAX.below bx
      replace hW := hW.trans (bx.mono (Nat.le_trans hB0 hW.size))
      clear bx
      refine ⟨_, rfl, hK.out _ _ ?_⟩
      clear hK K
      simp only [List.set_cons_zero, List.set_cons_succ]
      refine runL 39 (.tuple #[.slice none 0 0, .int .i64 1]) rfl (by rfl) (by go_simp) ?_
      simp only [List.set_cons_zero, List.set_cons_succ]
      refine runL 43 (.slice none 0 0) rfl (by rfl) (by go_simp) ?_
      simp only [List.set_cons_zero, List.set_cons_succ]
      refine runL 44 (.int .i64 1) rfl (by rfl) (by go_simp) ?_
      simp only [List.set_cons_zero, List.set_cons_succ]
      refine runL 9 (.slice none 0 0) rfl (by rfl) (by go_simp) ?_
      simp only [List.set_cons_zero, List.set_cons_succ]
      refine runL 10 (.int .i64 1) rfl (by rfl) (by go_simp) ?_
      simp only [List.set_cons_zero, List.set_cons_succ]
      refine nilL ?_
      go_upto_region 11 with fail
      refine wl_lit ?_
      refine runL 46 (.slice (some ⟨p3, 0, none⟩) 32 32) rfl (by rfl) (by go_simp) ?_
      simp only [List.set_cons_zero, List.set_cons_succ]
      refine runL 47 (.slice (F2) 10 cF2) rfl (by rfl) (by go_simp) ?_
      simp only [List.set_cons_zero, List.set_cons_succ]
      refine callL 48 rfl (by rfl) (fun K hK => wp_callF 11 #[.slice (some ⟨p3, 0, none⟩) 32 32, .slice (F2) 10 cF2, .int .i64 8161] (by go_simp) (dexp_none 8161 3 (.inr (.inl ⟨by decide, rfl⟩)) (by decide) _ _ _ _ _ _ _) ?_)
      rintro e w11 ⟨rfl, bx⟩
      replace hq1 := hq1.below bx hq1.lt
      replace hF1 := hF1.below bx
      replace hp3 := hp3.below bx hp3.lt
      replace hF2 := hF2.below bx
      replace hAX := hAX.below bx
      replace hW := hW.trans (bx.mono (Nat.le_trans hB0 hW.size))
      clear bx
      refine ⟨_, rfl, hK.out _ _ ?_⟩
      clear hK K
      simp only [List.set_cons_zero, List.set_cons_succ]
      refine runL 45 (.tuple #[.slice none 0 0, .int .i64 3]) rfl (by rfl) (by go_simp) ?_
      simp only [List.set_cons_zero, List.set_cons_succ]
      refine runL 49 (.slice none 0 0) rfl (by rfl) (by go_simp) ?_
      simp only [List.set_cons_zero, List.set_cons_succ]
      refine runL 50 (.int .i64 3) rfl (by rfl) (by go_simp) ?_
      simp only [List.set_cons_zero, List.set_cons_succ]
      refine runL 11 (.slice none 0 0) rfl (by rfl) (by go_simp) ?_
      simp only [List.set_cons_zero, List.set_cons_succ]
      refine runL 12 (.int .i64 3) rfl (by rfl) (by go_simp) ?_
      simp only [List.set_cons_zero, List.set_cons_succ]
      refine nilL ?_
      go_upto_region 12 with fail
      refine wl_lit ?_
      refine runL 13 (.string (bst (wantL))) rfl (by rfl) (by go_simp; exact wantL_str) ?_
      simp only [List.set_cons_zero, List.set_cons_succ]
      refine nilL ?_
      go_upto_region 13 with fail
      refine wl_lit ?_
      refine runL 14 (.string (bst (outL))) rfl (by rfl) (by go_simp; exact outL_str) ?_
      simp only [List.set_cons_zero, List.set_cons_succ]
      refine nilL ?_
      go_upto_region 14 with fail
      refine wl_lit ?_
      refine runL 51 (.slice (some ⟨p3, 0, none⟩) 32 32) rfl (by rfl) (by go_simp) ?_
      simp only [List.set_cons_zero, List.set_cons_succ]
      refine runL 52 (.string (bst (wantL))) rfl (by rfl) (exec_conv 22 9 (.tmp 51) rfl (.slice (some ⟨p3, 0, none⟩) 32 32) (.string (bst (wantL))) rfl (Reads.string (hp3.readsAll (Nat.lt_succ_self _) (rfl)) _ _ Tryd.underlying22 Tryd.underlying9)) ?_
      simp only [List.set_cons_zero, List.set_cons_succ]
      refine runL 53 (.string (bst (wantL))) rfl (by rfl) (by go_simp) ?_
      simp only [List.set_cons_zero, List.set_cons_succ]
      refine runL 54 (.bool true) rfl (by rfl) (by go_simp) ?_
      simp only [List.set_cons_zero, List.set_cons_succ]
      refine runL 55 (.bool true) rfl (by rfl) (by go_simp) ?_
      simp only [List.set_cons_zero, List.set_cons_succ]
      refine runL 56 (.slice (AX) 42 42) rfl (by rfl) (by go_simp) ?_
      simp only [List.set_cons_zero, List.set_cons_succ]
      refine runL 57 (.int .i64 0) rfl (by rfl) (by go_simp) ?_
      simp only [List.set_cons_zero, List.set_cons_succ]
      refine runL 58 (.string (bst (outL))) rfl (by rfl) (by go_simp) ?_
      simp only [List.set_cons_zero, List.set_cons_succ]
      obtain ⟨gS, cS, w12, hrun, hgS, hcS, hgg, bx⟩ := str_bytes outL byt_outL 42 rfl _
      refine runWL 59 (.slice (some ⟨gS, 0, none⟩) 42 cS) w12 rfl (by rfl) (exec_convW 9 22 (.tmp 58) rfl _ _ rfl hrun) ?_
      simp only [List.set_cons_zero, List.set_cons_succ]
      have lq1_gS : q1 < gS := Nat.lt_of_lt_of_le hq1.lt hgg
      have nF1_gS := hF1.off_ge hgg
      have lp3_gS : p3 < gS := Nat.lt_of_lt_of_le hp3.lt hgg
      have nF2_gS := hF2.off_ge hgg
      have nAX_gS := hAX.off_ge hgg
      have lw_gS : B0 ≤ gS := Nat.le_trans (Nat.le_trans hB0 hW.size) hgg
      replace hq1 := hq1.below bx hq1.lt
      replace hF1 := hF1.below bx
      replace hp3 := hp3.below bx hp3.lt
      replace hF2 := hF2.below bx
      replace hAX := hAX.below bx
      replace hW := hW.trans (bx.mono (Nat.le_trans hB0 hW.size))
      clear hgg
      clear bx
      clear hrun
      refine callL 60 rfl (by rfl) (fun K hK => wp_callF 12 #[.slice (AX) 42 42, .int .i64 0, .slice (some ⟨gS, 0, none⟩) 42 cS, .int .i64 0] (by go_simp) (same04_any outL AX 42 _ _ cS _ 0 _ hAX.reads (Nat.le_refl _) (hgS.reads rfl) hgS.lt) ?_)
      rintro e w13 ⟨rfl, bx⟩
      replace hq1 := hq1.below bx hq1.lt
      replace hF1 := hF1.below bx
      replace hp3 := hp3.below bx hp3.lt
      replace hF2 := hF2.below bx
      replace hAX := hAX.below bx
      replace hgS := hgS.below bx hgS.lt
      replace hW := hW.trans (bx.mono (Nat.le_trans hB0 hW.size))
      clear bx
      refine ⟨_, rfl, hK.out _ _ ?_⟩
      clear hK K
      simp only [List.set_cons_zero, List.set_cons_succ]
      refine runL 61 (.bool true) rfl (by rfl) (by go_simp) ?_
      simp only [List.set_cons_zero, List.set_cons_succ]
      refine runL 62 (.bool true) rfl (by rfl) (by go_simp) ?_
      simp only [List.set_cons_zero, List.set_cons_succ]
      refine runL 63 (.slice none 0 0) rfl (by rfl) (by go_simp) ?_
      simp only [List.set_cons_zero, List.set_cons_succ]
      refine runL 64 (.int .i64 0) rfl (by rfl) (by go_simp) ?_
      simp only [List.set_cons_zero, List.set_cons_succ]
      refine callL 65 rfl (by rfl) (fun K hK => wp_callF 12 #[.slice none 0 0, .int .i64 0, .slice none 0 0, .int .i64 0] (by go_simp) (same04_any [] none 0 0 none 0 0 0 _ Reads.none_ (Nat.zero_le _) Reads.none_ (Nat.zero_le _)) ?_)
      rintro e w14 ⟨rfl, bx⟩
      replace hq1 := hq1.below bx hq1.lt
      replace hF1 := hF1.below bx
      replace hp3 := hp3.below bx hp3.lt
      replace hF2 := hF2.below bx
      replace hAX := hAX.below bx
      replace hgS := hgS.below bx hgS.lt
      replace hW := hW.trans (bx.mono (Nat.le_trans hB0 hW.size))
      clear bx
      refine ⟨_, rfl, hK.out _ _ ?_⟩
      clear hK K
      simp only [List.set_cons_zero, List.set_cons_succ]
      refine runL 66 (.bool true) rfl (by rfl) (by go_simp) ?_
      simp only [List.set_cons_zero, List.set_cons_succ]
      refine runL 67 (.bool true) rfl (by rfl) (by go_simp) ?_
      simp only [List.set_cons_zero, List.set_cons_succ]
      refine runL 68 (.slice none 0 0) rfl (by rfl) (by go_simp) ?_
      simp only [List.set_cons_zero, List.set_cons_succ]
      refine runL 69 (.int .i64 1) rfl (by rfl) (by go_simp) ?_
      simp only [List.set_cons_zero, List.set_cons_succ]
      refine callL 70 rfl (by rfl) (fun K hK => wp_callF 12 #[.slice none 0 0, .int .i64 1, .slice none 0 0, .int .i64 1] (by go_simp) (same04_any [] none 0 0 none 0 0 1 _ Reads.none_ (Nat.zero_le _) Reads.none_ (Nat.zero_le _)) ?_)
      rintro e w15 ⟨rfl, bx⟩
      replace hq1 := hq1.below bx hq1.lt
      replace hF1 := hF1.below bx
      replace hp3 := hp3.below bx hp3.lt
      replace hF2 := hF2.below bx
      replace hAX := hAX.below bx
      replace hgS := hgS.below bx hgS.lt
      replace hW := hW.trans (bx.mono (Nat.le_trans hB0 hW.size))
      clear bx
      refine ⟨_, rfl, hK.out _ _ ?_⟩
      clear hK K
      simp only [List.set_cons_zero, List.set_cons_succ]
      refine runL 71 (.bool true) rfl (by rfl) (by go_simp) ?_
      simp only [List.set_cons_zero, List.set_cons_succ]
      refine runL 72 (.bool true) rfl (by rfl) (by go_simp) ?_
      simp only [List.set_cons_zero, List.set_cons_succ]
      refine runL 73 (.slice none 0 0) rfl (by rfl) (by go_simp) ?_
      simp only [List.set_cons_zero, List.set_cons_succ]
      refine runL 74 (.int .i64 3) rfl (by rfl) (by go_simp) ?_
      simp only [List.set_cons_zero, List.set_cons_succ]
      refine callL 75 rfl (by rfl) (fun K hK => wp_callF 12 #[.slice none 0 0, .int .i64 3, .slice none 0 0, .int .i64 3] (by go_simp) (same04_any [] none 0 0 none 0 0 3 _ Reads.none_ (Nat.zero_le _) Reads.none_ (Nat.zero_le _)) ?_)
      rintro e w16 ⟨rfl, bx⟩
      replace hq1 := hq1.below bx hq1.lt
      replace hF1 := hF1.below bx
      replace hp3 := hp3.below bx hp3.lt
      replace hF2 := hF2.below bx
      replace hAX := hAX.below bx
      replace hgS := hgS.below bx hgS.lt
      replace hW := hW.trans (bx.mono (Nat.le_trans hB0 hW.size))
      clear bx
      refine ⟨_, rfl, hK.out _ _ ?_⟩
      clear hK K
      simp only [List.set_cons_zero, List.set_cons_succ]
      refine runL 76 (.bool true) rfl (by rfl) (by go_simp) ?_
      simp only [List.set_cons_zero, List.set_cons_succ]
      refine runL 0 (.bool true) rfl (by rfl) (by go_simp) ?_
      simp only [List.set_cons_zero]
      refine nilL ?_
      go_wp2_with fail
      go_ret
      exact ⟨rfl, hW⟩
end Go.Proofs.YtcdmbknmmnaocaaDoor
