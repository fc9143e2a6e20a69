/-
  The walk of caissonlaw09.SealsKnown. (Printed by mkseal09c.py.)
-/
import Derived.Test.YtcfddmplnoknlaaDoorY25
namespace Go.Proofs.YtcfddmplnoknlaaDoor
set_option maxRecDepth 16384
open Go.RowKit Sh
def enL : List Nat := [181, 254, 34, 234, 244, 136, 113, 252, 24, 126, 145, 169, 246, 112, 166, 28]
theorem byt_enL : Byt enL := fun x hx => by
 have h : enL.all (· < 256) = true := by decide
 rw [List.all_eq_true] at h; simpa using h x hx
def maL : List Nat := [179, 96, 29, 134, 71, 229, 209, 199, 52, 91, 33, 213, 178, 150, 80, 121, 177, 40, 39, 114, 88, 229, 52, 162, 122, 183, 19, 91, 237, 202, 105, 242]
theorem byt_maL : Byt maL := fun x hx => by
 have h : maL.all (· < 256) = true := by decide
 rw [List.all_eq_true] at h; simpa using h x hx
def k5L : List Nat := [5, 0, 0, 0, 0, 0, 0, 0, 0, 0, 0, 0, 0, 0, 0, 0, 0, 0, 0, 0, 0, 0, 0, 0, 0, 0, 0, 0, 0, 0, 0, 0]
theorem byt_k5L : Byt k5L := fun x hx => by
 have h : k5L.all (· < 256) = true := by decide
 rw [List.all_eq_true] at h; simpa using h x hx
def b1L : List Nat := [1, 2, 0, 0, 0, 0, 0, 0, 0, 0, 0, 0, 0, 0, 0, 0, 0, 0, 0, 0, 0, 0, 0, 0, 0, 0, 0, 0, 0, 0, 0, 0]
theorem byt_b1L : Byt b1L := fun x hx => by
 have h : b1L.all (· < 256) = true := by decide
 rw [List.all_eq_true] at h; simpa using h x hx
def b3L : List Nat := [3, 0, 0, 0, 0, 0, 0, 0, 0, 0, 0, 0, 0, 0, 0, 0, 0, 0, 0, 0, 0, 0, 0, 0, 0, 0, 0, 0, 0, 0, 0, 0]
theorem byt_b3L : Byt b3L := fun x hx => by
 have h : b3L.all (· < 256) = true := by decide
 rw [List.all_eq_true] at h; simpa using h x hx
def farL : List Nat := [0, 0, 16, 0, 0, 0, 0, 0, 0, 0, 0, 0, 0, 0, 0, 0, 0, 0, 0, 0, 0, 0, 0, 0, 0, 0, 0, 0, 0, 0, 0, 0, 0, 0, 0, 0, 0, 0, 0, 0, 0, 0, 0, 0, 0, 0, 0, 0]
theorem byt_farL : Byt farL := fun x hx => by
 have h : farL.all (· < 256) = true := by decide
 rw [List.all_eq_true] at h; simpa using h x hx
def ixL : List Int := [0, 1, 255, 256, 4095, 4096, -1, 4294967296, -9223372036854775808, 9223372036854775807]
theorem ve5 : ve k5L = enL := by decide +kernel
theorem vm5 : vm k5L = maL := by decide +kernel
theorem rkeys_to (m e f : List Nat) (he : ve m = e) (hf : vm m = f) (hml : m.length = 32) (hmb : Byt m) (w : World) :
  Calls Tryd.prog 18 #[.agg (va .u8 m)] w fun e' w' => e' = .returned (.tuple #[.agg (va .u8 e), .agg (va .u8 f)]) ∧ Below w.heap.size w w' := by
 subst he; subst hf; exact rkeys_any m hml hmb w
theorem int_infoL : (Tryd.prog.info? 3).map (fun i => (i.zero, i.size, i.bytes)) = some (some (.int .i64 0), 1, 8) := by kernel_rfl
def ixA : Array Value := (ixL.map (Value.int .i64)).toArray
theorem ixA_get (k : Nat) (hk : k < 10) : ixA[k]? = some (.int .i64 (ixL.getD k 0)) := by
 have h : ∀ k < 10, ixA[k]? = some (.int .i64 (ixL.getD k 0)) := by
  intro k hk
  match k, hk with
  | 0, _ | 1, _ | 2, _ | 3, _ | 4, _ | 5, _ | 6, _ | 7, _ | 8, _ | 9, _ => rfl
 exact h k hk
theorem bs_ix (W : World) : (Instr.buildSlice 60 10 #[(0, .int .i64 0), (1, .int .i64 1), (2, .int .i64 255), (3, .int .i64 256), (4, .int .i64 4095), (5, .int .i64 4096), (6, .int .i64 (-1)), (7, .int .i64 4294967296), (8, .int .i64 (-9223372036854775808)), (9, .int .i64 9223372036854775807)]).run Tryd.prog W = .ok (.slice (some ⟨W.heap.size, 0, none⟩) 10 10) (W.alloc (.cells ixA 3)) := by
 obtain ⟨ie, hie, h0, h1, h2⟩ := info_parts int_infoL
 refine run_buildSlice W _ 3 10 _ ixA ie _ Tryd.underlying60 hie h0 (by rw [h1]; decide) (by rw [h1]; decide) ?_
 rw [h1]; kernel_rfl
theorem farL_len : farL.length = 48 := rfl
theorem far_set : (List.replicate 48 0).set 2 16 = farL := by decide
theorem mI_farL : mI farL = 4096 := by decide
set_option maxRecDepth 8000 in
set_option maxHeartbeats 4000000 in
theorem lawSKnown9_any (w : World) (hg : Glob w) :
  Calls Tryd.prog 7 #[] w fun e w' => e = .returned (.bool true) ∧ Below w.heap.size w w' := by
 obtain ⟨B0, hB0e, hW, hB0⟩ := stB w
 rw [hB0e]
 have gl := glob_of hg hB0e
 clear hg
 have hB0q := Lib.hid hB0e
 clear hB0e
 obtain ⟨z, hz⟩ : ∃ z, List.replicate 32 0 = z := ⟨_, rfl⟩
 have hzl : z.length = 32 := by rw [← hz]; exact List.length_replicate
 have hzb : Byt z := by rw [← hz]; exact Byt.rep _ _ (by omega)
 have hzq := Lib.hid hz
 clear hz
 obtain ⟨sM, hsM⟩ : ∃ x, (4294967295 : Nat) = x := ⟨_, rfl⟩
 obtain ⟨cM, hcM⟩ : ∃ x, (18446744073709551615 : Nat) = x := ⟨_, rfl⟩
 have hsM2 : sM < 4294967296 := by omega
 have hcM2 : cM < 18446744073709551616 := by omega
 have hsq := Lib.hid hsM
 have hcq := Lib.hid hcM
 clear hsM hcM
 go_enter Tryd.func7, Tryd.ntmps7
 go_upto_region 0 with fail
 refine wl_lit ?_
 refine runL 0 (.bool false) rfl (by rfl) (by go_simp) ?_
 simp only [ls0]
 refine nilL ?_
 go_upto_region 1 with fail
 refine wl_lit ?_
 refine runL 16 (.agg (va .u8 k5L)) rfl (by rfl) (exec_build 24 _ rfl (va .u8 k5L) (by kernel_rfl)) ?_
 simp only [Ls]
 refine callL 17 rfl (by rfl) (fun K hK => wp_callF 18 #[.agg (va .u8 k5L)] (by go_simp) (rkeys_to k5L enL maL ve5 vm5 rfl byt_k5L _) ?_)
 rintro e w1 ⟨rfl, bx⟩
 replace hW := trB hW hB0 bx
 clear bx
 refine ⟨_, rfl, hK.out _ _ ?_⟩
 clear hK K
 refine runL 15 (.tuple #[.agg (va .u8 enL), .agg (va .u8 maL)]) rfl (by rfl) (by go_simp) ?_
 refine runL 18 (.agg (va .u8 enL)) rfl (by rfl) (by go_simp) ?_
 refine runL 19 (.agg (va .u8 maL)) rfl (by rfl) (by go_simp) ?_
 simp only [Ls]
 refine runWL 1 (.pointer (some ⟨w1.heap.size, 0, none⟩)) (w1.alloc (.cells (va .u8 (List.replicate 16 0)) 22)) rfl (by rfl) (exec_allocV 22 rfl _ (zv__16_uint8 _)) ?_
 simp only [Ls]
 have lw_p1 := Nat.le_trans hB0 hW.size
 have hp1 := Blk.new w1 22 (va .u8 (List.replicate 16 0))
 replace hW := alB hW hB0 (.cells (va .u8 (List.replicate 16 0)) 22)
 generalize w1.alloc (.cells (va .u8 (List.replicate 16 0)) 22) = w2 at *
 generalize w1.heap.size = p1 at hp1 lw_p1  ⊢
 refine runWL 2 (.pointer (some ⟨w2.heap.size, 0, none⟩)) (w2.alloc (.cells (va .u8 (List.replicate 32 0)) 24)) rfl (by rfl) (exec_allocV 24 rfl _ (zv_api_Key _)) ?_
 simp only [Ls]
 have lp1_p2 := hp1.lt
 have lw_p2 := Nat.le_trans hB0 hW.size
 have hp2 := Blk.new w2 24 (va .u8 (List.replicate 32 0))
 have bx := bAl w2 (.cells (va .u8 (List.replicate 32 0)) 24)
 replace hp1 := blB hp1 bx
 replace hW := trB hW hB0 bx
 clear bx
 generalize w2.alloc (.cells (va .u8 (List.replicate 32 0)) 24) = w3 at *
 generalize w2.heap.size = p2 at hp2 lw_p2 lp1_p2 ⊢
 refine runSL (w3.setRow p1 (va .u8 enL)) rfl (by rfl) (exec_storeRow 22 (.tmp 1) (.tmp 18) rfl p1 rfl (va .u8 enL) rfl 22 (va .u8 (List.replicate 16 0)) hp1 (sz_eq (sz__16_uint8 _ (List.length_replicate)) (sz__16_uint8 _ rfl)) (sz__16_uint8 _ rfl) (va_ones .u8 _)) ?_
 replace hp2 := hp2.rowFar (show p1 ≠ p2 from (by omega)) (va .u8 enL)
 replace hp1 := hp1.row (va .u8 enL)
 replace hW := below_setRow hW lw_p1 (va .u8 enL)
 generalize w3.setRow p1 (va .u8 enL) = w4 at *
 refine runSL (w4.setRow p2 (va .u8 maL)) rfl (by rfl) (exec_storeRow 24 (.tmp 2) (.tmp 19) rfl p2 rfl (va .u8 maL) rfl 24 (va .u8 (List.replicate 32 0)) hp2 (sz_eq (sz_api_Key _ (List.length_replicate)) (sz_api_Key _ rfl)) (sz_api_Key _ rfl) (va_ones .u8 _)) ?_
 replace hp1 := hp1.rowFar (show p2 ≠ p1 from (by omega)) (va .u8 maL)
 replace hp2 := hp2.row (va .u8 maL)
 replace hW := below_setRow hW lw_p2 (va .u8 maL)
 generalize w4.setRow p2 (va .u8 maL) = w5 at *
 refine nilL ?_
 go_upto_region 2 with fail
 refine wl_lit ?_
 refine runL 20 (.agg (va .u8 enL)) rfl (by rfl) (exec_row 22 (.tmp 1) rfl p1 rfl 22 (va .u8 enL) _ hp1 (by exact Tryd.underlying22) rfl (sz__16_uint8 _ rfl)) ?_
 refine runL 21 (.agg (va .u8 maL)) rfl (by rfl) (exec_row 24 (.tmp 2) rfl p2 rfl 24 (va .u8 maL) _ hp2 (by exact Tryd.underlying24) rfl (sz_api_Key _ rfl)) ?_
 refine runL 22 (.agg (va .u8 (enL ++ maL))) rfl (by rfl) (exec_build 26 _ rfl (va .u8 (enL ++ maL)) (by kernel_rfl)) ?_
 refine runL 23 (.agg (noV sM cM)) rfl (by rfl) (exec_build 30 _ rfl (noV sM cM) (by rw [← hsq.out, ← hcq.out]; kernel_rfl)) ?_
 refine runL 24 (.agg (sV enL maL 0 sM cM)) rfl (by rfl) (exec_build 32 _ rfl (sV enL maL 0 sM cM) (by rw [← hsq.out, ← hcq.out]; kernel_rfl)) ?_
 simp only [Ls]
 refine runWL 3 (.pointer (some ⟨w5.heap.size, 0, none⟩)) (w5.alloc (.cells (sV (List.replicate 16 0) (List.replicate 32 0) 0 0 0) 32)) rfl (by rfl) (exec_allocV 32 rfl _ (zv_S _)) ?_
 simp only [Ls]
 have lp1_p3 := hp1.lt
 have lp2_p3 := hp2.lt
 have lw_p3 := Nat.le_trans hB0 hW.size
 have hp3 := Blk.new w5 32 (sV (List.replicate 16 0) (List.replicate 32 0) 0 0 0)
 have bx := bAl w5 (.cells (sV (List.replicate 16 0) (List.replicate 32 0) 0 0 0) 32)
 replace hp1 := blB hp1 bx
 replace hp2 := blB hp2 bx
 replace hW := trB hW hB0 bx
 clear bx
 generalize w5.alloc (.cells (sV (List.replicate 16 0) (List.replicate 32 0) 0 0 0) 32) = w6 at *
 generalize w5.heap.size = p3 at hp3 lw_p3 lp1_p3 lp2_p3 ⊢
 refine runSL (w6.setRow p3 (sV enL maL 0 sM cM)) rfl (by rfl) (exec_storeRow 32 (.tmp 3) (.tmp 24) rfl p3 rfl (sV enL maL 0 sM cM) rfl 32 (sV (List.replicate 16 0) (List.replicate 32 0) 0 0 0) hp3 (sz_eq (sV_sz _ _ _ List.length_replicate List.length_replicate) (sV_sz _ _ _ rfl rfl)) (sV_sz _ _ _ rfl rfl) (sV_one _ _ _ _ _)) ?_
 replace hp1 := hp1.rowFar (show p3 ≠ p1 from (by omega)) (sV enL maL 0 sM cM)
 replace hp2 := hp2.rowFar (show p3 ≠ p2 from (by omega)) (sV enL maL 0 sM cM)
 replace hp3 := hp3.row (sV enL maL 0 sM cM)
 replace hW := below_setRow hW lw_p3 (sV enL maL 0 sM cM)
 generalize w6.setRow p3 (sV enL maL 0 sM cM) = w7 at *
 refine nilL ?_
 go_upto_region 3 with fail
 refine wl_lit ?_
 refine runWL 25 (.slice (some ⟨w7.heap.size, 0, none⟩) 10 10) (w7.alloc (.cells ixA 3)) rfl (by rfl) (exec_bslice 60 10 _ rfl _ (by exact bs_ix _)) ?_
 simp only [Ls]
 have lp1_gix := hp1.lt
 have lp2_gix := hp2.lt
 have lp3_gix := hp3.lt
 have lw_gix := Nat.le_trans hB0 hW.size
 have hgix : Blk (w7.alloc (.cells ixA 3)) w7.heap.size 3 ixA := Blk.new _ _ _
 have bx := bAl w7 (.cells ixA 3)
 replace hp1 := blB hp1 bx
 replace hp2 := blB hp2 bx
 replace hp3 := blB hp3 bx
 replace hW := trB hW hB0 bx
 clear bx
 generalize w7.alloc (.cells ixA 3) = w8 at *
 generalize w7.heap.size = gix at hgix lw_gix lp1_gix lp2_gix lp3_gix ⊢
 refine runL 26 (.int .i64 10) rfl (by rfl) (by go_simp) ?_
 refine runL 27 (.int .i64 0) rfl (by rfl) (by go_simp) ?_
 simp only [Ls]
 refine nilL ?_
 clear hp1
 clear hp2
 go_wp2
 go_loopw [5, 27] (fun u v wr => ∃ (k : Nat) (i : Int), k ≤ 10 ∧ v = .int .i64 (k : Int) ∧ Blk wr p3 32 (sV enL maL i sM cM) ∧ Blk wr gix 3 ixA ∧ Below B0 w wr) (fun _ v _ => 10 - (intOf v).toNat)
 case atStart => exact ⟨0, 0, by omega, rfl, hp3, hgix, hW⟩
 case round =>
  clear hp3 hgix hW
  obtain ⟨k, i0, hk, rfl, hp3, hgix, hW⟩ := hrel
  by_cases hlt : k < 10
  ·
   have hltI : (k : Int) < 10 := by omega
   have hwi : IntKind.i64.wrap ((k : Int) + 1) = ((k + 1 : Nat) : Int) := by rw [IntWalk.i64_in _ (by omega)]; omega
   obtain ⟨i, hi⟩ : ∃ i, ixL.getD k 0 = i := ⟨_, rfl⟩
   have hiq := Lib.hid hi
   clear hi
   go_upto_region 5 with fail
   refine wl_lit ?_
   refine runL 29 (.pointer (some ⟨gix, k, none⟩)) rfl (by rfl) (by go_simp) ?_
   refine runL 30 (.int .i64 i) rfl (by rfl) (exec_cell 3 (.tmp 29) rfl gix k rfl (.int .i64 i) _ Tryd.underlying3 rfl (by rw [← hiq.out]; exact hgix.cellIs k (ixA_get k hlt))) ?_
   refine runL 5 (.int .i64 i) rfl (by rfl) (by go_simp) ?_
   simp only [Ls]
   refine nilL ?_
   go_upto_region 6 with fail
   refine wl_lit ?_
   refine runL 31 (.int .i64 i) rfl (by rfl) (by go_simp) ?_
   refine runL 32 (.pointer (some ⟨p3, 48, none⟩)) rfl (by rfl) (by go_simp) ?_
   simp only [Ls]
   refine runSL (wr.setCell ⟨p3, 48, none⟩ (.int .i64 i)) rfl (by rfl) (exec_storeCell 3 (.tmp 32) (.tmp 31) rfl p3 48 rfl (.int .i64 i) rfl rfl rfl 32 (sV enL maL i0 sM cM) hp3 (by rw [sV_size _ _ _ rfl rfl]; decide) (by kernel_rfl)) ?_
   replace hgix := hgix.far (p := ⟨p3, 48, none⟩) (show gix ≠ p3 from (by omega)) (.int .i64 i)
   replace hp3 : Blk (wr.setCell ⟨p3, 48, none⟩ (.int .i64 i)) p3 32 (sV enL maL i sM cM) := set_idx hp3 rfl rfl
   replace hW := hW.setCell (p := ⟨p3, 48, none⟩) lw_p3 (.int .i64 i)
   generalize wr.setCell ⟨p3, 48, none⟩ (.int .i64 i) = w9 at *
   refine nilL ?_
   go_upto_region 7 with fail
   refine wp_region_held_drew (S := fun wr => Blk wr p3 32 (sV enL maL i sM cM) ∧ Blk wr gix 3 ixA ∧ Below B0 w wr) (by kernel_rfl) ⟨hp3.drew, hgix.drew, below_drewN hW 1⟩ (fun hH => ?_)
   clear hp3 hgix hW
   obtain ⟨hp3, hgix, hW⟩ := hH
   generalize w9.drew = w10 at *
   refine takeH 17 0 33 (.agg (sV enL maL i sM cM)) rfl rfl (by kernel_rfl) (by kernel_rfl) (by kernel_rfl) (fun _ _ _ h => h) (Or.inl ⟨by rfl, fun _ h => exec_row 32 (.tmp 3) rfl p3 rfl 32 (sV enL maL i sM cM) _ h.1 (by exact Tryd.underlying32) rfl (sV_sz _ _ _ rfl rfl)⟩) ⟨hp3, hgix, hW⟩ ?_
   simp only [Ls]
   refine takeH 16 1 34 (.agg (va .u8 b1L)) rfl rfl (by kernel_rfl) (by kernel_rfl) (by kernel_rfl) (fun _ _ _ h => h) (Or.inl ⟨by rfl, fun _ _ => exec_build 33 _ rfl (va .u8 b1L) (by kernel_rfl)⟩) ⟨hp3, hgix, hW⟩ ?_
   simp only [Ls]
   refine wpAnyH_ready (by kernel_rfl) (by simp) (readyCons 15 2 35 rfl rfl (by rfl) (fun K hK => wp_callF 4 #[.agg (sV enL maL i sM cM), .agg (va .u8 b1L)] (by go_simp) (lawSBack_any enL maL rfl rfl byt_enL byt_maL i sM cM hsM2 hcM2 b1L rfl byt_b1L _ (gl.out _ hW)) ?_) AllReadyH.nil)
   rintro e w11 ⟨rfl, bx⟩
   replace hp3 := blB hp3 bx
   replace hgix := hgix.below bx hgix.lt
   replace hW := trB hW hB0 bx
   clear bx
   refine ⟨_, rfl, hK.out _ _ ⟨hp3, hgix, hW⟩ (fun _ => ?_)⟩
   clear hK K
   simp only [Ls]
   refine takeH 14 3 36 (.bool false) rfl rfl (by kernel_rfl) (by kernel_rfl) (by kernel_rfl) (fun _ _ _ h => h) (Or.inl ⟨by rfl, fun w _ => by go_simp⟩) ⟨hp3, hgix, hW⟩ ?_
   simp only [Ls]
   refine takeH 13 4 37 (.bool false) rfl rfl (by kernel_rfl) (by kernel_rfl) (by kernel_rfl) (fun _ _ _ h => h) (Or.inl ⟨by rfl, fun w _ => by go_simp⟩) ⟨hp3, hgix, hW⟩ ?_
   simp only [Ls]
   refine takeH 12 5 38 (.agg (sV enL maL i sM cM)) rfl rfl (by kernel_rfl) (by kernel_rfl) (by kernel_rfl) (fun _ _ _ h => h) (Or.inl ⟨by rfl, fun _ h => exec_row 32 (.tmp 3) rfl p3 rfl 32 (sV enL maL i sM cM) _ h.1 (by exact Tryd.underlying32) rfl (sV_sz _ _ _ rfl rfl)⟩) ⟨hp3, hgix, hW⟩ ?_
   simp only [Ls]
   refine takeH 11 6 39 (.agg (va .u8 b3L)) rfl rfl (by kernel_rfl) (by kernel_rfl) (by kernel_rfl) (fun _ _ _ h => h) (Or.inl ⟨by rfl, fun _ _ => exec_build 33 _ rfl (va .u8 b3L) (by kernel_rfl)⟩) ⟨hp3, hgix, hW⟩ ?_
   simp only [Ls]
   refine wpAnyH_ready (by kernel_rfl) (by simp) (readyRun 10 7 40 (.slice (some ⟨w11.heap.size, 0, none⟩) 48 48) (w11.alloc (.cells (va .u8 (List.replicate 48 0)) 5)) rfl rfl (by rfl) (exec_makeB _ _ rfl 48 (by omega) rfl rfl) ⟨hp3.alloc _, hgix.alloc _, hW.alloc (Nat.le_trans hB0 hW.size) _⟩ (fun _ => ?_) AllReadyH.nil)
   simp only [Ls]
   have lp3_q1 := hp3.lt
   have lgix_q1 := hgix.lt
   have lw_q1 := Nat.le_trans hB0 hW.size
   have hq1 : Blk (w11.alloc (.cells (va .u8 (List.replicate 48 0)) 5)) w11.heap.size 5 (va .u8 (List.replicate 48 0)) := Blk.new _ _ _
   replace hp3 := hp3.alloc (.cells (va .u8 (List.replicate 48 0)) 5)
   replace hgix := hgix.alloc (.cells (va .u8 (List.replicate 48 0)) 5)
   replace hW := alB hW hB0 (.cells (va .u8 (List.replicate 48 0)) 5)
   generalize w11.alloc (.cells (va .u8 (List.replicate 48 0)) 5) = w12 at *
   generalize w11.heap.size = q1 at hq1 lw_q1 lp3_q1 lgix_q1 ⊢
   refine wpAnyH_ready (by kernel_rfl) (by simp) (readyCons 9 8 41 rfl rfl (by rfl) (fun K hK => wp_callF 3 #[.agg (sV enL maL i sM cM), .agg (va .u8 b3L), .slice (some ⟨q1, 0, none⟩) 48 48] (by go_simp) (lawSMsg_any enL maL rfl rfl byt_enL byt_maL i sM cM hsM2 hcM2 b3L rfl byt_b3L _ (Byt.rep 48 0 (by omega)) _ 48 48 _ (Nat.le_refl _) _ (gl.out _ hW) (hq1.readsAll (Nat.lt_succ_self _) (List.length_replicate)) hq1.lt) ?_) AllReadyH.nil)
   rintro e w13 ⟨rfl, bx⟩
   replace hp3 := blB hp3 bx
   replace hgix := hgix.below bx hgix.lt
   replace hq1 := hq1.below bx hq1.lt
   replace hW := trB hW hB0 bx
   clear bx
   refine ⟨_, rfl, hK.out _ _ ⟨hp3, hgix, hW⟩ (fun _ => ?_)⟩
   clear hK K
   simp only [Ls]
   refine takeH 8 9 42 (.bool false) rfl rfl (by kernel_rfl) (by kernel_rfl) (by kernel_rfl) (fun _ _ _ h => h) (Or.inl ⟨by rfl, fun w _ => by go_simp⟩) ⟨hp3, hgix, hW⟩ ?_
   simp only [Ls]
   refine takeH 7 10 43 (.bool false) rfl rfl (by kernel_rfl) (by kernel_rfl) (by kernel_rfl) (fun _ _ _ h => h) (Or.inl ⟨by rfl, fun w _ => by go_simp⟩) ⟨hp3, hgix, hW⟩ ?_
   simp only [Ls]
   refine takeH 6 11 44 (.bool false) rfl rfl (by kernel_rfl) (by kernel_rfl) (by kernel_rfl) (fun _ _ _ h => h) (Or.inl ⟨by rfl, fun w _ => by go_simp⟩) ⟨hp3, hgix, hW⟩ ?_
   simp only [Ls]
   refine takeH 5 12 45 (.agg (sV enL maL i sM cM)) rfl rfl (by kernel_rfl) (by kernel_rfl) (by kernel_rfl) (fun _ _ _ h => h) (Or.inl ⟨by rfl, fun _ h => exec_row 32 (.tmp 3) rfl p3 rfl 32 (sV enL maL i sM cM) _ h.1 (by exact Tryd.underlying32) rfl (sV_sz _ _ _ rfl rfl)⟩) ⟨hp3, hgix, hW⟩ ?_
   simp only [Ls]
   refine takeH 4 13 46 (.agg (va .u8 z)) rfl rfl (by kernel_rfl) (by kernel_rfl) (by kernel_rfl) (fun _ _ _ h => h) (Or.inl ⟨by rfl, fun _ _ => exec_build 33 _ rfl (va .u8 z) (by rw [← hzq.out]; kernel_rfl)⟩) ⟨hp3, hgix, hW⟩ ?_
   simp only [Ls]
   refine takeH 3 14 47 (.agg (va .u8 z)) rfl rfl (by kernel_rfl) (by kernel_rfl) (by kernel_rfl) (fun _ _ _ h => h) (Or.inl ⟨by rfl, fun _ _ => exec_build 45 _ rfl (va .u8 z) (by rw [← hzq.out]; kernel_rfl)⟩) ⟨hp3, hgix, hW⟩ ?_
   simp only [Ls]
   refine wpAnyH_ready (by kernel_rfl) (by simp) (readyCons 2 15 48 rfl rfl (by rfl) (fun K hK => wp_callF 5 #[.agg (sV enL maL i sM cM), .agg (va .u8 z), .agg (va .u8 z)] (by go_simp) (lawSOpen_any enL maL rfl rfl byt_enL byt_maL i sM cM hsM2 hcM2 z hzl hzb z hzl hzb _ (gl.out _ hW)) ?_) AllReadyH.nil)
   rintro e w14 ⟨rfl, bx⟩
   replace hp3 := blB hp3 bx
   replace hgix := hgix.below bx hgix.lt
   replace hq1 := hq1.below bx hq1.lt
   replace hW := trB hW hB0 bx
   clear bx
   refine ⟨_, rfl, hK.out _ _ ⟨hp3, hgix, hW⟩ (fun _ => ?_)⟩
   clear hK K
   simp only [Ls]
   refine takeH 1 16 49 (.bool false) rfl rfl (by kernel_rfl) (by kernel_rfl) (by kernel_rfl) (fun _ _ _ h => h) (Or.inl ⟨by rfl, fun w _ => by go_simp⟩) ⟨hp3, hgix, hW⟩ ?_
   simp only [Ls]
   refine takeH 0 17 50 (.bool false) rfl rfl (by kernel_rfl) (by kernel_rfl) (by kernel_rfl) (fun _ _ _ h => h) (Or.inl ⟨by rfl, fun w _ => by go_simp⟩) ⟨hp3, hgix, hW⟩ ?_
   simp only [Ls]
   refine wpAnyH_done (by kernel_rfl) ?_ _
   go_wp2
   go_roundw
   case rel => exact ⟨k + 1, i, by omega, by go_num, hp3, hgix, hW⟩
   case measure => simp [intOf]; omega
  ·
   have hltI : ¬ (k : Int) < 10 := by omega
   clear hlt hk
   clear hp3 hgix
   go_upto_region 10 with fail
   refine wl_lit ?_
   refine runWL 52 (.slice (some ⟨wr.heap.size, 0, none⟩) 48 48) (wr.alloc (.cells (va .u8 (List.replicate 48 0)) 5)) rfl (by rfl) (exec_makeB _ _ rfl 48 (by omega) rfl rfl) ?_
   simp only [Ls]
   have lw_q2 := Nat.le_trans hB0 hW.size
   have hq2 : Blk (wr.alloc (.cells (va .u8 (List.replicate 48 0)) 5)) wr.heap.size 5 (va .u8 (List.replicate 48 0)) := Blk.new _ _ _
   replace hW := alB hW hB0 (.cells (va .u8 (List.replicate 48 0)) 5)
   generalize wr.alloc (.cells (va .u8 (List.replicate 48 0)) 5) = w15 at *
   generalize wr.heap.size = q2 at hq2 lw_q2  ⊢
   refine runL 6 (.slice (some ⟨q2, 0, none⟩) 48 48) rfl (by rfl) (by go_simp) ?_
   simp only [Ls]
   refine nilL ?_
   go_upto_region 11 with fail
   refine wl_lit ?_
   refine runL 53 (.slice (some ⟨q2, 0, none⟩) 48 48) rfl (by rfl) (by go_simp) ?_
   refine runL 54 (.pointer (some ⟨q2, 2, none⟩)) rfl (by rfl) (by go_simp) ?_
   simp only [Ls]
   refine runSL (w15.setCell ⟨q2, 2, none⟩ (.int .u8 ((16 : Nat) : Int))) rfl (by rfl) (exec_storeCell 5 (.tmp 54) _ rfl q2 2 rfl (.int .u8 ((16 : Nat) : Int)) rfl rfl rfl 5 (va .u8 (List.replicate 48 0)) hq2 (by rw [va_size, List.length_replicate]; exact (by decide)) (by kernel_rfl)) ?_
   replace hq2 : Blk (w15.setCell ⟨q2, 2, none⟩ (.int .u8 ((16 : Nat) : Int))) q2 5 (va .u8 farL) := by rw [← far_set]; exact hq2.setNum 2 (16)
   replace hW := hW.setCell (p := ⟨q2, 2, none⟩) lw_q2 (.int .u8 ((16 : Nat) : Int))
   generalize w15.setCell ⟨q2, 2, none⟩ (.int .u8 ((16 : Nat) : Int)) = w16 at *
   refine nilL ?_
   go_upto_region 12 with fail
   refine wl_lit ?_
   refine runL 56 (.slice (some ⟨q2, 0, none⟩) 48 48) rfl (by rfl) (by go_simp) ?_
   simp only [Ls]
   refine callL 57 rfl (by rfl) (fun K hK => wp_callF 12 #[.slice (some ⟨q2, 0, none⟩) 48 48] (by go_simp) (sparse_farz z hzq.out farL rfl byt_farL _ 48 _ (Nat.le_refl _) _ (hq2.readsAll (Nat.lt_succ_self _) farL_len) hq2.lt 4096 mI_farL (Nat.le_refl _) (by decide)) ?_)
   rintro e w17 ⟨rfl, bx⟩
   replace hq2 := hq2.below bx hq2.lt
   replace hW := trB hW hB0 bx
   clear bx
   refine ⟨_, rfl, hK.out _ _ ?_⟩
   clear hK K
   refine runL 55 (.tuple #[.int .i64 0, .agg (noV 0 0), .agg (va .u8 z), .int .i64 1]) rfl (by rfl) (by go_simp) ?_
   refine runL 58 (.int .i64 0) rfl (by rfl) (by go_simp) ?_
   refine runL 59 (.agg (noV 0 0)) rfl (by rfl) (by go_simp) ?_
   refine runL 60 (.agg (va .u8 z)) rfl (by rfl) (by go_simp) ?_
   refine runL 61 (.int .i64 1) rfl (by rfl) (by go_simp) ?_
   simp only [Ls]
   refine runWL 8 (.pointer (some ⟨w17.heap.size, 0, none⟩)) (w17.alloc (.cells (noV 0 0) 30)) rfl (by rfl) (exec_allocV 30 rfl _ (zv_Nonce _)) ?_
   simp only [Ls]
   have lq2_p8 := hq2.lt
   have lw_p8 := Nat.le_trans hB0 hW.size
   have hp8 := Blk.new w17 30 (noV 0 0)
   replace hq2 := hq2.alloc (.cells (noV 0 0) 30)
   replace hW := alB hW hB0 (.cells (noV 0 0) 30)
   generalize w17.alloc (.cells (noV 0 0) 30) = w18 at *
   generalize w17.heap.size = p8 at hp8 lw_p8 lq2_p8 ⊢
   refine runWL 9 (.pointer (some ⟨w18.heap.size, 0, none⟩)) (w18.alloc (.cells (va .u8 z) 33)) rfl (by rfl) (exec_allocV 33 rfl _ (zv_blkz z hzq.out _)) ?_
   simp only [Ls]
   have lq2_p9 := hq2.lt
   have lp8_p9 := hp8.lt
   have lw_p9 := Nat.le_trans hB0 hW.size
   have hp9 := Blk.new w18 33 (va .u8 z)
   replace hq2 := hq2.alloc (.cells (va .u8 z) 33)
   have bx := bAl w18 (.cells (va .u8 z) 33)
   replace hp8 := blB hp8 bx
   replace hW := trB hW hB0 bx
   clear bx
   generalize w18.alloc (.cells (va .u8 z) 33) = w19 at *
   generalize w18.heap.size = p9 at hp9 lw_p9 lq2_p9 lp8_p9 ⊢
   refine runL 7 (.int .i64 0) rfl (by rfl) (by go_simp) ?_
   simp only [Ls]
   refine runSL (w19.setRow p8 (noV 0 0)) rfl (by rfl) (exec_storeRow 30 (.tmp 8) (.tmp 59) rfl p8 rfl (noV 0 0) rfl 30 (noV 0 0) hp8 (sz_eq (noV_sz _ _) (noV_sz _ _)) (noV_sz _ _) (noV_one _ _)) ?_
   replace hq2 := hq2.rowFar (show p8 ≠ q2 from (by omega)) (noV 0 0)
   replace hp9 := hp9.rowFar (show p8 ≠ p9 from (by omega)) (noV 0 0)
   replace hp8 := hp8.row (noV 0 0)
   replace hW := below_setRow hW lw_p8 (noV 0 0)
   generalize w19.setRow p8 (noV 0 0) = w20 at *
   refine runSL (w20.setRow p9 (va .u8 z)) rfl (by rfl) (exec_storeRow 33 (.tmp 9) (.tmp 60) rfl p9 rfl (va .u8 z) rfl 33 (va .u8 z) hp9 (sz_eq (sz_api_Block _ hzl) (sz_api_Block _ hzl)) (sz_api_Block _ hzl) (va_ones .u8 _)) ?_
   replace hq2 := hq2.rowFar (show p9 ≠ q2 from (by omega)) (va .u8 z)
   replace hp8 := hp8.rowFar (show p9 ≠ p8 from (by omega)) (va .u8 z)
   replace hp9 := hp9.row (va .u8 z)
   replace hW := below_setRow hW lw_p9 (va .u8 z)
   generalize w20.setRow p9 (va .u8 z) = w21 at *
   refine runL 10 (.int .i64 1) rfl (by rfl) (by go_simp) ?_
   simp only [Ls]
   refine nilL ?_
   go_upto_region 13 with fail
   refine wl_lit ?_
   refine runL 63 (.slice (some ⟨q2, 0, none⟩) 48 48) rfl (by rfl) (by go_simp) ?_
   simp only [Ls]
   refine runWL 64 (.slice (some ⟨w21.heap.size, 0, none⟩) 1 1) (w21.alloc (.cells (va .u8 ([0])) 5)) rfl (by rfl) (exec_bslice 34 1 _ rfl _ (by exact bs_b1 0 _)) ?_
   simp only [Ls]
   have lq2_q3 := hq2.lt
   have lp8_q3 := hp8.lt
   have lp9_q3 := hp9.lt
   have lw_q3 := Nat.le_trans hB0 hW.size
   have hq3 : Blk (w21.alloc (.cells (va .u8 ([0])) 5)) w21.heap.size 5 (va .u8 ([0])) := Blk.new _ _ _
   replace hq2 := hq2.alloc (.cells (va .u8 ([0])) 5)
   have bx := bAl w21 (.cells (va .u8 ([0])) 5)
   replace hp8 := blB hp8 bx
   replace hp9 := blB hp9 bx
   replace hW := trB hW hB0 bx
   clear bx
   generalize w21.alloc (.cells (va .u8 ([0])) 5) = w22 at *
   generalize w21.heap.size = q3 at hq3 lw_q3 lq2_q3 lp8_q3 lp9_q3 ⊢
   have hoq2 : Own w22 B0 (some ⟨q2, 0, none⟩) 48 48 farL := hq2.owned farL_len lw_q2 (by unfold maxLen; omega)
   have noq2_p8 : Off (some ⟨q2, 0, none⟩) p8 := fun a ha => by cases ha; simp; omega
   have noq2_p9 : Off (some ⟨q2, 0, none⟩) p9 := fun a ha => by cases ha; simp; omega
   have noq2_q3 : Off (some ⟨q2, 0, none⟩) q3 := fun a ha => by cases ha; simp; omega
   clear hq2
   obtain ⟨A9, cA9, w23, hap, hA9, hcA9, hgr, hof⟩ := own_append hoq2 (some ⟨q3, 0, none⟩) 1 1 _ ([0]) (hq3.readsAll (Nat.lt_succ_self _) rfl) (Nat.le_trans hB0 hW.size) (farL ++ [0]) rfl 49 (by omega) (by omega) 34
   refine runWL 65 (.slice A9 49 cA9) w23 rfl (by rfl) (exec_append _ _ _ _ rfl _ _ _ rfl rfl hap) ?_
   simp only [Ls]
   have nA9_p8 := hof p8 noq2_p8 hp8.lt
   replace hp8 := hp8.grown hgr (noq2_p8.ob _ _)
   have nA9_p9 := hof p9 noq2_p9 hp9.lt
   replace hp9 := hp9.grown hgr (noq2_p9.ob _ _)
   have nA9_q3 := hof q3 noq2_q3 hq3.lt
   replace hq3 := hq3.grown hgr (noq2_q3.ob _ _)
   replace hW := Own.belowG hW (Nat.le_trans hB0 hW.size) hoq2.from_ hgr
   clear hoq2 hgr hof hap
   refine callL 66 rfl (by rfl) (fun K hK => wp_callF 12 #[.slice A9 49 cA9] (by go_simp) (sparse_lenz z hzq.out 49 5 (.inr ⟨by decide, rfl⟩) _ _ _) ?_)
   rintro e w24 ⟨rfl, bx⟩
   replace hp8 := blB hp8 bx
   replace hp9 := blB hp9 bx
   replace hq3 := hq3.below bx hq3.lt
   replace hA9 := hA9.below bx
   replace hW := trB hW hB0 bx
   clear bx
   refine ⟨_, rfl, hK.out _ _ ?_⟩
   clear hK K
   refine runL 62 (.tuple #[.int .i64 0, .agg (noV 0 0), .agg (va .u8 z), .int .i64 5]) rfl (by rfl) (by go_simp) ?_
   refine runL 67 (.int .i64 0) rfl (by rfl) (by go_simp) ?_
   refine runL 68 (.agg (noV 0 0)) rfl (by rfl) (by go_simp) ?_
   refine runL 69 (.agg (va .u8 z)) rfl (by rfl) (by go_simp) ?_
   refine runL 70 (.int .i64 5) rfl (by rfl) (by go_simp) ?_
   simp only [Ls]
   refine runWL 12 (.pointer (some ⟨w24.heap.size, 0, none⟩)) (w24.alloc (.cells (noV 0 0) 30)) rfl (by rfl) (exec_allocV 30 rfl _ (zv_Nonce _)) ?_
   simp only [Ls]
   have lp8_p12 := hp8.lt
   have lp9_p12 := hp9.lt
   have lq3_p12 := hq3.lt
   have nA9_p12 := hA9.new_off
   have lw_p12 := Nat.le_trans hB0 hW.size
   have hp12 := Blk.new w24 30 (noV 0 0)
   have bx := bAl w24 (.cells (noV 0 0) 30)
   replace hp8 := blB hp8 bx
   replace hp9 := blB hp9 bx
   clear bx
   replace hq3 := hq3.alloc (.cells (noV 0 0) 30)
   replace hA9 := hA9.alloc (.cells (noV 0 0) 30)
   replace hW := alB hW hB0 (.cells (noV 0 0) 30)
   generalize w24.alloc (.cells (noV 0 0) 30) = w25 at *
   generalize w24.heap.size = p12 at hp12 lw_p12 lp8_p12 lp9_p12 lq3_p12 nA9_p12 ⊢
   refine runWL 13 (.pointer (some ⟨w25.heap.size, 0, none⟩)) (w25.alloc (.cells (va .u8 z) 33)) rfl (by rfl) (exec_allocV 33 rfl _ (zv_blkz z hzq.out _)) ?_
   simp only [Ls]
   have lp8_p13 := hp8.lt
   have lp9_p13 := hp9.lt
   have lq3_p13 := hq3.lt
   have nA9_p13 := hA9.new_off
   have lp12_p13 := hp12.lt
   have lw_p13 := Nat.le_trans hB0 hW.size
   have hp13 := Blk.new w25 33 (va .u8 z)
   have bx := bAl w25 (.cells (va .u8 z) 33)
   replace hp8 := blB hp8 bx
   replace hp9 := blB hp9 bx
   clear bx
   replace hq3 := hq3.alloc (.cells (va .u8 z) 33)
   replace hA9 := hA9.alloc (.cells (va .u8 z) 33)
   have bx := bAl w25 (.cells (va .u8 z) 33)
   replace hp12 := blB hp12 bx
   replace hW := trB hW hB0 bx
   clear bx
   generalize w25.alloc (.cells (va .u8 z) 33) = w26 at *
   generalize w25.heap.size = p13 at hp13 lw_p13 lp8_p13 lp9_p13 lq3_p13 nA9_p13 lp12_p13 ⊢
   refine runL 11 (.int .i64 0) rfl (by rfl) (by go_simp) ?_
   simp only [Ls]
   refine runSL (w26.setRow p12 (noV 0 0)) rfl (by rfl) (exec_storeRow 30 (.tmp 12) (.tmp 68) rfl p12 rfl (noV 0 0) rfl 30 (noV 0 0) hp12 (sz_eq (noV_sz _ _) (noV_sz _ _)) (noV_sz _ _) (noV_one _ _)) ?_
   replace hp8 := hp8.rowFar (show p12 ≠ p8 from (by omega)) (noV 0 0)
   replace hp9 := hp9.rowFar (show p12 ≠ p9 from (by omega)) (noV 0 0)
   replace hq3 := hq3.rowFar (show p12 ≠ q3 from (by omega)) (noV 0 0)
   replace hA9 := hA9.rowFar nA9_p12 (noV 0 0)
   replace hp13 := hp13.rowFar (show p12 ≠ p13 from (by omega)) (noV 0 0)
   replace hp12 := hp12.row (noV 0 0)
   replace hW := below_setRow hW lw_p12 (noV 0 0)
   generalize w26.setRow p12 (noV 0 0) = w27 at *
   refine runSL (w27.setRow p13 (va .u8 z)) rfl (by rfl) (exec_storeRow 33 (.tmp 13) (.tmp 69) rfl p13 rfl (va .u8 z) rfl 33 (va .u8 z) hp13 (sz_eq (sz_api_Block _ hzl) (sz_api_Block _ hzl)) (sz_api_Block _ hzl) (va_ones .u8 _)) ?_
   replace hp8 := hp8.rowFar (show p13 ≠ p8 from (by omega)) (va .u8 z)
   replace hp9 := hp9.rowFar (show p13 ≠ p9 from (by omega)) (va .u8 z)
   replace hq3 := hq3.rowFar (show p13 ≠ q3 from (by omega)) (va .u8 z)
   replace hA9 := hA9.rowFar nA9_p13 (va .u8 z)
   replace hp12 := hp12.rowFar (show p13 ≠ p12 from (by omega)) (va .u8 z)
   replace hp13 := hp13.row (va .u8 z)
   replace hW := below_setRow hW lw_p13 (va .u8 z)
   generalize w27.setRow p13 (va .u8 z) = w28 at *
   refine runL 14 (.int .i64 5) rfl (by rfl) (by go_simp) ?_
   simp only [Ls]
   refine nilL ?_
   go_upto_region 14 with fail
   refine wl_lit ?_
   refine runL 71 (.int .i64 1) rfl (by rfl) (by go_simp) ?_
   refine runL 72 (.bool true) rfl (by rfl) (by go_simp) ?_
   refine runL 73 (.bool true) rfl (by rfl) (by go_simp) ?_
   refine runL 74 (.int .i64 5) rfl (by rfl) (by go_simp) ?_
   refine runL 75 (.bool true) rfl (by rfl) (by go_simp) ?_
   refine runL 76 (.bool true) rfl (by rfl) (by go_simp) ?_
   refine runL 77 (.bool true) rfl (by rfl) (by go_simp) ?_
   simp only [Ls]
   refine callL 78 rfl (by rfl) (fun K hK => wp_callF 8 #[] (by go_simp) (lives09_any _ (gl.out _ hW)) ?_)
   rintro e w29 ⟨rfl, bx⟩
   replace hp8 := blB hp8 bx
   replace hp9 := blB hp9 bx
   replace hq3 := hq3.below bx hq3.lt
   replace hA9 := hA9.below bx
   replace hp12 := blB hp12 bx
   replace hp13 := blB hp13 bx
   replace hW := trB hW hB0 bx
   clear bx
   refine ⟨_, rfl, hK.out _ _ ?_⟩
   clear hK K
   refine runL 79 (.bool true) rfl (by rfl) (by go_simp) ?_
   simp only [Ls]
   refine runL 0 (.bool true) rfl (by rfl) (by go_simp) ?_
   simp only [ls0]
   refine nilL ?_
   go_wp2_with fail
   go_ret
   exact ⟨rfl, hW⟩
end Go.Proofs.YtcfddmplnoknlaaDoor
