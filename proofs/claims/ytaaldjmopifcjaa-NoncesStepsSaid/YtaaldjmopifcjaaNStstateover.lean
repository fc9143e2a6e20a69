/-
  The walk of NoncesSteps where Take and Extend answer in the ways 'state' and 'over'. (Printed by mksteps08.py.)
-/
import Derived.Test.YtaaldjmopifcjaaNStepAux
namespace Go.Proofs.Ytaaldjmopifcjaa
open Go.RowKit Sh

set_option maxRecDepth 100000 in
set_option maxHeartbeats 8000000 in
theorem steps_state_over (A : Option Addr) (n c mk rs rm M L R M' B sh s N : Nat) (cs C : List Nat) (hM : ofM mk rs = M) (hL : ofL mk rs rm = L) (hR : ofR rs = R) (hC : ofC cs mk rs = C) (hN : C.length = N) (hN1 : 1 ≤ N) (hN8 : N ≤ 8) (hchk : chk C M L R = 0) (hcs : ∀ x ∈ cs, x < 65536) (hCb : ∀ x ∈ C, x < 18446744073709551616) (hs : sh % N = s) (hsh : sh < 256) (hv : C.getD s 0 = M) (hML : M ≤ L) (hL64 : L < 1000) (hR20 : R ≤ 20) (hM' : M + R = M') (hext : L < M') (w : World) (hr : Reads w B 1 A n (nv .u16 cs)) (hB : B ≤ w.heap.size) :
    Calls Try.prog 4 #[.agg (daV A n c mk rs rm), .int .u8 (sh : Int)] w fun e w' => e = .returned (.bool true) ∧ Below w.heap.size w w' := by
  have h0 := Lib.hid hr
  have hsN : s < N := by rw [← hs]; exact Nat.mod_lt _ (by omega)
  have hsI : (s : Int) < (N : Int) := by omega
  have hrem : (sh : Int).tmod (N : Int) = (s : Int) := by rw [← hs]; exact (Int.ofNat_tmod sh N).symm
  have hwsh : IntKind.i64.wrap (sh : Int) = (sh : Int) := IntWalk.i64_in _ (by omega)
  have hws : IntKind.u32.wrap (s : Int) = (s : Int) := IntWalk.u32_in _ (by omega)
  have hNz : ¬ N = 0 := by omega
  have hwl : IntKind.u64.wrap 0 = 0 := rfl
  have hwe : (M : Int) + (R : Int) = (M' : Int) := by omega
  have hwm : IntKind.u64.wrap ((M : Int) + (R : Int)) = (M' : Int) := by rw [hwe]; exact IntWalk.u64_in _ (by omega)
  have hMR : M ≤ 1000 := by omega
  clear hwe
  have hwM1 : IntKind.u64.wrap ((M : Int) + 1) = (M : Int) + 1 := IntWalk.u64_in _ (by omega)
  have HW := Lib.hid (Below.refl w.heap.size w)
  have d_O4_lt := Lib.hid trivial
  have hchkq := Lib.hid hchk
  have hcsq := Lib.hid hcs
  have hCbq := Lib.hid hCb
  have hvq := Lib.hid hv
  have hMq := Lib.hid hM
  have hLq := Lib.hid hL
  have hRq := Lib.hid hR
  have hCq := Lib.hid hC
  have hsq := Lib.hid hs
  have hMpq := Lib.hid hM'
  have hNq := Lib.hid hN
  clear hr hchk hcs hCb hv hM hL hR hC hs hM' hN
  unfold daV
  go_enter Try.func4, Try.ntmps4
  try simp only
  try simp only [alV]
  try simp only [noV]
  try simp only [daV]
  go_wp2_with fail
  refine (of_to A n c mk rs rm M L R B N cs C hMq.out hLq.out hRq.out hCq.out hNq.out hN1 hcsq.out _ (h0.out.below ((HW.out.alloc HW.out.size _).mono hB)) (Nat.le_trans hB (HW.out.alloc HW.out.size _).size)).mono ?_
  rintro e w1 ⟨g1, c1, rfl, hc1, ho1, hg1, hl1, b⟩
  try simp only [World.size_setCell] at hg1
  try simp only [World.size_alloc] at hg1
  have d_X_O1 : w.heap.size < g1 := by (try simp at hg1); omega
  have HXz : Blk w1 (w.heap.size) 45 (daV A n c mk rs rm) := Blk.below (Blk.newAt (by simp)) b (by simp <;> omega)
  have HX := Lib.hid HXz
  clear HXz
  replace HW := Lib.hid ((HW.out.alloc HW.out.size _).trans (b.mono (HW.out.alloc HW.out.size _).size))
  have sz1 := HW.out.size
  clear b
  have HO1 := Lib.hid ho1
  clear ho1
  have d_X_A5 : w.heap.size < w1.heap.size := by have := HX.out.lt; omega
  have d_O1_A5 : g1 < w1.heap.size := by have := own_lt HO1.out; omega
  have hcell1 := own_num HO1.out (i := s) hsN
  rw [hvq.out] at hcell1
  have O1l := own_lt HO1.out
  try simp only
  try simp only [alV]
  try simp only [noV]
  try simp only [daV]
  go_wp2_with fail
  refine (left_to (some ⟨g1, 0, none⟩) N c1 M L R _ M (0) C s hsN hchkq.out hvq.out (by omega) (by omega) (by omega) _ (Reads.of_own (HO1.out.alloc _)) (Nat.le_refl _)).mono ?_
  rintro e w2 ⟨rfl, b⟩
  replace HX := Lib.hid ((HX.out.alloc _).below b (HX.out.alloc _).lt)
  replace HO1 := Lib.hid (own_below (HO1.out.alloc _) b (Nat.le_refl _))
  have HA5z : Blk w2 (w1.heap.size) 25 (alV (some ⟨g1, 0, none⟩) N c1 M L R) := Blk.below (Blk.newAt (by simp)) b (by simp <;> omega)
  have HA5 := Lib.hid HA5z
  clear HA5z
  replace HW := Lib.hid ((HW.out.alloc HW.out.size _).trans (b.mono (HW.out.alloc HW.out.size _).size))
  have sz2 := HW.out.size
  clear b
  clear hcell1 O1l
  obtain ⟨A5c0, A5c1, A5c2, A5c3⟩ := alV_cells HA5.out
  have A5l := HA5.out.lt
  try simp only
  try simp only [alV]
  try simp only [noV]
  try simp only [daV]
  go_wp2_with fail
  refine (take_state (some ⟨g1, 0, none⟩) N c1 M L R _ C s hsN hchkq.out hvq.out _ (Reads.of_own HO1.out) (Nat.le_refl _)).mono ?_
  rintro e w3 ⟨rfl, b⟩
  replace HX := Lib.hid (HX.out.below b HX.out.lt)
  replace HO1 := Lib.hid (own_below HO1.out b (Nat.le_refl _))
  replace HA5 := Lib.hid (HA5.out.below b HA5.out.lt)
  replace HW := Lib.hid (HW.out.trans (b.mono HW.out.size))
  have sz3 := HW.out.size
  clear b
  clear A5c0 A5c1 A5c2 A5c3 A5l
  have d_X_T10 : w.heap.size < w3.heap.size := by have := HX.out.lt; omega
  have d_O1_T10 : g1 < w3.heap.size := by have := own_lt HO1.out; omega
  have d_A5_T10 : w1.heap.size < w3.heap.size := by have := HA5.out.lt; omega
  have d_X_T11 : w.heap.size < w3.heap.size + 1 := by have := HX.out.lt; omega
  have d_O1_T11 : g1 < w3.heap.size + 1 := by have := own_lt HO1.out; omega
  have d_A5_T11 : w1.heap.size < w3.heap.size + 1 := by have := HA5.out.lt; omega
  obtain ⟨Xc0, Xc1, Xc2, Xc3⟩ := daV_cells HX.out
  have Xl := HX.out.lt
  try simp only
  try simp only [alV]
  try simp only [noV]
  try simp only [daV]
  go_wp2_with fail
  refine (of_to A n c mk rs rm M L R B N cs C hMq.out hLq.out hRq.out hCq.out hNq.out hN1 hcsq.out _ (h0.out.below (((HW.out.alloc HW.out.size _).alloc (HW.out.alloc HW.out.size _).size _).mono hB)) (Nat.le_trans hB ((HW.out.alloc HW.out.size _).alloc (HW.out.alloc HW.out.size _).size _).size)).mono ?_
  rintro e w4 ⟨g2, c2, rfl, hc2, ho2, hg2, hl2, b⟩
  try simp only [World.size_setCell] at hg2
  try simp only [World.size_alloc] at hg2
  have d_X_O2 : w.heap.size < g2 := by have := HX.out.lt; (try simp at hg2); omega
  have d_O1_O2 : g1 < g2 := by have := own_lt HO1.out; (try simp at hg2); omega
  have d_A5_O2 : w1.heap.size < g2 := by have := HA5.out.lt; (try simp at hg2); omega
  have d_T10_O2 : w3.heap.size < g2 := by (try simp at hg2); omega
  have d_T11_O2 : w3.heap.size + 1 < g2 := by (try simp at hg2); omega
  replace HX := Lib.hid (((HX.out.alloc _).alloc _).below b ((HX.out.alloc _).alloc _).lt)
  replace HO1 := Lib.hid (own_below ((HO1.out.alloc _).alloc _) b (Nat.le_refl _))
  replace HA5 := Lib.hid (((HA5.out.alloc _).alloc _).below b ((HA5.out.alloc _).alloc _).lt)
  have HT10z : Blk w4 (w3.heap.size) 35 (noV 0 0) := Blk.below ((Blk.newAt (by simp)).alloc _) b (by simp <;> omega)
  have HT10 := Lib.hid HT10z
  clear HT10z
  have HT11z : Blk w4 (w3.heap.size + 1) 25 (alV none 0 0 0 0 0) := Blk.below (Blk.newAt (by simp)) b (by simp <;> omega)
  have HT11 := Lib.hid HT11z
  clear HT11z
  replace HW := Lib.hid (((HW.out.alloc HW.out.size _).alloc (HW.out.alloc HW.out.size _).size _).trans (b.mono ((HW.out.alloc HW.out.size _).alloc (HW.out.alloc HW.out.size _).size _).size))
  have sz4 := HW.out.size
  clear b
  have HO2 := Lib.hid ho2
  clear ho2
  clear Xc0 Xc1 Xc2 Xc3 Xl
  have d_X_B13 : w.heap.size < w4.heap.size := by have := HX.out.lt; omega
  have d_O1_B13 : g1 < w4.heap.size := by have := own_lt HO1.out; omega
  have d_A5_B13 : w1.heap.size < w4.heap.size := by have := HA5.out.lt; omega
  have d_T10_B13 : w3.heap.size < w4.heap.size := by have := HT10.out.lt; omega
  have d_T11_B13 : w3.heap.size + 1 < w4.heap.size := by have := HT11.out.lt; omega
  have d_O2_B13 : g2 < w4.heap.size := by have := own_lt HO2.out; omega
  obtain ⟨A5c0, A5c1, A5c2, A5c3⟩ := alV_cells HA5.out
  have A5l := HA5.out.lt
  obtain ⟨T10c0, T10c1⟩ := noV_cells HT10.out
  have T10l := HT10.out.lt
  obtain ⟨T11c0, T11c1, T11c2, T11c3⟩ := alV_cells HT11.out
  have T11l := HT11.out.lt
  try simp only
  try simp only [alV]
  try simp only [noV]
  try simp only [daV]
  go_wp2_with fail
  refine (extend_over (some ⟨g1, 0, none⟩) N c1 M L R _ C hchkq.out hML (by omega) (by have := hMpq.out; omega) _ (Reads.of_own (HO1.out.alloc _)) (Nat.le_refl _)).mono ?_
  rintro e w5 ⟨rfl, b⟩
  replace HX := Lib.hid ((HX.out.alloc _).below b (HX.out.alloc _).lt)
  replace HO1 := Lib.hid (own_below (HO1.out.alloc _) b (Nat.le_refl _))
  replace HA5 := Lib.hid ((HA5.out.alloc _).below b (HA5.out.alloc _).lt)
  clear HT10
  clear HT11
  clear HO2
  have HB13z : Blk w5 (w4.heap.size) 25 (alV (some ⟨g2, 0, none⟩) N c2 M L R) := Blk.below (Blk.newAt (by simp)) b (by simp <;> omega)
  have HB13 := Lib.hid HB13z
  clear HB13z
  replace HW := Lib.hid ((HW.out.alloc HW.out.size _).trans (b.mono (HW.out.alloc HW.out.size _).size))
  have sz5 := HW.out.size
  clear b
  clear A5c0 A5c1 A5c2 A5c3 A5l T10c0 T10c1 T10l T11c0 T11c1 T11c2 T11c3 T11l
  have d_X_D14 : w.heap.size < w5.heap.size := by have := HX.out.lt; omega
  have d_O1_D14 : g1 < w5.heap.size := by have := own_lt HO1.out; omega
  have d_A5_D14 : w1.heap.size < w5.heap.size := by have := HA5.out.lt; omega
  have d_B13_D14 : w4.heap.size < w5.heap.size := by have := HB13.out.lt; omega
  obtain ⟨Xc0, Xc1, Xc2, Xc3⟩ := daV_cells HX.out
  have Xl := HX.out.lt
  try simp only
  try simp only [alV]
  try simp only [noV]
  try simp only [daV]
  go_wp2_with fail
  refine (of_to A n c mk rs rm M L R B N cs C hMq.out hLq.out hRq.out hCq.out hNq.out hN1 hcsq.out _ (h0.out.below ((HW.out.alloc HW.out.size _).mono hB)) (Nat.le_trans hB (HW.out.alloc HW.out.size _).size)).mono ?_
  rintro e w6 ⟨g3, c3, rfl, hc3, ho3, hg3, hl3, b⟩
  try simp only [World.size_setCell] at hg3
  try simp only [World.size_alloc] at hg3
  have d_X_O3 : w.heap.size < g3 := by have := HX.out.lt; (try simp at hg3); omega
  have d_O1_O3 : g1 < g3 := by have := own_lt HO1.out; (try simp at hg3); omega
  have d_A5_O3 : w1.heap.size < g3 := by have := HA5.out.lt; (try simp at hg3); omega
  have d_B13_O3 : w4.heap.size < g3 := by have := HB13.out.lt; (try simp at hg3); omega
  have d_D14_O3 : w5.heap.size < g3 := by (try simp at hg3); omega
  replace HX := Lib.hid ((HX.out.alloc _).below b (HX.out.alloc _).lt)
  replace HO1 := Lib.hid (own_below (HO1.out.alloc _) b (Nat.le_refl _))
  replace HA5 := Lib.hid ((HA5.out.alloc _).below b (HA5.out.alloc _).lt)
  replace HB13 := Lib.hid ((HB13.out.alloc _).below b (HB13.out.alloc _).lt)
  have HD14z : Blk w6 (w5.heap.size) 25 (alV none 0 0 0 0 0) := Blk.below (Blk.newAt (by simp)) b (by simp <;> omega)
  have HD14 := Lib.hid HD14z
  clear HD14z
  replace HW := Lib.hid ((HW.out.alloc HW.out.size _).trans (b.mono (HW.out.alloc HW.out.size _).size))
  have sz6 := HW.out.size
  clear b
  have HO3 := Lib.hid ho3
  clear ho3
  clear Xc0 Xc1 Xc2 Xc3 Xl
  obtain ⟨A5c0, A5c1, A5c2, A5c3⟩ := alV_cells HA5.out
  have A5l := HA5.out.lt
  obtain ⟨D14c0, D14c1, D14c2, D14c3⟩ := alV_cells HD14.out
  have D14l := HD14.out.lt
  obtain ⟨B13c0, B13c1, B13c2, B13c3⟩ := alV_cells HB13.out
  have B13l := HB13.out.lt
  obtain ⟨B13f0, B13f1, B13f2, B13f3⟩ := blk_frozen4 HB13.out
  try simp only [alV]
  try simp only [noV]
  try simp only [daV]
  go_upto_region 19 with fail
  have HXy : Blk (((((w6.setCell ⟨w4.heap.size, 0, none⟩ (.slice (some ⟨g3, 0, none⟩) N c3)).setCell ⟨w4.heap.size, 1, none⟩ (.int .u64 (M : Int))).setCell ⟨w4.heap.size, 2, none⟩ (.int .u64 (L : Int))).setCell ⟨w4.heap.size, 3, none⟩ (.int .u64 (R : Int))).setCell ⟨w4.heap.size, 1, none⟩ (.int .u64 (M' : Int))) (w.heap.size) 45 (daV A n c mk rs rm) := (((((HX.out.far (by simp <;> omega) _).far (by simp <;> omega) _).far (by simp <;> omega) _).far (by simp <;> omega) _).far (by simp <;> omega) _)
  have HO1y : (((((w6.setCell ⟨w4.heap.size, 0, none⟩ (.slice (some ⟨g3, 0, none⟩) N c3)).setCell ⟨w4.heap.size, 1, none⟩ (.int .u64 (M : Int))).setCell ⟨w4.heap.size, 2, none⟩ (.int .u64 (L : Int))).setCell ⟨w4.heap.size, 3, none⟩ (.int .u64 (R : Int))).setCell ⟨w4.heap.size, 1, none⟩ (.int .u64 (M' : Int))).ownsRow _ 23 1 (.slice (some ⟨g1, 0, none⟩) N c1) N (nv .u64 C) := (ownsRow_setCell_other (ownsRow_setCell_other (ownsRow_setCell_other (ownsRow_setCell_other (ownsRow_setCell_other HO1.out (by simp [Value.ownBlock] <;> omega) _) (by simp [Value.ownBlock] <;> omega) _) (by simp [Value.ownBlock] <;> omega) _) (by simp [Value.ownBlock] <;> omega) _) (by simp [Value.ownBlock] <;> omega) _)
  have HA5y : Blk (((((w6.setCell ⟨w4.heap.size, 0, none⟩ (.slice (some ⟨g3, 0, none⟩) N c3)).setCell ⟨w4.heap.size, 1, none⟩ (.int .u64 (M : Int))).setCell ⟨w4.heap.size, 2, none⟩ (.int .u64 (L : Int))).setCell ⟨w4.heap.size, 3, none⟩ (.int .u64 (R : Int))).setCell ⟨w4.heap.size, 1, none⟩ (.int .u64 (M' : Int))) (w1.heap.size) 25 (alV (some ⟨g1, 0, none⟩) N c1 M L R) := (((((HA5.out.far (by simp <;> omega) _).far (by simp <;> omega) _).far (by simp <;> omega) _).far (by simp <;> omega) _).far (by simp <;> omega) _)
  have HB13y : Blk (((((w6.setCell ⟨w4.heap.size, 0, none⟩ (.slice (some ⟨g3, 0, none⟩) N c3)).setCell ⟨w4.heap.size, 1, none⟩ (.int .u64 (M : Int))).setCell ⟨w4.heap.size, 2, none⟩ (.int .u64 (L : Int))).setCell ⟨w4.heap.size, 3, none⟩ (.int .u64 (R : Int))).setCell ⟨w4.heap.size, 1, none⟩ (.int .u64 (M' : Int))) (w4.heap.size) 25 (alV (some ⟨g3, 0, none⟩) N c3 M' L R) := (((((HB13.out.set_ 0 _).set_ 1 _).set_ 2 _).set_ 3 _).set_ 1 _)
  have HD14y : Blk (((((w6.setCell ⟨w4.heap.size, 0, none⟩ (.slice (some ⟨g3, 0, none⟩) N c3)).setCell ⟨w4.heap.size, 1, none⟩ (.int .u64 (M : Int))).setCell ⟨w4.heap.size, 2, none⟩ (.int .u64 (L : Int))).setCell ⟨w4.heap.size, 3, none⟩ (.int .u64 (R : Int))).setCell ⟨w4.heap.size, 1, none⟩ (.int .u64 (M' : Int))) (w5.heap.size) 25 (alV none 0 0 0 0 0) := (((((HD14.out.far (by simp <;> omega) _).far (by simp <;> omega) _).far (by simp <;> omega) _).far (by simp <;> omega) _).far (by simp <;> omega) _)
  have HO3y : (((((w6.setCell ⟨w4.heap.size, 0, none⟩ (.slice (some ⟨g3, 0, none⟩) N c3)).setCell ⟨w4.heap.size, 1, none⟩ (.int .u64 (M : Int))).setCell ⟨w4.heap.size, 2, none⟩ (.int .u64 (L : Int))).setCell ⟨w4.heap.size, 3, none⟩ (.int .u64 (R : Int))).setCell ⟨w4.heap.size, 1, none⟩ (.int .u64 (M' : Int))).ownsRow _ 23 1 (.slice (some ⟨g3, 0, none⟩) N c3) N (nv .u64 C) := (ownsRow_setCell_other (ownsRow_setCell_other (ownsRow_setCell_other (ownsRow_setCell_other (ownsRow_setCell_other HO3.out (by simp [Value.ownBlock] <;> omega) _) (by simp [Value.ownBlock] <;> omega) _) (by simp [Value.ownBlock] <;> omega) _) (by simp [Value.ownBlock] <;> omega) _) (by simp [Value.ownBlock] <;> omega) _)
  have HWy : Below w.heap.size w (((((w6.setCell ⟨w4.heap.size, 0, none⟩ (.slice (some ⟨g3, 0, none⟩) N c3)).setCell ⟨w4.heap.size, 1, none⟩ (.int .u64 (M : Int))).setCell ⟨w4.heap.size, 2, none⟩ (.int .u64 (L : Int))).setCell ⟨w4.heap.size, 3, none⟩ (.int .u64 (R : Int))).setCell ⟨w4.heap.size, 1, none⟩ (.int .u64 (M' : Int))) := (((((HW.out.setCell (by simp <;> omega) _).setCell (by simp <;> omega) _).setCell (by simp <;> omega) _).setCell (by simp <;> omega) _).setCell (by simp <;> omega) _)
  generalize ((((w6.setCell ⟨w4.heap.size, 0, none⟩ (.slice (some ⟨g3, 0, none⟩) N c3)).setCell ⟨w4.heap.size, 1, none⟩ (.int .u64 (M : Int))).setCell ⟨w4.heap.size, 2, none⟩ (.int .u64 (L : Int))).setCell ⟨w4.heap.size, 3, none⟩ (.int .u64 (R : Int))).setCell ⟨w4.heap.size, 1, none⟩ (.int .u64 (M' : Int)) = wb at *
  replace HX := Lib.hid HXy
  replace HO1 := Lib.hid HO1y
  replace HA5 := Lib.hid HA5y
  replace HB13 := Lib.hid HB13y
  replace HD14 := Lib.hid HD14y
  replace HO3 := Lib.hid HO3y
  replace HW := Lib.hid HWy
  clear HWy HXy HO1y HA5y HB13y HD14y HO3y
  clear A5c0 A5c1 A5c2 A5c3 A5l D14c0 D14c1 D14c2 D14c3 D14l B13c0 B13c1 B13c2 B13c3 B13l B13f0 B13f1 B13f2 B13f3
  obtain ⟨A5c0, A5c1, A5c2, A5c3⟩ := alV_cells HA5.out
  have A5l := HA5.out.lt
  obtain ⟨D14c0, D14c1, D14c2, D14c3⟩ := alV_cells HD14.out
  have D14l := HD14.out.lt
  obtain ⟨B13c0, B13c1, B13c2, B13c3⟩ := alV_cells HB13.out
  have B13l := HB13.out.lt
  try simp only
  try simp only [alV]
  try simp only [noV]
  try simp only [daV]
  go_wp2_with fail
  refine (crash_to ⟨g1, 0, none⟩ N c1 M L R _ C (List.replicate N M) rfl hN1 hN8 hchkq.out (by omega) _ (Reads.of_own HO1.out) (Nat.le_refl _)).mono ?_
  rintro e w7 ⟨gY, rfl, hbY, hgY, b⟩
  try simp only [World.size_setCell] at hgY
  try simp only [World.size_alloc] at hgY
  have d_X_GY : w.heap.size < gY := by have := HX.out.lt; (try simp at hgY); omega
  have d_O1_GY : g1 < gY := by have := own_lt HO1.out; (try simp at hgY); omega
  have d_A5_GY : w1.heap.size < gY := by have := HA5.out.lt; (try simp at hgY); omega
  have d_B13_GY : w4.heap.size < gY := by have := HB13.out.lt; (try simp at hgY); omega
  have d_D14_GY : w5.heap.size < gY := by have := HD14.out.lt; (try simp at hgY); omega
  have d_O3_GY : g3 < gY := by have := own_lt HO3.out; (try simp at hgY); omega
  replace HX := Lib.hid (HX.out.below b HX.out.lt)
  replace HO1 := Lib.hid (own_below HO1.out b (Nat.le_refl _))
  replace HA5 := Lib.hid (HA5.out.below b HA5.out.lt)
  replace HB13 := Lib.hid (HB13.out.below b HB13.out.lt)
  clear HD14
  clear HO3
  replace HW := Lib.hid (HW.out.trans (b.mono HW.out.size))
  have sz7 := HW.out.size
  clear b
  have HGY := Lib.hid hbY
  clear hbY
  clear A5c0 A5c1 A5c2 A5c3 A5l D14c0 D14c1 D14c2 D14c3 D14l B13c0 B13c1 B13c2 B13c3 B13l
  have d_X_Y16 : w.heap.size < w7.heap.size := by have := HX.out.lt; omega
  have d_O1_Y16 : g1 < w7.heap.size := by have := own_lt HO1.out; omega
  have d_A5_Y16 : w1.heap.size < w7.heap.size := by have := HA5.out.lt; omega
  have d_B13_Y16 : w4.heap.size < w7.heap.size := by have := HB13.out.lt; omega
  have d_GY_Y16 : gY < w7.heap.size := by have := HGY.out.lt; omega
  obtain ⟨Xc0, Xc1, Xc2, Xc3⟩ := daV_cells HX.out
  have Xl := HX.out.lt
  try simp only
  try simp only [alV]
  try simp only [noV]
  try simp only [daV]
  go_wp2_with fail
  refine (of_to A n c mk rs rm M L R B N cs C hMq.out hLq.out hRq.out hCq.out hNq.out hN1 hcsq.out _ (h0.out.below ((HW.out.alloc HW.out.size _).mono hB)) (Nat.le_trans hB (HW.out.alloc HW.out.size _).size)).mono ?_
  rintro e w8 ⟨g4, c4, rfl, hc4, ho4, hg4, hl4, b⟩
  try simp only [World.size_setCell] at hg4
  try simp only [World.size_alloc] at hg4
  have d_X_O4 : w.heap.size < g4 := by have := HX.out.lt; (try simp at hg4); omega
  have d_O1_O4 : g1 < g4 := by have := own_lt HO1.out; (try simp at hg4); omega
  have d_A5_O4 : w1.heap.size < g4 := by have := HA5.out.lt; (try simp at hg4); omega
  have d_B13_O4 : w4.heap.size < g4 := by have := HB13.out.lt; (try simp at hg4); omega
  have d_GY_O4 : gY < g4 := by have := HGY.out.lt; (try simp at hg4); omega
  have d_Y16_O4 : w7.heap.size < g4 := by (try simp at hg4); omega
  replace HX := Lib.hid ((HX.out.alloc _).below b (HX.out.alloc _).lt)
  replace HO1 := Lib.hid (own_below (HO1.out.alloc _) b (Nat.le_refl _))
  replace HA5 := Lib.hid ((HA5.out.alloc _).below b (HA5.out.alloc _).lt)
  replace HB13 := Lib.hid ((HB13.out.alloc _).below b (HB13.out.alloc _).lt)
  replace HGY := Lib.hid ((HGY.out.alloc _).below b (HGY.out.alloc _).lt)
  have HY16z : Blk w8 (w7.heap.size) 25 (alV (some ⟨gY, 0, none⟩) N N M L R) := Blk.below (Blk.newAt (by simp)) b (by simp <;> omega)
  have HY16 := Lib.hid HY16z
  clear HY16z
  replace HW := Lib.hid ((HW.out.alloc HW.out.size _).trans (b.mono (HW.out.alloc HW.out.size _).size))
  have sz8 := HW.out.size
  clear b
  have HO4 := Lib.hid ho4
  clear ho4
  clear Xc0 Xc1 Xc2 Xc3 Xl
  obtain ⟨B13c0, B13c1, B13c2, B13c3⟩ := alV_cells HB13.out
  have B13l := HB13.out.lt
  obtain ⟨B13f0, B13f1, B13f2, B13f3⟩ := blk_frozen4 HB13.out
  try simp only [alV]
  try simp only [noV]
  try simp only [daV]
  go_upto_region 26 with fail
  have HXy : Blk ((((w8.setCell ⟨w4.heap.size, 0, none⟩ (.slice (some ⟨g4, 0, none⟩) N c4)).setCell ⟨w4.heap.size, 1, none⟩ (.int .u64 (M : Int))).setCell ⟨w4.heap.size, 2, none⟩ (.int .u64 (L : Int))).setCell ⟨w4.heap.size, 3, none⟩ (.int .u64 (R : Int))) (w.heap.size) 45 (daV A n c mk rs rm) := ((((HX.out.far (by simp <;> omega) _).far (by simp <;> omega) _).far (by simp <;> omega) _).far (by simp <;> omega) _)
  have HO1y : ((((w8.setCell ⟨w4.heap.size, 0, none⟩ (.slice (some ⟨g4, 0, none⟩) N c4)).setCell ⟨w4.heap.size, 1, none⟩ (.int .u64 (M : Int))).setCell ⟨w4.heap.size, 2, none⟩ (.int .u64 (L : Int))).setCell ⟨w4.heap.size, 3, none⟩ (.int .u64 (R : Int))).ownsRow _ 23 1 (.slice (some ⟨g1, 0, none⟩) N c1) N (nv .u64 C) := (ownsRow_setCell_other (ownsRow_setCell_other (ownsRow_setCell_other (ownsRow_setCell_other HO1.out (by simp [Value.ownBlock] <;> omega) _) (by simp [Value.ownBlock] <;> omega) _) (by simp [Value.ownBlock] <;> omega) _) (by simp [Value.ownBlock] <;> omega) _)
  have HA5y : Blk ((((w8.setCell ⟨w4.heap.size, 0, none⟩ (.slice (some ⟨g4, 0, none⟩) N c4)).setCell ⟨w4.heap.size, 1, none⟩ (.int .u64 (M : Int))).setCell ⟨w4.heap.size, 2, none⟩ (.int .u64 (L : Int))).setCell ⟨w4.heap.size, 3, none⟩ (.int .u64 (R : Int))) (w1.heap.size) 25 (alV (some ⟨g1, 0, none⟩) N c1 M L R) := ((((HA5.out.far (by simp <;> omega) _).far (by simp <;> omega) _).far (by simp <;> omega) _).far (by simp <;> omega) _)
  have HB13y : Blk ((((w8.setCell ⟨w4.heap.size, 0, none⟩ (.slice (some ⟨g4, 0, none⟩) N c4)).setCell ⟨w4.heap.size, 1, none⟩ (.int .u64 (M : Int))).setCell ⟨w4.heap.size, 2, none⟩ (.int .u64 (L : Int))).setCell ⟨w4.heap.size, 3, none⟩ (.int .u64 (R : Int))) (w4.heap.size) 25 (alV (some ⟨g4, 0, none⟩) N c4 M L R) := ((((HB13.out.set_ 0 _).set_ 1 _).set_ 2 _).set_ 3 _)
  have HGYy : Blk ((((w8.setCell ⟨w4.heap.size, 0, none⟩ (.slice (some ⟨g4, 0, none⟩) N c4)).setCell ⟨w4.heap.size, 1, none⟩ (.int .u64 (M : Int))).setCell ⟨w4.heap.size, 2, none⟩ (.int .u64 (L : Int))).setCell ⟨w4.heap.size, 3, none⟩ (.int .u64 (R : Int))) (gY) 23 (va .u64 (List.replicate N M)) := ((((HGY.out.far (by simp <;> omega) _).far (by simp <;> omega) _).far (by simp <;> omega) _).far (by simp <;> omega) _)
  have HY16y : Blk ((((w8.setCell ⟨w4.heap.size, 0, none⟩ (.slice (some ⟨g4, 0, none⟩) N c4)).setCell ⟨w4.heap.size, 1, none⟩ (.int .u64 (M : Int))).setCell ⟨w4.heap.size, 2, none⟩ (.int .u64 (L : Int))).setCell ⟨w4.heap.size, 3, none⟩ (.int .u64 (R : Int))) (w7.heap.size) 25 (alV (some ⟨gY, 0, none⟩) N N M L R) := ((((HY16.out.far (by simp <;> omega) _).far (by simp <;> omega) _).far (by simp <;> omega) _).far (by simp <;> omega) _)
  have HO4y : ((((w8.setCell ⟨w4.heap.size, 0, none⟩ (.slice (some ⟨g4, 0, none⟩) N c4)).setCell ⟨w4.heap.size, 1, none⟩ (.int .u64 (M : Int))).setCell ⟨w4.heap.size, 2, none⟩ (.int .u64 (L : Int))).setCell ⟨w4.heap.size, 3, none⟩ (.int .u64 (R : Int))).ownsRow _ 23 1 (.slice (some ⟨g4, 0, none⟩) N c4) N (nv .u64 C) := (ownsRow_setCell_other (ownsRow_setCell_other (ownsRow_setCell_other (ownsRow_setCell_other HO4.out (by simp [Value.ownBlock] <;> omega) _) (by simp [Value.ownBlock] <;> omega) _) (by simp [Value.ownBlock] <;> omega) _) (by simp [Value.ownBlock] <;> omega) _)
  have HWy : Below w.heap.size w ((((w8.setCell ⟨w4.heap.size, 0, none⟩ (.slice (some ⟨g4, 0, none⟩) N c4)).setCell ⟨w4.heap.size, 1, none⟩ (.int .u64 (M : Int))).setCell ⟨w4.heap.size, 2, none⟩ (.int .u64 (L : Int))).setCell ⟨w4.heap.size, 3, none⟩ (.int .u64 (R : Int))) := ((((HW.out.setCell (by simp <;> omega) _).setCell (by simp <;> omega) _).setCell (by simp <;> omega) _).setCell (by simp <;> omega) _)
  generalize (((w8.setCell ⟨w4.heap.size, 0, none⟩ (.slice (some ⟨g4, 0, none⟩) N c4)).setCell ⟨w4.heap.size, 1, none⟩ (.int .u64 (M : Int))).setCell ⟨w4.heap.size, 2, none⟩ (.int .u64 (L : Int))).setCell ⟨w4.heap.size, 3, none⟩ (.int .u64 (R : Int)) = wl at *
  replace HX := Lib.hid HXy
  replace HO1 := Lib.hid HO1y
  replace HA5 := Lib.hid HA5y
  replace HB13 := Lib.hid HB13y
  replace HGY := Lib.hid HGYy
  replace HY16 := Lib.hid HY16y
  replace HO4 := Lib.hid HO4y
  replace HW := Lib.hid HWy
  clear HWy HXy HO1y HA5y HB13y HGYy HY16y HO4y
  clear B13c0 B13c1 B13c2 B13c3 B13l B13f0 B13f1 B13f2 B13f3
  go_wp2
  have hsth := Lib.hid (⟨HX.out, HA5.out, HB13.out, HY16.out, ⟨_, HO1.out⟩, HGY.out, ⟨_, by rw [flst_zero]; exact HO4.out⟩, HW.out⟩ : StpMem w.heap.size w1.heap.size w4.heap.size w7.heap.size g1 gY g4 A n c mk rs rm N c1 c4 M L R C (flst C M 0) w wl)
  clear HX HA5 HB13 HY16 HO1 HGY HO4 HW
  clear sz1 sz2 sz3 sz4 sz5 sz6 sz7 sz8
  go_loopw [18] (fun s wr => ∃ k : Nat, k ≤ N ∧ s = .int .i64 (k : Int) ∧ StpMem w.heap.size w1.heap.size w4.heap.size w7.heap.size g1 gY g4 A n c mk rs rm N c1 c4 M L R C (flst C M k) w wr) (fun s _ => N - (intOf s).toNat)
  case atStart => exact ⟨0, by omega, rfl, hsth.out⟩
  case round =>
    clear hsth
    obtain ⟨k, hkN, rfl, hmem⟩ := hrel
    obtain ⟨b4, ho4⟩ := hmem.o4
    have hmm := Lib.hid hmem
    have hO4 := Lib.hid ho4
    obtain ⟨bc0, bc1, bc2, bc3⟩ := alV_cells hmem.b
    by_cases hkl : k < N
    · have hkI : (k : Int) < (N : Int) := by omega
      have hce := own_num ho4 hkl
      have hfe := own_frozen ho4 k
      have hset := Lib.hid (flst_set C M k (by have := hNq.out; omega))
      generalize (flst C M k).getD k 0 = y0 at *
      clear hmem ho4
      go_wp2
      go_roundw
      case rel =>
        have hd1 := d_O4_lt.out
        refine ⟨k + 1, by omega, by go_num, ⟨hmm.out.x.far (by simp <;> omega) _, hmm.out.a.far (by simp <;> omega) _, hmm.out.b.far (by simp <;> omega) _, hmm.out.y.far (by simp <;> omega) _, ?_, hmm.out.gy.far (by simp <;> omega) _, ⟨b4, ?_⟩, hmm.out.bel.setCell (by simp <;> omega) _⟩⟩
        · obtain ⟨b1, ho1⟩ := hmm.out.o1
          exact ⟨b1, ownsRow_setCell_other ho1 (by simp [Value.ownBlock] <;> omega) _⟩
        · have := (hO4.out.stored k (.int .u64 (M : Int))).1
          rw [nv_set, hset.out] at this
          exact this
      case measure => simp [intOf]; omega
    · obtain rfl : k = N := by omega
      have hall : flst C M k = List.replicate k M := by have := flst_all C M; rwa [hNq.out] at this
      rw [hall] at ho4
      have hO4r := Lib.hid (Reads.of_own ho4)
      obtain ⟨b1, ho1⟩ := hmem.o1
      have HO1 := Lib.hid ho1
      have HX := Lib.hid hmem.x
      have HA5 := Lib.hid hmem.a
      have HY16 := Lib.hid hmem.y
      have HGY := Lib.hid hmem.gy
      have HW := Lib.hid hmem.bel
      have HB13 := Lib.hid hmem.b
      clear hmem hmm ho4 hO4 ho1 hall bc0 bc1 bc2 bc3
      obtain ⟨Y16c0, Y16c1, Y16c2, Y16c3⟩ := alV_cells HY16.out
      have Y16l := HY16.out.lt
      obtain ⟨B13c0, B13c1, B13c2, B13c3⟩ := alV_cells HB13.out
      have B13l := HB13.out.lt
      try simp only
      try simp only [alV]
      try simp only [noV]
      try simp only [daV]
      go_wp2_with fail
      refine (same_true ⟨gY, 0, none⟩ ⟨g4, 0, none⟩ k c4 M L R (_) (List.replicate k M) hN1 (by omega) _ (HGY.out.readsAll HGY.out.lt (by simp)) hO4r.out (Nat.le_refl _)).mono ?_
      rintro e w9 ⟨rfl, b⟩
      replace HX := Lib.hid (HX.out.below b HX.out.lt)
      replace HA5 := Lib.hid (HA5.out.below b HA5.out.lt)
      replace HY16 := Lib.hid (HY16.out.below b HY16.out.lt)
      replace HGY := Lib.hid (HGY.out.below b HGY.out.lt)
      replace HO1 := Lib.hid (own_below HO1.out b (Nat.le_refl _))
      clear HB13
      replace HW := Lib.hid (HW.out.trans (b.mono HW.out.size))
      have sz9 := HW.out.size
      clear b
      clear Y16c0 Y16c1 Y16c2 Y16c3 Y16l B13c0 B13c1 B13c2 B13c3 B13l
      obtain ⟨Y16c0, Y16c1, Y16c2, Y16c3⟩ := alV_cells HY16.out
      have Y16l := HY16.out.lt
      obtain ⟨Xc0, Xc1, Xc2, Xc3⟩ := daV_cells HX.out
      have Xl := HX.out.lt
      have hy0 := HGY.out.num (i := 0) (by simp; omega)
      have hyf := HGY.out.frozen 0
      have hyM : (List.replicate k M).getD 0 0 = M := by rw [List.getD_eq_getElem?_getD, List.getElem?_replicate, if_pos (by omega)]; rfl
      rw [hyM] at hy0
      clear hyM
      have hk0 : (0 : Int) < (k : Int) := by omega
      try simp only
      try simp only [alV]
      try simp only [noV]
      try simp only [daV]
      go_wp2_with fail
      refine (of_to A n c mk rs rm M L R B k cs C hMq.out hLq.out hRq.out hCq.out hNq.out hN1 hcsq.out _ (h0.out.below ((HW.out.setCell (by simp <;> omega) _).mono hB)) (Nat.le_trans hB (HW.out.setCell (by simp <;> omega) _).size)).mono ?_
      rintro e w10 ⟨g5, c5, rfl, hc5, ho5, hg5, hl5, b⟩
      try simp only [World.size_setCell] at hg5
      try simp only [World.size_alloc] at hg5
      have d_X_O5 : w.heap.size < g5 := by have := HX.out.lt; (try simp at hg5); omega
      have d_A5_O5 : w1.heap.size < g5 := by have := HA5.out.lt; (try simp at hg5); omega
      have d_Y16_O5 : w7.heap.size < g5 := by have := HY16.out.lt; (try simp at hg5); omega
      have d_GY_O5 : gY < g5 := by have := HGY.out.lt; (try simp at hg5); omega
      have d_O1_O5 : g1 < g5 := by have := own_lt HO1.out; (try simp at hg5); omega
      clear HX
      replace HA5 := Lib.hid ((HA5.out.far (by simp <;> omega) _).below b (HA5.out.far (by simp <;> omega) _).lt)
      clear HY16
      clear HGY
      replace HO1 := Lib.hid (own_below (ownsRow_setCell_other HO1.out (by simp [Value.ownBlock] <;> omega) _) b (Nat.le_refl _))
      replace HW := Lib.hid ((HW.out.setCell (by simp <;> omega) _).trans (b.mono (HW.out.setCell (by simp <;> omega) _).size))
      have sz10 := HW.out.size
      clear b
      have HO5 := Lib.hid ho5
      clear ho5
      clear hy0 hyf hk0 hO4r
      clear Y16c0 Y16c1 Y16c2 Y16c3 Y16l Xc0 Xc1 Xc2 Xc3 Xl
      try simp only [alV]
      try simp only [noV]
      try simp only [daV]
      obtain ⟨A5c0, A5c1, A5c2, A5c3⟩ := alV_cells HA5.out
      have A5l := HA5.out.lt
      have l1 := own_lt HO1.out
      have l5 := own_lt HO5.out
      go_upto_region 34 with fail
      have HA5y : Blk (w10.alloc (.cells #[.slice (some ⟨g5, 0, none⟩) k c5, .int .u64 (M : Int), .int .u64 (L : Int), .int .u64 (R : Int)] 25)) (w1.heap.size) 25 (alV (some ⟨g1, 0, none⟩) k c1 M L R) := HA5.out.alloc _
      have HB19y : Blk (w10.alloc (.cells #[.slice (some ⟨g5, 0, none⟩) k c5, .int .u64 (M : Int), .int .u64 (L : Int), .int .u64 (R : Int)] 25)) (w10.heap.size) 25 (alV (some ⟨g5, 0, none⟩) k c5 M L R) := Blk.newAt rfl
      have HO1y : (w10.alloc (.cells #[.slice (some ⟨g5, 0, none⟩) k c5, .int .u64 (M : Int), .int .u64 (L : Int), .int .u64 (R : Int)] 25)).ownsRow _ 23 1 (.slice (some ⟨g1, 0, none⟩) k c1) k (nv .u64 C) := HO1.out.alloc _
      have HO5y : (w10.alloc (.cells #[.slice (some ⟨g5, 0, none⟩) k c5, .int .u64 (M : Int), .int .u64 (L : Int), .int .u64 (R : Int)] 25)).ownsRow _ 23 1 (.slice (some ⟨g5, 0, none⟩) k c5) k (nv .u64 C) := HO5.out.alloc _
      have HWy : Below w.heap.size w (w10.alloc (.cells #[.slice (some ⟨g5, 0, none⟩) k c5, .int .u64 (M : Int), .int .u64 (L : Int), .int .u64 (R : Int)] 25)) := HW.out.alloc HW.out.size _
      generalize w10.alloc (.cells #[.slice (some ⟨g5, 0, none⟩) k c5, .int .u64 (M : Int), .int .u64 (L : Int), .int .u64 (R : Int)] 25) = wz at *
      clear A5c0 A5c1 A5c2 A5c3 A5l
      have hB19 := Lib.hid HB19y.drew
      have hO1 := Lib.hid (own_drew HO1y)
      have hO5 := Lib.hid (own_drew HO5y)
      have hW := Lib.hid (below_drewN HWy 1)
      obtain ⟨ac0, ac1, ac2, ac3⟩ := alV_cells HA5y
      obtain ⟨bc0, bc1, bc2, bc3⟩ := alV_cells HB19y
      clear HA5y HB19y HO1y HO5y HWy HA5 HO1 HO5 HW l1 l5
      clear d_X_O5 d_A5_O5 d_Y16_O5 d_GY_O5 d_O1_O5
      have hk12 : 12 * k < 281474976710656 := by omega
      go_region_with (first
        | (go_at_call 18
           with_reducible refine (rowOf_lit (some ⟨g1, 0, none⟩) k c1 M L R wz.drew.heap.size C (by omega) hCbq.out _ ?h1 ?h2).mono ?_
           case h1 => exact Reads.of_own hO1.out
           case h2 => exact Nat.le_refl _
           rintro e wq1 ⟨v1, rfl, ho1, b1⟩
           obtain ⟨p1, q1, rfl, hp1, hl1⟩ := ho1.form (by omega)
           have hv1 := Lib.hid ho1
           have hcv1 := own_string hv1.out
           have hO5q := Lib.hid (own_below hO5.out b1 (Nat.le_refl _))
           have hWq := Lib.hid (hW.out.trans (b1.mono hW.out.size))
           obtain ⟨bc0, bc1, bc2, bc3⟩ := alV_cells (hB19.out.below b1 hB19.out.lt)
           clear ho1 b1)
        | (go_at_call 18
           with_reducible refine (rowOf_lit (some ⟨g5, 0, none⟩) k c5 M L R wq1.heap.size C (by omega) hCbq.out _ ?h1 ?h2).mono ?_
           case h1 => exact Reads.of_own hO5q.out
           case h2 => exact Nat.le_refl _
           rintro e wq2 ⟨v2, rfl, ho2, b2⟩
           obtain ⟨p2, q2, rfl, hp2, hl2⟩ := ho2.form (by omega)
           have hcv2 := own_string ho2
           have hcv1b := own_string (own_below hv1.out b2 (Nat.le_refl _))
           have hWr := Lib.hid (hWq.out.trans (b2.mono hWq.out.size))
           clear ho2 b2)
        | (go_at_call 8
           refine (lives08 _).mono ?_
           rintro e wq3 ⟨rfl, b3⟩
           have hWs := Lib.hid (hWr.out.trans (b3.mono hWr.out.size))
           clear b3))
      all_goals
        go_wp2
        go_ret
        exact ⟨rfl, hWs.out⟩

end Go.Proofs.Ytaaldjmopifcjaa
