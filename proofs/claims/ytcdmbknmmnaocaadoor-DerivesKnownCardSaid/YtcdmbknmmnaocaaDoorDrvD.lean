/-
  The walk of caissonref04.Expand. (Printed by mkdrv04d.py.)
-/
import Derived.Test.YtcdmbknmmnaocaaDoorDrvB
import Derived.Test.YtcdmbknmmnaocaaDoorRmac
namespace Go.Proofs.YtcdmbknmmnaocaaDoor
open Go.RowKit Sh
theorem Own.take {W : World} {B0 n c : Nat} {A' : Addr} {l : List Nat} (h : Own W B0 (some A') n c l) {m : Nat} (hm : m ≤ n) : Own W B0 (some A') m c (l.take m) := by
  have hl := h.len
  refine ⟨by rw [nv_len, List.length_take]; omega, ?_⟩
  rcases h.2 with ⟨e, h0⟩ | ⟨g, cap, cur, e, hb, hh, h1, h2, h3, h4⟩
  · cases e
  · injection e with e1 e2 e3
    refine .inr ⟨g, cap, cur, by rw [e1, e3], hb, hh, by omega, h2, h3, ?_⟩
    rw [← nv_take, ← h4, List.take_take]
    congr 1
    omega

set_option maxRecDepth 8000 in
set_option maxHeartbeats 4000000 in
theorem rexp_any (key info : List Nat) (z : Nat) (hz : z ≤ 8160) (A : Option Addr) (n c B : Nat) (A2 : Option Addr) (n2 c2 B2 : Nat) (hk : Byt key) (hi : Byt info) (hnc : n ≤ c) (hn : n < 1000) (hnc2 : n2 ≤ c2) (hn2 : n2 < 1000) (w : World)
    (hr : Reads w B 1 A n (nv .u8 key)) (hB : B ≤ w.heap.size) (hr2 : Reads w B2 1 A2 n2 (nv .u8 info)) (hB2 : B2 ≤ w.heap.size) :
    Calls Tryd.prog 13 #[.slice A n c, .slice A2 n2 c2, .int .i64 (z : Int)] w fun e' w' => ∃ Ar cr, e' = .returned (.slice Ar z cr) ∧ Own w' w.heap.size Ar z cr (ex key info z) ∧ Below w.heap.size w w' := by
  obtain ⟨B0, hB0e⟩ : ∃ b, w.heap.size = b := ⟨_, rfl⟩
  rw [hB0e]
  have hW : Below B0 w w := by rw [← hB0e]; exact Below.refl _ _
  have hB0 : B0 ≤ w.heap.size := by omega
  have hl2n := hr2.len
  have hBB : B ≤ B0 := by omega
  have hBB2 : B2 ≤ B0 := by omega
  have rd := reads_of hr hBB
  have rd2 := reads_of hr2 hBB2
  clear hr hB hr2 hB2
  have hB0q := Lib.hid hB0e
  clear hB0e
  go_enter Tryd.func13, Tryd.ntmps13
  go_upto_region 0 with fail
  refine wl_lit ?_
  refine runL 6 (.slice none 0 0) rfl (by rfl) (by go_simp) ?_
  simp only [List.set_cons_zero, List.set_cons_succ]
  refine nilL ?_
  go_upto_region 1 with fail
  refine wl_lit ?_
  refine runL 7 (.slice none 0 0) rfl (by rfl) (by go_simp) ?_
  simp only [List.set_cons_zero, List.set_cons_succ]
  refine runL 8 (.slice none 0 0) rfl (by rfl) (by go_simp) ?_
  simp only [List.set_cons_zero, List.set_cons_succ]
  refine nilL ?_
  have hO0 : Own w B0 none 0 0 [] := Own.nil _ _
  have hO1 : Own w B0 none 0 0 [] := Own.nil _ _
  have sO0_O1 : ∀ a : Addr, (none) = some a → Off none a.block := fun a _ => Off.nil _
  have sO1_O0 : ∀ a : Addr, (none : Option Addr) = some a → Off (none) a.block := fun a ha => by cases ha
  go_upto_region 2 with fail
  refine wl_lit ?_
  refine runL 9 (.int .i64 1) rfl (by rfl) (by go_simp) ?_
  simp only [List.set_cons_zero, List.set_cons_succ]
  refine nilL ?_
  go_wp2
  go_loopw [7, 8, 9] (fun v v2 u wr => ∃ (k : Nat) (AI : Option Addr) (cI : Nat) (AL : Option Addr) (nL cL mI : Nat), k ≤ 255 ∧ 32 * k < z + 32 ∧ u = .int .i64 ((k + 1 : Nat) : Int) ∧ v = .slice AI mI cI ∧ v2 = .slice AL nL cL ∧ mI = 32 * k ∧ Own wr B0 AI mI cI (ol key info k) ∧ Own wr B0 AL nL cL (tk key info k) ∧ (∀ a : Addr, AI = some a → Off AL a.block) ∧ (∀ a : Addr, AL = some a → Off AI a.block) ∧ Below B0 w wr) (fun _ _ u _ => 256 - (intOf u).toNat)
  case atStart => exact ⟨0, none, 0, none, 0, 0, 0, by omega, by omega, rfl, rfl, rfl, rfl, hO0, hO1, (fun a ha => by cases ha), (fun a ha => by cases ha), hW⟩
  case round =>
    clear hO0 hO1 hW sO0_O1 sO1_O0
    obtain ⟨k, AI, cI, AL, nL, cL, mI, hk255, hkz, rfl, rfl, rfl, hmI, hAI, hAL, sAI_AL, sAL_AI, hW⟩ := hrel
    obtain ⟨i, hik⟩ : ∃ i, k + 1 = i := ⟨_, rfl⟩
    rw [hik]
    by_cases hlt : mI < z
    ·
      have hltI : (mI : Int) < (z : Int) := by omega
      have hi256 : i < 256 := by omega
      have hw8 : IntKind.u8.wrap (i : Int) = (i : Int) := by simp [IntKind.wrap, IntKind.bits, IntKind.signed]; omega
      have hwi : IntKind.i64.wrap ((i : Int) + 1) = ((i + 1 : Nat) : Int) := by rw [IntWalk.i64_in _ (by omega)]; omega
      obtain ⟨t, ht⟩ : ∃ t, tk key info i = t := ⟨_, rfl⟩
      obtain ⟨la, hla⟩ : ∃ t, tk key info k = t := ⟨_, rfl⟩
      obtain ⟨ok, hok⟩ : ∃ t, ol key info k = t := ⟨_, rfl⟩
      obtain ⟨ok2, hok2⟩ : ∃ t, ol key info i = t := ⟨_, rfl⟩
      obtain ⟨m2, hm2⟩ : ∃ x, mI + 32 = x := ⟨_, rfl⟩
      have htl : t.length = 32 := by rw [← ht, ← hik]; exact tk_len _ _ _
      have htb : Byt t := by rw [← ht]; exact tk_byt _ _ _
      have hlb : Byt la := by rw [← hla]; exact tk_byt _ _ _
      have hll : la.length ≤ 32 := by rw [← hla]; exact tk_le _ _ _
      have hln : nL ≤ 32 := by have h1 := hAL.len; rw [hla] at h1; omega
      have hob : Byt ok2 := by rw [← hok2]; exact ol_byt _ _ _
      have hjo : ok ++ t = ok2 := by rw [← hok2, ← hik, ol, hok, hik, ht]
      have hne : hm key (la ++ info ++ [i]) = t := by rw [← ht, ← hik, tk, hla]; simp
      have hmb : Byt (la ++ info ++ [i]) := (hlb.app hi).app (byt_one' _ (by omega))
      rw [hok] at hAI
      rw [hla] at hAL
      have hneq := Lib.hid hne
      have hjoq := Lib.hid hjo
      have htq := Lib.hid ht
      have ho2q := Lib.hid hok2
      have hiq := Lib.hid hik
      clear hne hjo ht hok2 hla hok hik
      go_upto_region 5 with fail
      refine wl_lit ?_
      refine runL 17 (.slice (A) n c) rfl (by rfl) (by go_simp) ?_
      simp only [List.set_cons_zero, List.set_cons_succ]
      refine runWL 18 (.slice (some ⟨wr.heap.size, 0, none⟩) 0 0) (wr.alloc (.cells (va .u8 ([])) 5)) rfl (by rfl) (exec_bslice 22 0 _ rfl _ (by exact bs_0 _)) ?_
      simp only [List.set_cons_zero, List.set_cons_succ]
      have nAI_q1 := hAI.new_off
      have nAL_q1 := hAL.new_off
      have lw_q1 := Nat.le_trans hB0 hW.size
      have hq1 : Blk (wr.alloc (.cells (va .u8 ([])) 5)) wr.heap.size 5 (va .u8 ([])) := Blk.new _ _ _
      replace hAI := hAI.alloc (.cells (va .u8 ([])) 5)
      replace hAL := hAL.alloc (.cells (va .u8 ([])) 5)
      replace hW := hW.alloc (Nat.le_trans hB0 hW.size) (.cells (va .u8 ([])) 5)
      generalize wr.alloc (.cells (va .u8 ([])) 5) = w1 at *
      generalize wr.heap.size = q1 at hq1 lw_q1 nAI_q1 nAL_q1 ⊢
      refine runL 19 (.slice (AL) nL cL) rfl (by rfl) (by go_simp) ?_
      simp only [List.set_cons_zero, List.set_cons_succ]
      have hoq1 : Own w1 B0 (some ⟨q1, 0, none⟩) 0 0 ([]) := hq1.owned (rfl) lw_q1 (by unfold maxLen; omega)
      have sAI_oq1 : ∀ a : Addr, (AI) = some a → Off (some ⟨q1, 0, none⟩) a.block := fun a ha b hb e => by cases hb; exact nAI_q1 a ha e.symm
      have soq1_AI : ∀ a : Addr, (some ⟨q1, 0, none⟩ : Option Addr) = some a → Off (AI) a.block := fun a ha => by cases ha; exact nAI_q1
      have sAL_oq1 : ∀ a : Addr, (AL) = some a → Off (some ⟨q1, 0, none⟩) a.block := fun a ha b hb e => by cases hb; exact nAL_q1 a ha e.symm
      have soq1_AL : ∀ a : Addr, (some ⟨q1, 0, none⟩ : Option Addr) = some a → Off (AL) a.block := fun a ha => by cases ha; exact nAL_q1
      clear hq1
      obtain ⟨J1, cJ1, w2, hap, hJ1, hcJ1, hgr, hof⟩ := own_append hoq1 (AL) nL cL _ (la) hAL.reads (Nat.le_trans hB0 hW.size) (la) (by simp) (nL) (by omega) (by omega) 22
      refine runWL 20 (.slice J1 (nL) cJ1) w2 rfl (by rfl) (exec_append _ _ _ _ rfl _ _ _ rfl rfl hap) ?_
      simp only [List.set_cons_zero, List.set_cons_succ]
      have sAI_J1 : ∀ a : Addr, (AI) = some a → Off J1 a.block := fun a ha => hof a.block (sAI_oq1 a ha) (hAI.lt ha).2
      replace hAI := hAI.grown hgr sAI_oq1
      have sJ1_AI := Own.new_sep hAI hJ1 sAI_J1
      have sAL_J1 : ∀ a : Addr, (AL) = some a → Off J1 a.block := fun a ha => hof a.block (sAL_oq1 a ha) (hAL.lt ha).2
      replace hAL := hAL.grown hgr sAL_oq1
      have sJ1_AL := Own.new_sep hAL hJ1 sAL_J1
      replace hW := Own.belowG hW (Nat.le_trans hB0 hW.size) hoq1.from_ hgr
      clear hoq1 hgr hof hap
      refine runL 21 (.slice (A2) n2 c2) rfl (by rfl) (by go_simp) ?_
      simp only [List.set_cons_zero, List.set_cons_succ]
      obtain ⟨J2, cJ2, w3, hap, hJ2, hcJ2, hgr, hof⟩ := own_append hJ1 (A2) n2 c2 _ (info) (rd2.out _ hW) (Nat.le_trans hB0 hW.size) (la ++ info) rfl (nL + n2) (by omega) (by omega) 22
      refine runWL 22 (.slice J2 (nL + n2) cJ2) w3 rfl (by rfl) (exec_append _ _ _ _ rfl _ _ _ rfl rfl hap) ?_
      simp only [List.set_cons_zero, List.set_cons_succ]
      have sAI_J2 : ∀ a : Addr, (AI) = some a → Off J2 a.block := fun a ha => hof a.block (sAI_J1 a ha) (hAI.lt ha).2
      replace hAI := hAI.grown hgr sAI_J1
      have sJ2_AI := Own.new_sep hAI hJ2 sAI_J2
      have sAL_J2 : ∀ a : Addr, (AL) = some a → Off J2 a.block := fun a ha => hof a.block (sAL_J1 a ha) (hAL.lt ha).2
      replace hAL := hAL.grown hgr sAL_J1
      have sJ2_AL := Own.new_sep hAL hJ2 sAL_J2
      replace hW := Own.belowG hW (Nat.le_trans hB0 hW.size) hJ1.from_ hgr
      clear hJ1 hgr hof hap
      refine runL 23 (.int .i64 (i : Int)) rfl (by rfl) (by go_simp) ?_
      simp only [List.set_cons_zero, List.set_cons_succ]
      refine runL 24 (.int .u8 ((i : Nat) : Int)) rfl (by rfl) (by go_simp) ?_
      simp only [List.set_cons_zero, List.set_cons_succ]
      refine runWL 25 (.slice (some ⟨w3.heap.size, 0, none⟩) 1 1) (w3.alloc (.cells (va .u8 ([i])) 5)) rfl (by rfl) (exec_bslice 22 1 _ rfl _ (by exact bs_b1 i _)) ?_
      simp only [List.set_cons_zero, List.set_cons_succ]
      have nAI_q2 := hAI.new_off
      have nAL_q2 := hAL.new_off
      have nJ2_q2 := hJ2.new_off
      have lw_q2 := Nat.le_trans hB0 hW.size
      have hq2 : Blk (w3.alloc (.cells (va .u8 ([i])) 5)) w3.heap.size 5 (va .u8 ([i])) := Blk.new _ _ _
      replace hAI := hAI.alloc (.cells (va .u8 ([i])) 5)
      replace hAL := hAL.alloc (.cells (va .u8 ([i])) 5)
      replace hJ2 := hJ2.alloc (.cells (va .u8 ([i])) 5)
      replace hW := hW.alloc (Nat.le_trans hB0 hW.size) (.cells (va .u8 ([i])) 5)
      generalize w3.alloc (.cells (va .u8 ([i])) 5) = w4 at *
      generalize w3.heap.size = q2 at hq2 lw_q2 nAI_q2 nAL_q2 nJ2_q2 ⊢
      obtain ⟨J3, cJ3, w5, hap, hJ3, hcJ3, hgr, hof⟩ := own_append hJ2 (some ⟨q2, 0, none⟩) 1 1 _ ([i]) (hq2.readsAll (Nat.lt_succ_self _) (rfl)) (Nat.le_trans hB0 hW.size) (la ++ info ++ [i]) rfl (nL + n2 + 1) (by omega) (by omega) 22
      refine runWL 26 (.slice J3 (nL + n2 + 1) cJ3) w5 rfl (by rfl) (exec_append _ _ _ _ rfl _ _ _ rfl rfl hap) ?_
      simp only [List.set_cons_zero, List.set_cons_succ]
      have sAI_J3 : ∀ a : Addr, (AI) = some a → Off J3 a.block := fun a ha => hof a.block (sAI_J2 a ha) (hAI.lt ha).2
      replace hAI := hAI.grown hgr sAI_J2
      have sJ3_AI := Own.new_sep hAI hJ3 sAI_J3
      have sAL_J3 : ∀ a : Addr, (AL) = some a → Off J3 a.block := fun a ha => hof a.block (sAL_J2 a ha) (hAL.lt ha).2
      replace hAL := hAL.grown hgr sAL_J2
      have sJ3_AL := Own.new_sep hAL hJ3 sAL_J3
      have nJ3_q2 := hof q2 nJ2_q2 hq2.lt
      replace hq2 := hq2.grown hgr (nJ2_q2.ob _ _)
      replace hW := Own.belowG hW (Nat.le_trans hB0 hW.size) hJ2.from_ hgr
      clear hJ2 hgr hof hap
      refine callL 27 rfl (by rfl) (fun K hK => wp_callF 10 #[.slice (A) n c, .slice (J3) (nL + n2 + 1) cJ3] (by go_simp) (rhm_any key (la ++ info ++ [i]) A n c B _ (nL + n2 + 1) _ _ hk (by omega) hmb (by omega) _ (rd.out _ hW) (Nat.le_trans hBB (Nat.le_trans hB0 hW.size)) hJ3.reads (Nat.le_refl _)) ?_)
      rintro e w6 ⟨rfl, bx⟩
      rw [hneq.out]
      replace hAI := hAI.below bx
      replace hAL := hAL.below bx
      replace hq2 := hq2.below bx hq2.lt
      replace hJ3 := hJ3.below bx
      replace hW := hW.trans (bx.mono (Nat.le_trans hB0 hW.size))
      clear bx
      skip
      refine ⟨_, rfl, hK.out _ _ ?_⟩
      clear hK K
      simp only [List.set_cons_zero, List.set_cons_succ]
      refine runWL 10 (.pointer (some ⟨w6.heap.size, 0, none⟩)) (w6.alloc (.cells (va .u8 (List.replicate 32 0)) 25)) rfl (by rfl) (exec_allocV 25 rfl _ (zv_api_Digest _)) ?_
      simp only [List.set_cons_zero, List.set_cons_succ]
      have nAI_p10 := hAI.new_off
      have nAL_p10 := hAL.new_off
      have lq2_p10 := hq2.lt
      have nJ3_p10 := hJ3.new_off
      have lw_p10 := Nat.le_trans hB0 hW.size
      have hp10 : Blk (w6.alloc (.cells (va .u8 (List.replicate 32 0)) 25)) w6.heap.size 25 (va .u8 (List.replicate 32 0)) := Blk.new _ _ _
      replace hAI := hAI.alloc (.cells (va .u8 (List.replicate 32 0)) 25)
      replace hAL := hAL.alloc (.cells (va .u8 (List.replicate 32 0)) 25)
      replace hq2 := hq2.alloc (.cells (va .u8 (List.replicate 32 0)) 25)
      replace hJ3 := hJ3.alloc (.cells (va .u8 (List.replicate 32 0)) 25)
      replace hW := hW.alloc (Nat.le_trans hB0 hW.size) (.cells (va .u8 (List.replicate 32 0)) 25)
      generalize w6.alloc (.cells (va .u8 (List.replicate 32 0)) 25) = w7 at *
      generalize w6.heap.size = p10 at hp10 lw_p10 nAI_p10 nAL_p10 lq2_p10 nJ3_p10 ⊢
      refine runSL (w7.setRow p10 (va .u8 (t))) rfl (by rfl) (exec_storeRow 25 (.tmp 10) (.tmp 27) rfl p10 rfl (va .u8 (t)) rfl 25 (va .u8 (List.replicate 32 0)) hp10 (sz_eq (sz_api_Digest _ (List.length_replicate)) (sz_api_Digest _ (htl))) (sz_api_Digest _ (htl)) (va_ones .u8 _)) ?_
      replace hAI := hAI.rowFar nAI_p10 (va .u8 (t))
      replace hAL := hAL.rowFar nAL_p10 (va .u8 (t))
      replace hq2 := hq2.rowFar (show p10 ≠ q2 from (by omega)) (va .u8 (t))
      replace hJ3 := hJ3.rowFar nJ3_p10 (va .u8 (t))
      replace hp10 := hp10.row (va .u8 (t))
      replace hW := below_setRow hW lw_p10 (va .u8 (t))
      generalize w7.setRow p10 (va .u8 (t)) = w8 at *
      refine nilL ?_
      clear hJ3
      clear hAL
      go_upto_region 6 with fail
      refine wl_lit ?_
      refine runWL 28 (.slice (some ⟨w8.heap.size, 0, none⟩) 0 0) (w8.alloc (.cells (va .u8 ([])) 5)) rfl (by rfl) (exec_bslice 22 0 _ rfl _ (by exact bs_0 _)) ?_
      simp only [List.set_cons_zero, List.set_cons_succ]
      have nAI_q3 := hAI.new_off
      have lq2_q3 := hq2.lt
      have lp10_q3 := hp10.lt
      have lw_q3 := Nat.le_trans hB0 hW.size
      have hq3 : Blk (w8.alloc (.cells (va .u8 ([])) 5)) w8.heap.size 5 (va .u8 ([])) := Blk.new _ _ _
      replace hAI := hAI.alloc (.cells (va .u8 ([])) 5)
      replace hq2 := hq2.alloc (.cells (va .u8 ([])) 5)
      replace hp10 := hp10.alloc (.cells (va .u8 ([])) 5)
      replace hW := hW.alloc (Nat.le_trans hB0 hW.size) (.cells (va .u8 ([])) 5)
      generalize w8.alloc (.cells (va .u8 ([])) 5) = w9 at *
      generalize w8.heap.size = q3 at hq3 lw_q3 nAI_q3 lq2_q3 lp10_q3 ⊢
      refine runL 29 (.slice (some ⟨p10, 0, none⟩) 32 32) rfl (by rfl) (by go_simp) ?_
      simp only [List.set_cons_zero, List.set_cons_succ]
      have hoq3 : Own w9 B0 (some ⟨q3, 0, none⟩) 0 0 ([]) := hq3.owned (rfl) lw_q3 (by unfold maxLen; omega)
      have sAI_oq3 : ∀ a : Addr, (AI) = some a → Off (some ⟨q3, 0, none⟩) a.block := fun a ha b hb e => by cases hb; exact nAI_q3 a ha e.symm
      have soq3_AI : ∀ a : Addr, (some ⟨q3, 0, none⟩ : Option Addr) = some a → Off (AI) a.block := fun a ha => by cases ha; exact nAI_q3
      have noq3_q2 : Off (some ⟨q3, 0, none⟩) q2 := fun a ha => by cases ha; simp; omega
      have noq3_p10 : Off (some ⟨q3, 0, none⟩) p10 := fun a ha => by cases ha; simp; omega
      clear hq3
      obtain ⟨J4, cJ4, w10, hap, hJ4, hcJ4, hgr, hof⟩ := own_append hoq3 (some ⟨p10, 0, none⟩) 32 32 _ (t) (hp10.readsAll (Nat.lt_succ_self _) (htl)) (Nat.le_trans hB0 hW.size) (t) (by simp) (32) (by omega) (by omega) 22
      refine runWL 30 (.slice J4 32 cJ4) w10 rfl (by rfl) (exec_append _ _ _ _ rfl _ _ _ rfl rfl hap) ?_
      simp only [List.set_cons_zero, List.set_cons_succ]
      have sAI_J4 : ∀ a : Addr, (AI) = some a → Off J4 a.block := fun a ha => hof a.block (sAI_oq3 a ha) (hAI.lt ha).2
      replace hAI := hAI.grown hgr sAI_oq3
      have sJ4_AI := Own.new_sep hAI hJ4 sAI_J4
      have nJ4_q2 := hof q2 noq3_q2 hq2.lt
      replace hq2 := hq2.grown hgr (noq3_q2.ob _ _)
      have nJ4_p10 := hof p10 noq3_p10 hp10.lt
      replace hp10 := hp10.grown hgr (noq3_p10.ob _ _)
      replace hW := Own.belowG hW (Nat.le_trans hB0 hW.size) hoq3.from_ hgr
      clear hoq3 hgr hof hap
      refine runL 8 (.slice (J4) 32 cJ4) rfl (by rfl) (by go_simp) ?_
      simp only [List.set_cons_zero, List.set_cons_succ]
      refine nilL ?_
      go_upto_region 7 with fail
      refine wl_lit ?_
      refine runL 31 (.slice (AI) mI cI) rfl (by rfl) (by go_simp) ?_
      simp only [List.set_cons_zero, List.set_cons_succ]
      refine runL 32 (.slice (J4) 32 cJ4) rfl (by rfl) (by go_simp) ?_
      simp only [List.set_cons_zero, List.set_cons_succ]
      obtain ⟨AO, cAO, w11, hap, hAO, hcAO, hgr, hof⟩ := own_append hAI (J4) 32 cJ4 _ (t) hJ4.reads (Nat.le_trans hB0 hW.size) (ok2) hjoq.out (m2) (by omega) (by omega) 22
      refine runWL 33 (.slice AO (m2) cAO) w11 rfl (by rfl) (exec_append _ _ _ _ rfl _ _ _ rfl rfl hap) ?_
      simp only [List.set_cons_zero, List.set_cons_succ]
      have nAO_q2 := hof q2 nAI_q2 hq2.lt
      replace hq2 := hq2.grown hgr (nAI_q2.ob _ _)
      have nAO_p10 := hof p10 nAI_p10 hp10.lt
      replace hp10 := hp10.grown hgr (nAI_p10.ob _ _)
      have sJ4_AO : ∀ a : Addr, (J4) = some a → Off AO a.block := fun a ha => hof a.block (sJ4_AI a ha) (hJ4.lt ha).2
      replace hJ4 := hJ4.grown hgr sJ4_AI
      have sAO_J4 := Own.new_sep hJ4 hAO sJ4_AO
      replace hW := Own.belowG hW (Nat.le_trans hB0 hW.size) hAI.from_ hgr
      clear hAI hgr hof hap
      refine runL 7 (.slice (AO) (m2) cAO) rfl (by rfl) (by go_simp) ?_
      simp only [List.set_cons_zero, List.set_cons_succ]
      refine nilL ?_
      go_wp2
      go_roundw
      case rel => exact ⟨i, AO, cAO, J4, 32, cJ4, m2, by omega, by have := hiq.out; omega, by go_num, rfl, rfl, by have := hiq.out; omega, by rw [ho2q.out]; exact hAO, by rw [htq.out]; exact hJ4, sAO_J4, sJ4_AO, hW⟩
      case measure => simp [intOf]; omega
    ·
      have hltI : ¬ (mI : Int) < (z : Int) := by omega
      have hzmI : (z : Int) ≤ (mI : Int) := by omega
      have hzm : z ≤ mI := by omega
      have hex := ex_of key info k z hk255 (by omega)
      have hexq := Lib.hid hex
      clear hex hAL sAI_AL sAL_AI
      have hcI := hAI.cap
      have hzc : z ≤ cI := by omega
      rcases hAI.form with ⟨rfl, h2, h3⟩ | ⟨g, rfl, hgB, hgl⟩
      ·
        obtain rfl : cI = 0 := h3
        obtain rfl : k = 0 := by omega
        obtain rfl : mI = 0 := h2
        obtain rfl : z = 0 := by omega
        clear hmI hzm hzmI hcI hzc hkz hk255 hltI hlt hAI
        have hltI : ¬ ((0 : Nat) : Int) < ((0 : Nat) : Int) := by omega
        go_upto_region 8 with fail
        refine wl_lit ?_
        refine runL 34 (.slice none 0 0) rfl (by rfl) (by first | (go_simp; done) | (go_simp; rfl)) ?_
        simp only [List.set_cons_zero, List.set_cons_succ]
        refine runL 35 (.int .i64 ((0 : Nat) : Int)) rfl (by rfl) (by first | (go_simp; done) | (go_simp; rfl)) ?_
        simp only [List.set_cons_zero, List.set_cons_succ]
        refine runL 36 (.slice none 0 0) rfl (by rfl) (by first | (go_simp; done) | (go_simp; rfl)) ?_
        simp only [List.set_cons_zero, List.set_cons_succ]
        refine runL 6 (.slice none 0 0) rfl (by rfl) (by first | (go_simp; done) | (go_simp; rfl)) ?_
        simp only [List.set_cons_zero, List.set_cons_succ]
        refine nilL ?_
        go_wp2_with fail
        go_ret
        exact ⟨none, 0, rfl, Own.nil _ _, hW⟩
      ·
        go_upto_region 8 with fail
        refine wl_lit ?_
        refine runL 34 (.slice (some ⟨g, 0, none⟩) mI cI) rfl (by rfl) (by go_simp) ?_
        simp only [List.set_cons_zero, List.set_cons_succ]
        refine runL 35 (.int .i64 (z : Int)) rfl (by rfl) (by go_simp) ?_
        simp only [List.set_cons_zero, List.set_cons_succ]
        refine runL 36 (.slice (some ⟨g, 0, none⟩) z cI) rfl (by rfl) (by go_simp) ?_
        simp only [List.set_cons_zero, List.set_cons_succ]
        refine runL 6 (.slice (some ⟨g, 0, none⟩) z cI) rfl (by rfl) (by go_simp) ?_
        simp only [List.set_cons_zero, List.set_cons_succ]
        refine nilL ?_
        go_wp2_with fail
        go_ret
        exact ⟨_, _, rfl, (by have hx := hAI.take hzm; rwa [hexq.out] at hx), hW⟩
end Go.Proofs.YtcdmbknmmnaocaaDoor
