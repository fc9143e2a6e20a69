/-
  The walk of caissonlaw02.lives. (Printed by mkdg2.py.)
-/
import Derived.Test.YtbjgkolblfpakaaDoorDgB
namespace Go.Proofs.YtbjgkolblfpakaaDoor
open Go.RowKit Sh

set_option maxRecDepth 100000 in
set_option maxHeartbeats 8000000 in
theorem lives_any (w : World) (hg : Glob w) :
    Calls Tryd.prog 8 #[] w fun e w' => e = .returned (.bool true) ∧ Below w.heap.size w w' := by
  have hz8 : ∀ w : World, (zeroValue 23).run Tryd.prog w = .ok (.agg (va .u32 [0, 0, 0, 0, 0, 0, 0, 0])) w := fun _ => by kernel_rfl
  go_enter Tryd.func8, Tryd.ntmps8
  go_upto_region 1 with fail
  refine wp_region_lit ?_
  refine runP 3 (.agg (va .u32 dAbc)) rfl (by rfl) (exec_build 23 _ rfl (va .u32 dAbc) (by kernel_rfl)) ?_
  simp only [List.set_cons_zero, List.set_cons_succ]
  refine allocP 1 23 rfl (va .u32 [0, 0, 0, 0, 0, 0, 0, 0]) (hz8 _) rfl (by rfl) ?_
  simp only [List.set_cons_zero, List.set_cons_succ]
  refine storeP rfl (by rfl) 23 (.tmp 1) (.tmp 3) rfl w.heap.size rfl (va .u32 dAbc) rfl 23 (va .u32 [0, 0, 0, 0, 0, 0, 0, 0]) (Blk.new _ _ _) rfl (by kernel_rfl) (fun v hv => nv_one .u32 _ v (by simpa [va] using hv)) ?_
  rw [World.setRow_alloc_new]
  refine wpList_nil ?_
  go_upto_region 2 with fail
  refine wp_region_lit ?_
  refine runP 4 (.agg (va .u32 dLong)) rfl (by rfl) (exec_build 23 _ rfl (va .u32 dLong) (by kernel_rfl)) ?_
  simp only [List.set_cons_zero, List.set_cons_succ]
  refine allocP 2 23 rfl (va .u32 [0, 0, 0, 0, 0, 0, 0, 0]) (hz8 _) rfl (by rfl) ?_
  simp only [List.set_cons_zero, List.set_cons_succ]
  refine storeP rfl (by rfl) 23 (.tmp 2) (.tmp 4) rfl (w.alloc (.cells (va .u32 dAbc) 23)).heap.size rfl (va .u32 dLong) rfl 23 (va .u32 [0, 0, 0, 0, 0, 0, 0, 0]) (Blk.new _ _ _) rfl (by kernel_rfl) (fun v hv => nv_one .u32 _ v (by simpa [va] using hv)) ?_
  rw [World.setRow_alloc_new]
  refine wpList_nil ?_
  have hm : DlMem w.heap.size w ((w.alloc (.cells (va .u32 dAbc) 23)).alloc (.cells (va .u32 dLong) 23)) :=
    ⟨(Blk.new _ _ _).alloc _, Blk.newAt (by simp), ((Below.refl _ _).alloc (Nat.le_refl _) _).alloc (by simp) _⟩
  have hs1 : (w.alloc (.cells (va .u32 dAbc) 23)).heap.size = w.heap.size + 1 := by simp
  rw [hs1]
  clear hs1 hz8
  generalize (w.alloc (.cells (va .u32 dAbc) 23)).alloc (.cells (va .u32 dLong) 23) = w0 at *
  go_upto_region 3 with fail
  refine wp_region_lit ?_
  refine callP 5 rfl (by rfl) (fun K hK => wp_callF 14 #[.slice none 0 0] (by go_simp) (of_none _ (glob_freeze hg rfl hm)) ?_)
  rintro e w1 ⟨rfl, bx⟩
  refine ⟨_, rfl, hK.out _ _ ?_⟩
  clear hK K
  replace hm := hm.below bx
  clear bx
  simp only [List.set_cons_zero, List.set_cons_succ]
  refine runP 6 (.agg (va .u32 dNone)) rfl (by rfl) (exec_build 23 _ rfl (va .u32 dNone) (by kernel_rfl)) ?_
  simp only [List.set_cons_zero, List.set_cons_succ]
  refine callP 7 rfl (by rfl) (fun K hK => wp_callF 13 #[.agg (va .u8 (sha [])), .agg (va .u32 dNone)] (by go_simp) (is_none _) ?_)
  rintro e w2 ⟨rfl, bx⟩
  refine ⟨_, rfl, hK.out _ _ ?_⟩
  clear hK K
  replace hm := hm.below bx
  clear bx
  simp only [List.set_cons_zero, List.set_cons_succ]
  refine runP 8 (.bool false) rfl (by rfl) (by go_simp) ?_
  simp only [List.set_cons_zero, List.set_cons_succ]
  refine wpList_nil ?_
  have hmm := Lib.hid hm
  clear hm
  go_upto_region 5 with fail
  refine wp_region_held_drew (S := DlMem w.heap.size w) (by kernel_rfl) hmm.out.drew_ (fun hH => ?_)
  clear hmm
  refine takeH 33 4 13 (.agg (va .u32 dAbc)) rfl rfl (by kernel_rfl) (by kernel_rfl) (by kernel_rfl) (fun _ _ _ h => h) (yieldsIf_load_blk (by rfl) 23 (.tmp 1) rfl w.heap.size rfl 23 (va .u32 dAbc) _ (fun _ h => h.a) Tryd.underlying23 rfl (by kernel_rfl)) hH ?_
  simp only [List.set_cons_zero, List.set_cons_succ]
  have hS33 := hH
  refine wpAnyH_ready (rs := [0]) (by kernel_rfl) (by simp) ?_
  refine readyRun 32 0 9 (.slice (some ⟨w2.drew.heap.size, 0, none⟩) 3 3) (w2.drew.alloc (.cells (va .u8 [97, 98, 99]) 5)) rfl rfl (by rfl) (exec_bslice 30 3 _ rfl _ (by exact bs_abc _)) (hH.alloc_ _) (fun hH => ?_) ?_
  · simp only [List.set_cons_zero, List.set_cons_succ]
    have bg0 : Blk (w2.drew.alloc (.cells (va .u8 [97, 98, 99]) 5)) w2.drew.heap.size 5 (va .u8 [97, 98, 99]) := Blk.new _ _ _
    have lg0 : w.heap.size + 1 < w2.drew.heap.size := hS33.c.lt
    clear hS33
    generalize w2.drew.alloc (.cells (va .u8 [97, 98, 99]) 5) = v1 at *
    generalize w2.drew.heap.size = g0 at *
    have hS32 := hH
    refine wpAnyH_ready (rs := [1]) (by kernel_rfl) (by simp) ?_
    refine readyRun 31 1 10 (.slice (some ⟨g0, 0, none⟩) 3 3) (v1.freeze ⟨g0, 3, none⟩ 1) rfl rfl (by rfl) (exec_convW 30 30 _ rfl (.slice (some ⟨g0, 0, none⟩) 3 3) _ rfl (conv_blk bg0 (by rfl))) (hH.freeze_ _ _ lg0) (fun hH => ?_) ?_
    · simp only [List.set_cons_zero, List.set_cons_succ]
      replace bg0 := bg0.byB.freeze ⟨g0, 3, none⟩ 1
      clear hS32
      generalize v1.freeze ⟨g0, 3, none⟩ 1 = v2 at *
      have hS31 := hH
      refine wpAnyH_ready (rs := [2]) (by kernel_rfl) (by simp) ?_
      refine readyRun 30 2 11 (.slice (some ⟨v2.heap.size, 0, none⟩) 1 1) (v2.alloc (.cells #[.slice (some ⟨g0, 0, none⟩) 3 3] 30)) rfl rfl (by rfl) (exec_bslice 53 1 _ rfl _ (by exact bs_s1 g0 3 _)) (hH.alloc_ _) (fun hH => ?_) ?_
      · simp only [List.set_cons_zero, List.set_cons_succ]
        have hq2 : Blk (v2.alloc (.cells #[.slice (some ⟨g0, 0, none⟩) 3 3] 30)) v2.heap.size 30 #[.slice (some ⟨g0, 0, none⟩) 3 3] := Blk.new _ _ _
        replace bg0 := bg0.alloc (.cells #[.slice (some ⟨g0, 0, none⟩) 3 3] 30)
        clear hS31
        generalize v2.alloc (.cells #[.slice (some ⟨g0, 0, none⟩) 3 3] 30) = v3 at *
        generalize v2.heap.size = q2 at *
        have hS30 := hH
        refine wpAnyH_ready (rs := [3]) (by kernel_rfl) (by simp) ?_
        refine readyCons 29 3 12 rfl rfl (by rfl) (fun K hK => wp_callF 14 #[.slice (some ⟨q2, 0, none⟩) 1 1] (by go_simp) (ofB [97, 98, 99] 3 rfl (byt_of _ (by decide)) (by omega) _ (glob_freeze hg rfl hH) g0 q2 bg0 hq2) ?_) ?_
        · rintro e v4 ⟨rfl, bx⟩
          refine ⟨_, rfl, hK.out _ _ (hH.below bx) (fun hH => ?_)⟩
          clear hK K
          simp only [List.set_cons_zero, List.set_cons_succ]
          clear bx hS30 hq2 bg0 lg0
          have hS29 := hH
          refine wpAnyH_ready (rs := [5]) (by kernel_rfl) (by simp) ?_
          refine readyCons 28 5 14 rfl rfl (by rfl) (fun K hK => wp_callF 13 #[.agg (va .u8 (sha [97, 98, 99])), .agg (va .u32 dAbc)] (by go_simp) (isv_abc _) ?_) ?_
          · rintro e v5 ⟨rfl, bx⟩
            refine ⟨_, rfl, hK.out _ _ (hH.below bx) (fun hH => ?_)⟩
            clear hK K
            simp only [List.set_cons_zero, List.set_cons_succ]
            clear bx hS29
            refine takeH 27 6 15 (.bool true) rfl rfl (by kernel_rfl) (by kernel_rfl) (by kernel_rfl) (fun _ _ _ h => h) (Or.inl ⟨by rfl, fun w _ => by go_simp⟩) hH ?_
            simp only [List.set_cons_zero, List.set_cons_succ]
            refine takeH 26 13 22 (.agg (va .u32 dAbc)) rfl rfl (by kernel_rfl) (by kernel_rfl) (by kernel_rfl) (fun _ _ _ h => h) (yieldsIf_load_blk (by rfl) 23 (.tmp 1) rfl w.heap.size rfl 23 (va .u32 dAbc) _ (fun _ h => h.a) Tryd.underlying23 rfl (by kernel_rfl)) hH ?_
            simp only [List.set_cons_zero, List.set_cons_succ]
            have hS26 := hH
            refine wpAnyH_ready (rs := [7, 9]) (by kernel_rfl) (by simp) ?_
            refine readyRun 25 7 16 (.slice (some ⟨v5.heap.size, 0, none⟩) 1 1) (v5.alloc (.cells (va .u8 [97]) 5)) rfl rfl (by rfl) (exec_bslice 30 1 _ rfl _ (by exact bs_a _)) (hH.alloc_ _) (fun hH => ?_) ?_
            · simp only [List.set_cons_zero, List.set_cons_succ]
              have bg7 : Blk (v5.alloc (.cells (va .u8 [97]) 5)) v5.heap.size 5 (va .u8 [97]) := Blk.new _ _ _
              have lg7 : w.heap.size + 1 < v5.heap.size := hS26.c.lt
              clear hS26
              generalize v5.alloc (.cells (va .u8 [97]) 5) = v6 at *
              generalize v5.heap.size = g7 at *
              have hS25 := hH
              refine wpAnyH_ready (rs := [8, 9]) (by kernel_rfl) (by simp) ?_
              refine readyRun 24 8 17 (.slice (some ⟨g7, 0, none⟩) 1 1) (v6.freeze ⟨g7, 1, none⟩ 1) rfl rfl (by rfl) (exec_convW 30 30 _ rfl (.slice (some ⟨g7, 0, none⟩) 1 1) _ rfl (conv_blk bg7 (by rfl))) (hH.freeze_ _ _ lg7) (fun hH => ?_) ?_
              · simp only [List.set_cons_zero, List.set_cons_succ]
                replace bg7 := bg7.byB.freeze ⟨g7, 1, none⟩ 1
                clear hS25
                generalize v6.freeze ⟨g7, 1, none⟩ 1 = v7 at *
                have hS24 := hH
                refine wpAnyH_ready (rs := [9]) (by kernel_rfl) (by simp) ?_
                refine readyRun 23 9 18 (.slice (some ⟨v7.heap.size, 0, none⟩) 2 2) (v7.alloc (.cells (va .u8 [98, 99]) 5)) rfl rfl (by rfl) (exec_bslice 30 2 _ rfl _ (by exact bs_bc _)) (hH.alloc_ _) (fun hH => ?_) ?_
                · simp only [List.set_cons_zero, List.set_cons_succ]
                  have bg9 : Blk (v7.alloc (.cells (va .u8 [98, 99]) 5)) v7.heap.size 5 (va .u8 [98, 99]) := Blk.new _ _ _
                  have lg9 : w.heap.size + 1 < v7.heap.size := hS24.c.lt
                  replace bg7 := bg7.alloc (.cells (va .u8 [98, 99]) 5)
                  clear hS24
                  generalize v7.alloc (.cells (va .u8 [98, 99]) 5) = v8 at *
                  generalize v7.heap.size = g9 at *
                  have hS23 := hH
                  refine wpAnyH_ready (rs := [10]) (by kernel_rfl) (by simp) ?_
                  refine readyRun 22 10 19 (.slice (some ⟨g9, 0, none⟩) 2 2) (v8.freeze ⟨g9, 2, none⟩ 1) rfl rfl (by rfl) (exec_convW 30 30 _ rfl (.slice (some ⟨g9, 0, none⟩) 2 2) _ rfl (conv_blk bg9 (by rfl))) (hH.freeze_ _ _ lg9) (fun hH => ?_) ?_
                  · simp only [List.set_cons_zero, List.set_cons_succ]
                    replace bg9 := bg9.byB.freeze ⟨g9, 2, none⟩ 1
                    replace bg7 := bg7.freeze ⟨g9, 2, none⟩ 1
                    clear hS23
                    generalize v8.freeze ⟨g9, 2, none⟩ 1 = v9 at *
                    have hS22 := hH
                    refine wpAnyH_ready (rs := [11]) (by kernel_rfl) (by simp) ?_
                    refine readyRun 21 11 20 (.slice (some ⟨v9.heap.size, 0, none⟩) 2 2) (v9.alloc (.cells #[.slice (some ⟨g7, 0, none⟩) 1 1, .slice (some ⟨g9, 0, none⟩) 2 2] 30)) rfl rfl (by rfl) (exec_bslice 53 2 _ rfl _ (by exact bs_s2 g7 1 g9 2 _)) (hH.alloc_ _) (fun hH => ?_) ?_
                    · simp only [List.set_cons_zero, List.set_cons_succ]
                      have hq11 : Blk (v9.alloc (.cells #[.slice (some ⟨g7, 0, none⟩) 1 1, .slice (some ⟨g9, 0, none⟩) 2 2] 30)) v9.heap.size 30 #[.slice (some ⟨g7, 0, none⟩) 1 1, .slice (some ⟨g9, 0, none⟩) 2 2] := Blk.new _ _ _
                      replace bg7 := bg7.alloc (.cells #[.slice (some ⟨g7, 0, none⟩) 1 1, .slice (some ⟨g9, 0, none⟩) 2 2] 30)
                      replace bg9 := bg9.alloc (.cells #[.slice (some ⟨g7, 0, none⟩) 1 1, .slice (some ⟨g9, 0, none⟩) 2 2] 30)
                      clear hS22
                      generalize v9.alloc (.cells #[.slice (some ⟨g7, 0, none⟩) 1 1, .slice (some ⟨g9, 0, none⟩) 2 2] 30) = v10 at *
                      generalize v9.heap.size = q11 at *
                      have hS21 := hH
                      refine wpAnyH_ready (rs := [12]) (by kernel_rfl) (by simp) ?_
                      refine readyCons 20 12 21 rfl rfl (by rfl) (fun K hK => wp_callF 14 #[.slice (some ⟨q11, 0, none⟩) 2 2] (by go_simp) (ofB2 _ (glob_freeze hg rfl hH) g7 g9 q11 bg7 bg9 hq11) ?_) ?_
                      · rintro e v11 ⟨rfl, bx⟩
                        refine ⟨_, rfl, hK.out _ _ (hH.below bx) (fun hH => ?_)⟩
                        clear hK K
                        simp only [List.set_cons_zero, List.set_cons_succ]
                        clear bx hS21 hq11 bg7 bg9 lg7 lg9
                        have hS20 := hH
                        refine wpAnyH_ready (rs := [14]) (by kernel_rfl) (by simp) ?_
                        refine readyCons 19 14 23 rfl rfl (by rfl) (fun K hK => wp_callF 13 #[.agg (va .u8 (sha [97, 98, 99])), .agg (va .u32 dAbc)] (by go_simp) (isv_abc _) ?_) ?_
                        · rintro e v12 ⟨rfl, bx⟩
                          refine ⟨_, rfl, hK.out _ _ (hH.below bx) (fun hH => ?_)⟩
                          clear hK K
                          simp only [List.set_cons_zero, List.set_cons_succ]
                          clear bx hS20
                          refine takeH 18 15 24 (.bool true) rfl rfl (by kernel_rfl) (by kernel_rfl) (by kernel_rfl) (fun _ _ _ h => h) (Or.inl ⟨by rfl, fun w _ => by go_simp⟩) hH ?_
                          simp only [List.set_cons_zero, List.set_cons_succ]
                          refine takeH 17 16 25 (.bool true) rfl rfl (by kernel_rfl) (by kernel_rfl) (by kernel_rfl) (fun _ _ _ h => h) (Or.inl ⟨by rfl, fun w _ => by go_simp⟩) hH ?_
                          simp only [List.set_cons_zero, List.set_cons_succ]
                          refine takeH 16 22 31 (.agg (va .u32 dAbc)) rfl rfl (by kernel_rfl) (by kernel_rfl) (by kernel_rfl) (fun _ _ _ h => h) (yieldsIf_load_blk (by rfl) 23 (.tmp 1) rfl w.heap.size rfl 23 (va .u32 dAbc) _ (fun _ h => h.a) Tryd.underlying23 rfl (by kernel_rfl)) hH ?_
                          simp only [List.set_cons_zero, List.set_cons_succ]
                          have hS16 := hH
                          refine wpAnyH_ready (rs := [17, 18]) (by kernel_rfl) (by simp) ?_
                          refine readyCons 15 17 26 rfl rfl (by rfl) (fun K hK => wp_callF 15 #[] (by go_simp) (new_any _ (glob_freeze hg rfl hH)) ?_) ?_
                          · rintro e v13 ⟨rfl, bx⟩
                            refine ⟨_, rfl, hK.out _ _ (hH.below bx) (fun hH => ?_)⟩
                            clear hK K
                            simp only [List.set_cons_zero, List.set_cons_succ]
                            clear bx hS16
                            have hS15 := hH
                            refine wpAnyH_ready (rs := [18]) (by kernel_rfl) (by simp) ?_
                            refine readyRun 14 18 27 (.slice (some ⟨v13.heap.size, 0, none⟩) 3 3) (v13.alloc (.cells (va .u8 [97, 98, 99]) 5)) rfl rfl (by rfl) (exec_bslice 30 3 _ rfl _ (by exact bs_abc _)) (hH.alloc_ _) (fun hH => ?_) ?_
                            · simp only [List.set_cons_zero, List.set_cons_succ]
                              have bg18 : Blk (v13.alloc (.cells (va .u8 [97, 98, 99]) 5)) v13.heap.size 5 (va .u8 [97, 98, 99]) := Blk.new _ _ _
                              have lg18 : w.heap.size + 1 < v13.heap.size := hS15.c.lt
                              clear hS15
                              generalize v13.alloc (.cells (va .u8 [97, 98, 99]) 5) = v14 at *
                              generalize v13.heap.size = g18 at *
                              have hS14 := hH
                              refine wpAnyH_ready (rs := [19]) (by kernel_rfl) (by simp) ?_
                              refine readyRun 13 19 28 (.slice (some ⟨g18, 0, none⟩) 3 3) (v14.freeze ⟨g18, 3, none⟩ 1) rfl rfl (by rfl) (exec_convW 30 30 _ rfl (.slice (some ⟨g18, 0, none⟩) 3 3) _ rfl (conv_blk bg18 (by rfl))) (hH.freeze_ _ _ lg18) (fun hH => ?_) ?_
                              · simp only [List.set_cons_zero, List.set_cons_succ]
                                replace bg18 := bg18.byB.freeze ⟨g18, 3, none⟩ 1
                                clear hS14
                                generalize v14.freeze ⟨g18, 3, none⟩ 1 = v15 at *
                                have hS13 := hH
                                refine wpAnyH_ready (rs := [20]) (by kernel_rfl) (by simp) ?_
                                refine readyCons 12 20 29 rfl rfl (by rfl) (fun K hK => wp_callF 16 #[.agg (stL true hL z64 0), .slice (some ⟨g18, 0, none⟩) 3 3] (by go_simp) (writeB _ (glob_freeze hg rfl hH) g18 bg18) ?_) ?_
                                · rintro e v16 ⟨h', r', n', rfl, hn3, hok, bx⟩
                                  refine ⟨_, rfl, hK.out _ _ (hH.below bx) (fun hH => ?_)⟩
                                  clear hK K
                                  simp only [List.set_cons_zero, List.set_cons_succ]
                                  clear bx hS13 bg18 lg18
                                  have hS12 := hH
                                  refine wpAnyH_ready (rs := [21]) (by kernel_rfl) (by simp) ?_
                                  refine readyCons 11 21 30 rfl rfl (by rfl) (fun K hK => wp_callF 17 #[.agg (stL true h' r' n')] (by go_simp) (sum_n [97, 98, 99] h' r' n' hn3 hok (by omega) _ (glob_freeze hg rfl hH)) ?_) ?_
                                  · rintro e v17 ⟨rfl, bx⟩
                                    refine ⟨_, rfl, hK.out _ _ (hH.below bx) (fun hH => ?_)⟩
                                    clear hK K
                                    simp only [List.set_cons_zero, List.set_cons_succ]
                                    clear bx hS12 hok hn3
                                    have hS11 := hH
                                    refine wpAnyH_ready (rs := [23]) (by kernel_rfl) (by simp) ?_
                                    refine readyCons 10 23 32 rfl rfl (by rfl) (fun K hK => wp_callF 13 #[.agg (va .u8 (sha [97, 98, 99])), .agg (va .u32 dAbc)] (by go_simp) (isv_abc _) ?_) ?_
                                    · rintro e v18 ⟨rfl, bx⟩
                                      refine ⟨_, rfl, hK.out _ _ (hH.below bx) (fun hH => ?_)⟩
                                      clear hK K
                                      simp only [List.set_cons_zero, List.set_cons_succ]
                                      clear bx hS11
                                      refine takeH 9 24 33 (.bool true) rfl rfl (by kernel_rfl) (by kernel_rfl) (by kernel_rfl) (fun _ _ _ h => h) (Or.inl ⟨by rfl, fun w _ => by go_simp⟩) hH ?_
                                      simp only [List.set_cons_zero, List.set_cons_succ]
                                      refine takeH 8 25 34 (.bool true) rfl rfl (by kernel_rfl) (by kernel_rfl) (by kernel_rfl) (fun _ _ _ h => h) (Or.inl ⟨by rfl, fun w _ => by go_simp⟩) hH ?_
                                      simp only [List.set_cons_zero, List.set_cons_succ]
                                      refine takeH 7 30 39 (.agg (va .u32 dLong)) rfl rfl (by kernel_rfl) (by kernel_rfl) (by kernel_rfl) (fun _ _ _ h => h) (yieldsIf_load_blk (by rfl) 23 (.tmp 2) rfl (w.heap.size + 1) rfl 23 (va .u32 dLong) _ (fun _ h => h.c) Tryd.underlying23 rfl (by kernel_rfl)) hH ?_
                                      simp only [List.set_cons_zero, List.set_cons_succ]
                                      have hS7 := hH
                                      refine wpAnyH_ready (rs := [26]) (by kernel_rfl) (by simp) ?_
                                      refine readyRun 6 26 35 (.slice (some ⟨v18.heap.size, 0, none⟩) 56 56) (v18.alloc (.cells (va .u8 mLong) 5)) rfl rfl (by rfl) (exec_bslice 30 56 _ rfl _ (by exact run_long _)) (hH.alloc_ _) (fun hH => ?_) ?_
                                      · simp only [List.set_cons_zero, List.set_cons_succ]
                                        have bg26 : Blk (v18.alloc (.cells (va .u8 mLong) 5)) v18.heap.size 5 (va .u8 mLong) := Blk.new _ _ _
                                        have lg26 : w.heap.size + 1 < v18.heap.size := hS7.c.lt
                                        clear hS7
                                        generalize v18.alloc (.cells (va .u8 mLong) 5) = v19 at *
                                        generalize v18.heap.size = g26 at *
                                        have hS6 := hH
                                        refine wpAnyH_ready (rs := [27]) (by kernel_rfl) (by simp) ?_
                                        refine readyRun 5 27 36 (.slice (some ⟨g26, 0, none⟩) 56 56) (v19.freeze ⟨g26, 56, none⟩ 1) rfl rfl (by rfl) (exec_convW 30 30 _ rfl (.slice (some ⟨g26, 0, none⟩) 56 56) _ rfl (conv_blk bg26 (by rfl))) (hH.freeze_ _ _ lg26) (fun hH => ?_) ?_
                                        · simp only [List.set_cons_zero, List.set_cons_succ]
                                          replace bg26 := bg26.byB.freeze ⟨g26, 56, none⟩ 1
                                          clear hS6
                                          generalize v19.freeze ⟨g26, 56, none⟩ 1 = v20 at *
                                          have hS5 := hH
                                          refine wpAnyH_ready (rs := [28]) (by kernel_rfl) (by simp) ?_
                                          refine readyRun 4 28 37 (.slice (some ⟨v20.heap.size, 0, none⟩) 1 1) (v20.alloc (.cells #[.slice (some ⟨g26, 0, none⟩) 56 56] 30)) rfl rfl (by rfl) (exec_bslice 53 1 _ rfl _ (by exact bs_s1 g26 56 _)) (hH.alloc_ _) (fun hH => ?_) ?_
                                          · simp only [List.set_cons_zero, List.set_cons_succ]
                                            have hq28 : Blk (v20.alloc (.cells #[.slice (some ⟨g26, 0, none⟩) 56 56] 30)) v20.heap.size 30 #[.slice (some ⟨g26, 0, none⟩) 56 56] := Blk.new _ _ _
                                            replace bg26 := bg26.alloc (.cells #[.slice (some ⟨g26, 0, none⟩) 56 56] 30)
                                            clear hS5
                                            generalize v20.alloc (.cells #[.slice (some ⟨g26, 0, none⟩) 56 56] 30) = v21 at *
                                            generalize v20.heap.size = q28 at *
                                            have hS4 := hH
                                            refine wpAnyH_ready (rs := [29]) (by kernel_rfl) (by simp) ?_
                                            refine readyCons 3 29 38 rfl rfl (by rfl) (fun K hK => wp_callF 14 #[.slice (some ⟨q28, 0, none⟩) 1 1] (by go_simp) (ofB mLong 56 rfl (byt_of _ (by decide)) (by omega) _ (glob_freeze hg rfl hH) g26 q28 bg26 hq28) ?_) ?_
                                            · rintro e v22 ⟨rfl, bx⟩
                                              refine ⟨_, rfl, hK.out _ _ (hH.below bx) (fun hH => ?_)⟩
                                              clear hK K
                                              simp only [List.set_cons_zero, List.set_cons_succ]
                                              clear bx hS4 hq28 bg26 lg26
                                              have hS3 := hH
                                              refine wpAnyH_ready (rs := [31]) (by kernel_rfl) (by simp) ?_
                                              refine readyCons 2 31 40 rfl rfl (by rfl) (fun K hK => wp_callF 13 #[.agg (va .u8 (sha mLong)), .agg (va .u32 dLong)] (by go_simp) (isv_long _) ?_) ?_
                                              · rintro e v23 ⟨rfl, bx⟩
                                                refine ⟨_, rfl, hK.out _ _ (hH.below bx) (fun hH => ?_)⟩
                                                clear hK K
                                                simp only [List.set_cons_zero, List.set_cons_succ]
                                                clear bx hS3
                                                refine takeH 1 32 41 (.bool true) rfl rfl (by kernel_rfl) (by kernel_rfl) (by kernel_rfl) (fun _ _ _ h => h) (Or.inl ⟨by rfl, fun w _ => by go_simp⟩) hH ?_
                                                simp only [List.set_cons_zero, List.set_cons_succ]
                                                refine takeH 0 33 0 (.bool true) rfl rfl (by kernel_rfl) (by kernel_rfl) (by kernel_rfl) (fun _ _ _ h => h) (Or.inl ⟨by rfl, fun w _ => by go_simp⟩) hH ?_
                                                simp only [List.set_cons_zero]
                                                refine wpAnyH_done (by kernel_rfl) ?_ _
                                                go_wp2_with fail
                                                go_ret
                                                exact ⟨rfl, hH.bel⟩
                                              exact AllReadyH.nil
                                            exact AllReadyH.nil
                                          exact AllReadyH.nil
                                        exact AllReadyH.nil
                                      exact AllReadyH.nil
                                    exact AllReadyH.nil
                                  exact AllReadyH.nil
                                exact AllReadyH.nil
                              exact AllReadyH.nil
                            exact AllReadyH.nil
                          refine readyRun 15 18 27 (.slice (some ⟨v12.heap.size, 0, none⟩) 3 3) (v12.alloc (.cells (va .u8 [97, 98, 99]) 5)) rfl rfl (by rfl) (exec_bslice 30 3 _ rfl _ (by exact bs_abc _)) (hH.alloc_ _) (fun hH => ?_) ?_
                          · simp only [List.set_cons_zero, List.set_cons_succ]
                            have bg18 : Blk (v12.alloc (.cells (va .u8 [97, 98, 99]) 5)) v12.heap.size 5 (va .u8 [97, 98, 99]) := Blk.new _ _ _
                            have lg18 : w.heap.size + 1 < v12.heap.size := hS16.c.lt
                            clear hS16
                            generalize v12.alloc (.cells (va .u8 [97, 98, 99]) 5) = v24 at *
                            generalize v12.heap.size = g18 at *
                            have hS15 := hH
                            refine wpAnyH_ready (rs := [17, 19]) (by kernel_rfl) (by simp) ?_
                            refine readyCons 14 17 26 rfl rfl (by rfl) (fun K hK => wp_callF 15 #[] (by go_simp) (new_any _ (glob_freeze hg rfl hH)) ?_) ?_
                            · rintro e v25 ⟨rfl, bx⟩
                              refine ⟨_, rfl, hK.out _ _ (hH.below bx) (fun hH => ?_)⟩
                              clear hK K
                              simp only [List.set_cons_zero, List.set_cons_succ]
                              replace bg18 := bg18.below bx bg18.lt
                              clear bx hS15
                              have hS14 := hH
                              refine wpAnyH_ready (rs := [19]) (by kernel_rfl) (by simp) ?_
                              refine readyRun 13 19 28 (.slice (some ⟨g18, 0, none⟩) 3 3) (v25.freeze ⟨g18, 3, none⟩ 1) rfl rfl (by rfl) (exec_convW 30 30 _ rfl (.slice (some ⟨g18, 0, none⟩) 3 3) _ rfl (conv_blk bg18 (by rfl))) (hH.freeze_ _ _ lg18) (fun hH => ?_) ?_
                              · simp only [List.set_cons_zero, List.set_cons_succ]
                                replace bg18 := bg18.byB.freeze ⟨g18, 3, none⟩ 1
                                clear hS14
                                generalize v25.freeze ⟨g18, 3, none⟩ 1 = v26 at *
                                have hS13 := hH
                                refine wpAnyH_ready (rs := [20]) (by kernel_rfl) (by simp) ?_
                                refine readyCons 12 20 29 rfl rfl (by rfl) (fun K hK => wp_callF 16 #[.agg (stL true hL z64 0), .slice (some ⟨g18, 0, none⟩) 3 3] (by go_simp) (writeB _ (glob_freeze hg rfl hH) g18 bg18) ?_) ?_
                                · rintro e v27 ⟨h', r', n', rfl, hn3, hok, bx⟩
                                  refine ⟨_, rfl, hK.out _ _ (hH.below bx) (fun hH => ?_)⟩
                                  clear hK K
                                  simp only [List.set_cons_zero, List.set_cons_succ]
                                  clear bx hS13 bg18 lg18
                                  have hS12 := hH
                                  refine wpAnyH_ready (rs := [21]) (by kernel_rfl) (by simp) ?_
                                  refine readyCons 11 21 30 rfl rfl (by rfl) (fun K hK => wp_callF 17 #[.agg (stL true h' r' n')] (by go_simp) (sum_n [97, 98, 99] h' r' n' hn3 hok (by omega) _ (glob_freeze hg rfl hH)) ?_) ?_
                                  · rintro e v28 ⟨rfl, bx⟩
                                    refine ⟨_, rfl, hK.out _ _ (hH.below bx) (fun hH => ?_)⟩
                                    clear hK K
                                    simp only [List.set_cons_zero, List.set_cons_succ]
                                    clear bx hS12 hok hn3
                                    have hS11 := hH
                                    refine wpAnyH_ready (rs := [23]) (by kernel_rfl) (by simp) ?_
                                    refine readyCons 10 23 32 rfl rfl (by rfl) (fun K hK => wp_callF 13 #[.agg (va .u8 (sha [97, 98, 99])), .agg (va .u32 dAbc)] (by go_simp) (isv_abc _) ?_) ?_
                                    · rintro e v29 ⟨rfl, bx⟩
                                      refine ⟨_, rfl, hK.out _ _ (hH.below bx) (fun hH => ?_)⟩
                                      clear hK K
                                      simp only [List.set_cons_zero, List.set_cons_succ]
                                      clear bx hS11
                                      refine takeH 9 24 33 (.bool true) rfl rfl (by kernel_rfl) (by kernel_rfl) (by kernel_rfl) (fun _ _ _ h => h) (Or.inl ⟨by rfl, fun w _ => by go_simp⟩) hH ?_
                                      simp only [List.set_cons_zero, List.set_cons_succ]
                                      refine takeH 8 25 34 (.bool true) rfl rfl (by kernel_rfl) (by kernel_rfl) (by kernel_rfl) (fun _ _ _ h => h) (Or.inl ⟨by rfl, fun w _ => by go_simp⟩) hH ?_
                                      simp only [List.set_cons_zero, List.set_cons_succ]
                                      refine takeH 7 30 39 (.agg (va .u32 dLong)) rfl rfl (by kernel_rfl) (by kernel_rfl) (by kernel_rfl) (fun _ _ _ h => h) (yieldsIf_load_blk (by rfl) 23 (.tmp 2) rfl (w.heap.size + 1) rfl 23 (va .u32 dLong) _ (fun _ h => h.c) Tryd.underlying23 rfl (by kernel_rfl)) hH ?_
                                      simp only [List.set_cons_zero, List.set_cons_succ]
                                      have hS7 := hH
                                      refine wpAnyH_ready (rs := [26]) (by kernel_rfl) (by simp) ?_
                                      refine readyRun 6 26 35 (.slice (some ⟨v29.heap.size, 0, none⟩) 56 56) (v29.alloc (.cells (va .u8 mLong) 5)) rfl rfl (by rfl) (exec_bslice 30 56 _ rfl _ (by exact run_long _)) (hH.alloc_ _) (fun hH => ?_) ?_
                                      · simp only [List.set_cons_zero, List.set_cons_succ]
                                        have bg26 : Blk (v29.alloc (.cells (va .u8 mLong) 5)) v29.heap.size 5 (va .u8 mLong) := Blk.new _ _ _
                                        have lg26 : w.heap.size + 1 < v29.heap.size := hS7.c.lt
                                        clear hS7
                                        generalize v29.alloc (.cells (va .u8 mLong) 5) = v30 at *
                                        generalize v29.heap.size = g26 at *
                                        have hS6 := hH
                                        refine wpAnyH_ready (rs := [27]) (by kernel_rfl) (by simp) ?_
                                        refine readyRun 5 27 36 (.slice (some ⟨g26, 0, none⟩) 56 56) (v30.freeze ⟨g26, 56, none⟩ 1) rfl rfl (by rfl) (exec_convW 30 30 _ rfl (.slice (some ⟨g26, 0, none⟩) 56 56) _ rfl (conv_blk bg26 (by rfl))) (hH.freeze_ _ _ lg26) (fun hH => ?_) ?_
                                        · simp only [List.set_cons_zero, List.set_cons_succ]
                                          replace bg26 := bg26.byB.freeze ⟨g26, 56, none⟩ 1
                                          clear hS6
                                          generalize v30.freeze ⟨g26, 56, none⟩ 1 = v31 at *
                                          have hS5 := hH
                                          refine wpAnyH_ready (rs := [28]) (by kernel_rfl) (by simp) ?_
                                          refine readyRun 4 28 37 (.slice (some ⟨v31.heap.size, 0, none⟩) 1 1) (v31.alloc (.cells #[.slice (some ⟨g26, 0, none⟩) 56 56] 30)) rfl rfl (by rfl) (exec_bslice 53 1 _ rfl _ (by exact bs_s1 g26 56 _)) (hH.alloc_ _) (fun hH => ?_) ?_
                                          · simp only [List.set_cons_zero, List.set_cons_succ]
                                            have hq28 : Blk (v31.alloc (.cells #[.slice (some ⟨g26, 0, none⟩) 56 56] 30)) v31.heap.size 30 #[.slice (some ⟨g26, 0, none⟩) 56 56] := Blk.new _ _ _
                                            replace bg26 := bg26.alloc (.cells #[.slice (some ⟨g26, 0, none⟩) 56 56] 30)
                                            clear hS5
                                            generalize v31.alloc (.cells #[.slice (some ⟨g26, 0, none⟩) 56 56] 30) = v32 at *
                                            generalize v31.heap.size = q28 at *
                                            have hS4 := hH
                                            refine wpAnyH_ready (rs := [29]) (by kernel_rfl) (by simp) ?_
                                            refine readyCons 3 29 38 rfl rfl (by rfl) (fun K hK => wp_callF 14 #[.slice (some ⟨q28, 0, none⟩) 1 1] (by go_simp) (ofB mLong 56 rfl (byt_of _ (by decide)) (by omega) _ (glob_freeze hg rfl hH) g26 q28 bg26 hq28) ?_) ?_
                                            · rintro e v33 ⟨rfl, bx⟩
                                              refine ⟨_, rfl, hK.out _ _ (hH.below bx) (fun hH => ?_)⟩
                                              clear hK K
                                              simp only [List.set_cons_zero, List.set_cons_succ]
                                              clear bx hS4 hq28 bg26 lg26
                                              have hS3 := hH
                                              refine wpAnyH_ready (rs := [31]) (by kernel_rfl) (by simp) ?_
                                              refine readyCons 2 31 40 rfl rfl (by rfl) (fun K hK => wp_callF 13 #[.agg (va .u8 (sha mLong)), .agg (va .u32 dLong)] (by go_simp) (isv_long _) ?_) ?_
                                              · rintro e v34 ⟨rfl, bx⟩
                                                refine ⟨_, rfl, hK.out _ _ (hH.below bx) (fun hH => ?_)⟩
                                                clear hK K
                                                simp only [List.set_cons_zero, List.set_cons_succ]
                                                clear bx hS3
                                                refine takeH 1 32 41 (.bool true) rfl rfl (by kernel_rfl) (by kernel_rfl) (by kernel_rfl) (fun _ _ _ h => h) (Or.inl ⟨by rfl, fun w _ => by go_simp⟩) hH ?_
                                                simp only [List.set_cons_zero, List.set_cons_succ]
                                                refine takeH 0 33 0 (.bool true) rfl rfl (by kernel_rfl) (by kernel_rfl) (by kernel_rfl) (fun _ _ _ h => h) (Or.inl ⟨by rfl, fun w _ => by go_simp⟩) hH ?_
                                                simp only [List.set_cons_zero]
                                                refine wpAnyH_done (by kernel_rfl) ?_ _
                                                go_wp2_with fail
                                                go_ret
                                                exact ⟨rfl, hH.bel⟩
                                              exact AllReadyH.nil
                                            exact AllReadyH.nil
                                          exact AllReadyH.nil
                                        exact AllReadyH.nil
                                      exact AllReadyH.nil
                                    exact AllReadyH.nil
                                  exact AllReadyH.nil
                                exact AllReadyH.nil
                              exact AllReadyH.nil
                            refine readyRun 14 19 28 (.slice (some ⟨g18, 0, none⟩) 3 3) (v24.freeze ⟨g18, 3, none⟩ 1) rfl rfl (by rfl) (exec_convW 30 30 _ rfl (.slice (some ⟨g18, 0, none⟩) 3 3) _ rfl (conv_blk bg18 (by rfl))) (hH.freeze_ _ _ lg18) (fun hH => ?_) ?_
                            · simp only [List.set_cons_zero, List.set_cons_succ]
                              replace bg18 := bg18.byB.freeze ⟨g18, 3, none⟩ 1
                              clear hS15
                              generalize v24.freeze ⟨g18, 3, none⟩ 1 = v35 at *
                              have hS14 := hH
                              refine wpAnyH_ready (rs := [17]) (by kernel_rfl) (by simp) ?_
                              refine readyCons 13 17 26 rfl rfl (by rfl) (fun K hK => wp_callF 15 #[] (by go_simp) (new_any _ (glob_freeze hg rfl hH)) ?_) ?_
                              · rintro e v36 ⟨rfl, bx⟩
                                refine ⟨_, rfl, hK.out _ _ (hH.below bx) (fun hH => ?_)⟩
                                clear hK K
                                simp only [List.set_cons_zero, List.set_cons_succ]
                                replace bg18 := bg18.below bx bg18.lt
                                clear bx hS14
                                have hS13 := hH
                                refine wpAnyH_ready (rs := [20]) (by kernel_rfl) (by simp) ?_
                                refine readyCons 12 20 29 rfl rfl (by rfl) (fun K hK => wp_callF 16 #[.agg (stL true hL z64 0), .slice (some ⟨g18, 0, none⟩) 3 3] (by go_simp) (writeB _ (glob_freeze hg rfl hH) g18 bg18) ?_) ?_
                                · rintro e v37 ⟨h', r', n', rfl, hn3, hok, bx⟩
                                  refine ⟨_, rfl, hK.out _ _ (hH.below bx) (fun hH => ?_)⟩
                                  clear hK K
                                  simp only [List.set_cons_zero, List.set_cons_succ]
                                  clear bx hS13 bg18 lg18
                                  have hS12 := hH
                                  refine wpAnyH_ready (rs := [21]) (by kernel_rfl) (by simp) ?_
                                  refine readyCons 11 21 30 rfl rfl (by rfl) (fun K hK => wp_callF 17 #[.agg (stL true h' r' n')] (by go_simp) (sum_n [97, 98, 99] h' r' n' hn3 hok (by omega) _ (glob_freeze hg rfl hH)) ?_) ?_
                                  · rintro e v38 ⟨rfl, bx⟩
                                    refine ⟨_, rfl, hK.out _ _ (hH.below bx) (fun hH => ?_)⟩
                                    clear hK K
                                    simp only [List.set_cons_zero, List.set_cons_succ]
                                    clear bx hS12 hok hn3
                                    have hS11 := hH
                                    refine wpAnyH_ready (rs := [23]) (by kernel_rfl) (by simp) ?_
                                    refine readyCons 10 23 32 rfl rfl (by rfl) (fun K hK => wp_callF 13 #[.agg (va .u8 (sha [97, 98, 99])), .agg (va .u32 dAbc)] (by go_simp) (isv_abc _) ?_) ?_
                                    · rintro e v39 ⟨rfl, bx⟩
                                      refine ⟨_, rfl, hK.out _ _ (hH.below bx) (fun hH => ?_)⟩
                                      clear hK K
                                      simp only [List.set_cons_zero, List.set_cons_succ]
                                      clear bx hS11
                                      refine takeH 9 24 33 (.bool true) rfl rfl (by kernel_rfl) (by kernel_rfl) (by kernel_rfl) (fun _ _ _ h => h) (Or.inl ⟨by rfl, fun w _ => by go_simp⟩) hH ?_
                                      simp only [List.set_cons_zero, List.set_cons_succ]
                                      refine takeH 8 25 34 (.bool true) rfl rfl (by kernel_rfl) (by kernel_rfl) (by kernel_rfl) (fun _ _ _ h => h) (Or.inl ⟨by rfl, fun w _ => by go_simp⟩) hH ?_
                                      simp only [List.set_cons_zero, List.set_cons_succ]
                                      refine takeH 7 30 39 (.agg (va .u32 dLong)) rfl rfl (by kernel_rfl) (by kernel_rfl) (by kernel_rfl) (fun _ _ _ h => h) (yieldsIf_load_blk (by rfl) 23 (.tmp 2) rfl (w.heap.size + 1) rfl 23 (va .u32 dLong) _ (fun _ h => h.c) Tryd.underlying23 rfl (by kernel_rfl)) hH ?_
                                      simp only [List.set_cons_zero, List.set_cons_succ]
                                      have hS7 := hH
                                      refine wpAnyH_ready (rs := [26]) (by kernel_rfl) (by simp) ?_
                                      refine readyRun 6 26 35 (.slice (some ⟨v39.heap.size, 0, none⟩) 56 56) (v39.alloc (.cells (va .u8 mLong) 5)) rfl rfl (by rfl) (exec_bslice 30 56 _ rfl _ (by exact run_long _)) (hH.alloc_ _) (fun hH => ?_) ?_
                                      · simp only [List.set_cons_zero, List.set_cons_succ]
                                        have bg26 : Blk (v39.alloc (.cells (va .u8 mLong) 5)) v39.heap.size 5 (va .u8 mLong) := Blk.new _ _ _
                                        have lg26 : w.heap.size + 1 < v39.heap.size := hS7.c.lt
                                        clear hS7
                                        generalize v39.alloc (.cells (va .u8 mLong) 5) = v40 at *
                                        generalize v39.heap.size = g26 at *
                                        have hS6 := hH
                                        refine wpAnyH_ready (rs := [27]) (by kernel_rfl) (by simp) ?_
                                        refine readyRun 5 27 36 (.slice (some ⟨g26, 0, none⟩) 56 56) (v40.freeze ⟨g26, 56, none⟩ 1) rfl rfl (by rfl) (exec_convW 30 30 _ rfl (.slice (some ⟨g26, 0, none⟩) 56 56) _ rfl (conv_blk bg26 (by rfl))) (hH.freeze_ _ _ lg26) (fun hH => ?_) ?_
                                        · simp only [List.set_cons_zero, List.set_cons_succ]
                                          replace bg26 := bg26.byB.freeze ⟨g26, 56, none⟩ 1
                                          clear hS6
                                          generalize v40.freeze ⟨g26, 56, none⟩ 1 = v41 at *
                                          have hS5 := hH
                                          refine wpAnyH_ready (rs := [28]) (by kernel_rfl) (by simp) ?_
                                          refine readyRun 4 28 37 (.slice (some ⟨v41.heap.size, 0, none⟩) 1 1) (v41.alloc (.cells #[.slice (some ⟨g26, 0, none⟩) 56 56] 30)) rfl rfl (by rfl) (exec_bslice 53 1 _ rfl _ (by exact bs_s1 g26 56 _)) (hH.alloc_ _) (fun hH => ?_) ?_
                                          · simp only [List.set_cons_zero, List.set_cons_succ]
                                            have hq28 : Blk (v41.alloc (.cells #[.slice (some ⟨g26, 0, none⟩) 56 56] 30)) v41.heap.size 30 #[.slice (some ⟨g26, 0, none⟩) 56 56] := Blk.new _ _ _
                                            replace bg26 := bg26.alloc (.cells #[.slice (some ⟨g26, 0, none⟩) 56 56] 30)
                                            clear hS5
                                            generalize v41.alloc (.cells #[.slice (some ⟨g26, 0, none⟩) 56 56] 30) = v42 at *
                                            generalize v41.heap.size = q28 at *
                                            have hS4 := hH
                                            refine wpAnyH_ready (rs := [29]) (by kernel_rfl) (by simp) ?_
                                            refine readyCons 3 29 38 rfl rfl (by rfl) (fun K hK => wp_callF 14 #[.slice (some ⟨q28, 0, none⟩) 1 1] (by go_simp) (ofB mLong 56 rfl (byt_of _ (by decide)) (by omega) _ (glob_freeze hg rfl hH) g26 q28 bg26 hq28) ?_) ?_
                                            · rintro e v43 ⟨rfl, bx⟩
                                              refine ⟨_, rfl, hK.out _ _ (hH.below bx) (fun hH => ?_)⟩
                                              clear hK K
                                              simp only [List.set_cons_zero, List.set_cons_succ]
                                              clear bx hS4 hq28 bg26 lg26
                                              have hS3 := hH
                                              refine wpAnyH_ready (rs := [31]) (by kernel_rfl) (by simp) ?_
                                              refine readyCons 2 31 40 rfl rfl (by rfl) (fun K hK => wp_callF 13 #[.agg (va .u8 (sha mLong)), .agg (va .u32 dLong)] (by go_simp) (isv_long _) ?_) ?_
                                              · rintro e v44 ⟨rfl, bx⟩
                                                refine ⟨_, rfl, hK.out _ _ (hH.below bx) (fun hH => ?_)⟩
                                                clear hK K
                                                simp only [List.set_cons_zero, List.set_cons_succ]
                                                clear bx hS3
                                                refine takeH 1 32 41 (.bool true) rfl rfl (by kernel_rfl) (by kernel_rfl) (by kernel_rfl) (fun _ _ _ h => h) (Or.inl ⟨by rfl, fun w _ => by go_simp⟩) hH ?_
                                                simp only [List.set_cons_zero, List.set_cons_succ]
                                                refine takeH 0 33 0 (.bool true) rfl rfl (by kernel_rfl) (by kernel_rfl) (by kernel_rfl) (fun _ _ _ h => h) (Or.inl ⟨by rfl, fun w _ => by go_simp⟩) hH ?_
                                                simp only [List.set_cons_zero]
                                                refine wpAnyH_done (by kernel_rfl) ?_ _
                                                go_wp2_with fail
                                                go_ret
                                                exact ⟨rfl, hH.bel⟩
                                              exact AllReadyH.nil
                                            exact AllReadyH.nil
                                          exact AllReadyH.nil
                                        exact AllReadyH.nil
                                      exact AllReadyH.nil
                                    exact AllReadyH.nil
                                  exact AllReadyH.nil
                                exact AllReadyH.nil
                              exact AllReadyH.nil
                            exact AllReadyH.nil
                          exact AllReadyH.nil
                        exact AllReadyH.nil
                      exact AllReadyH.nil
                    exact AllReadyH.nil
                  exact AllReadyH.nil
                exact AllReadyH.nil
              refine readyRun 24 9 18 (.slice (some ⟨v6.heap.size, 0, none⟩) 2 2) (v6.alloc (.cells (va .u8 [98, 99]) 5)) rfl rfl (by rfl) (exec_bslice 30 2 _ rfl _ (by exact bs_bc _)) (hH.alloc_ _) (fun hH => ?_) ?_
              · simp only [List.set_cons_zero, List.set_cons_succ]
                have bg9 : Blk (v6.alloc (.cells (va .u8 [98, 99]) 5)) v6.heap.size 5 (va .u8 [98, 99]) := Blk.new _ _ _
                have lg9 : w.heap.size + 1 < v6.heap.size := hS25.c.lt
                have mg7g9 : g7 < v6.heap.size := bg7.lt
                replace bg7 := bg7.alloc (.cells (va .u8 [98, 99]) 5)
                clear hS25
                generalize v6.alloc (.cells (va .u8 [98, 99]) 5) = v45 at *
                generalize v6.heap.size = g9 at *
                have hS24 := hH
                refine wpAnyH_ready (rs := [8, 10]) (by kernel_rfl) (by simp) ?_
                refine readyRun 23 8 17 (.slice (some ⟨g7, 0, none⟩) 1 1) (v45.freeze ⟨g7, 1, none⟩ 1) rfl rfl (by rfl) (exec_convW 30 30 _ rfl (.slice (some ⟨g7, 0, none⟩) 1 1) _ rfl (conv_blk bg7 (by rfl))) (hH.freeze_ _ _ lg7) (fun hH => ?_) ?_
                · simp only [List.set_cons_zero, List.set_cons_succ]
                  replace bg7 := bg7.byB.freeze ⟨g7, 1, none⟩ 1
                  replace bg9 := bg9.freeze_ ⟨g7, 1, none⟩ 1 (show g7 ≠ g9 by omega)
                  clear hS24
                  generalize v45.freeze ⟨g7, 1, none⟩ 1 = v46 at *
                  have hS23 := hH
                  refine wpAnyH_ready (rs := [10]) (by kernel_rfl) (by simp) ?_
                  refine readyRun 22 10 19 (.slice (some ⟨g9, 0, none⟩) 2 2) (v46.freeze ⟨g9, 2, none⟩ 1) rfl rfl (by rfl) (exec_convW 30 30 _ rfl (.slice (some ⟨g9, 0, none⟩) 2 2) _ rfl (conv_blk bg9 (by rfl))) (hH.freeze_ _ _ lg9) (fun hH => ?_) ?_
                  · simp only [List.set_cons_zero, List.set_cons_succ]
                    replace bg9 := bg9.byB.freeze ⟨g9, 2, none⟩ 1
                    replace bg7 := bg7.freeze ⟨g9, 2, none⟩ 1
                    clear hS23
                    generalize v46.freeze ⟨g9, 2, none⟩ 1 = v47 at *
                    have hS22 := hH
                    refine wpAnyH_ready (rs := [11]) (by kernel_rfl) (by simp) ?_
                    refine readyRun 21 11 20 (.slice (some ⟨v47.heap.size, 0, none⟩) 2 2) (v47.alloc (.cells #[.slice (some ⟨g7, 0, none⟩) 1 1, .slice (some ⟨g9, 0, none⟩) 2 2] 30)) rfl rfl (by rfl) (exec_bslice 53 2 _ rfl _ (by exact bs_s2 g7 1 g9 2 _)) (hH.alloc_ _) (fun hH => ?_) ?_
                    · simp only [List.set_cons_zero, List.set_cons_succ]
                      have hq11 : Blk (v47.alloc (.cells #[.slice (some ⟨g7, 0, none⟩) 1 1, .slice (some ⟨g9, 0, none⟩) 2 2] 30)) v47.heap.size 30 #[.slice (some ⟨g7, 0, none⟩) 1 1, .slice (some ⟨g9, 0, none⟩) 2 2] := Blk.new _ _ _
                      replace bg7 := bg7.alloc (.cells #[.slice (some ⟨g7, 0, none⟩) 1 1, .slice (some ⟨g9, 0, none⟩) 2 2] 30)
                      replace bg9 := bg9.alloc (.cells #[.slice (some ⟨g7, 0, none⟩) 1 1, .slice (some ⟨g9, 0, none⟩) 2 2] 30)
                      clear hS22
                      generalize v47.alloc (.cells #[.slice (some ⟨g7, 0, none⟩) 1 1, .slice (some ⟨g9, 0, none⟩) 2 2] 30) = v48 at *
                      generalize v47.heap.size = q11 at *
                      have hS21 := hH
                      refine wpAnyH_ready (rs := [12]) (by kernel_rfl) (by simp) ?_
                      refine readyCons 20 12 21 rfl rfl (by rfl) (fun K hK => wp_callF 14 #[.slice (some ⟨q11, 0, none⟩) 2 2] (by go_simp) (ofB2 _ (glob_freeze hg rfl hH) g7 g9 q11 bg7 bg9 hq11) ?_) ?_
                      · rintro e v49 ⟨rfl, bx⟩
                        refine ⟨_, rfl, hK.out _ _ (hH.below bx) (fun hH => ?_)⟩
                        clear hK K
                        simp only [List.set_cons_zero, List.set_cons_succ]
                        clear bx hS21 hq11 bg7 bg9 lg7 lg9
                        have hS20 := hH
                        refine wpAnyH_ready (rs := [14]) (by kernel_rfl) (by simp) ?_
                        refine readyCons 19 14 23 rfl rfl (by rfl) (fun K hK => wp_callF 13 #[.agg (va .u8 (sha [97, 98, 99])), .agg (va .u32 dAbc)] (by go_simp) (isv_abc _) ?_) ?_
                        · rintro e v50 ⟨rfl, bx⟩
                          refine ⟨_, rfl, hK.out _ _ (hH.below bx) (fun hH => ?_)⟩
                          clear hK K
                          simp only [List.set_cons_zero, List.set_cons_succ]
                          clear bx hS20
                          refine takeH 18 15 24 (.bool true) rfl rfl (by kernel_rfl) (by kernel_rfl) (by kernel_rfl) (fun _ _ _ h => h) (Or.inl ⟨by rfl, fun w _ => by go_simp⟩) hH ?_
                          simp only [List.set_cons_zero, List.set_cons_succ]
                          refine takeH 17 16 25 (.bool true) rfl rfl (by kernel_rfl) (by kernel_rfl) (by kernel_rfl) (fun _ _ _ h => h) (Or.inl ⟨by rfl, fun w _ => by go_simp⟩) hH ?_
                          simp only [List.set_cons_zero, List.set_cons_succ]
                          refine takeH 16 22 31 (.agg (va .u32 dAbc)) rfl rfl (by kernel_rfl) (by kernel_rfl) (by kernel_rfl) (fun _ _ _ h => h) (yieldsIf_load_blk (by rfl) 23 (.tmp 1) rfl w.heap.size rfl 23 (va .u32 dAbc) _ (fun _ h => h.a) Tryd.underlying23 rfl (by kernel_rfl)) hH ?_
                          simp only [List.set_cons_zero, List.set_cons_succ]
                          have hS16 := hH
                          refine wpAnyH_ready (rs := [17, 18]) (by kernel_rfl) (by simp) ?_
                          refine readyCons 15 17 26 rfl rfl (by rfl) (fun K hK => wp_callF 15 #[] (by go_simp) (new_any _ (glob_freeze hg rfl hH)) ?_) ?_
                          · rintro e v51 ⟨rfl, bx⟩
                            refine ⟨_, rfl, hK.out _ _ (hH.below bx) (fun hH => ?_)⟩
                            clear hK K
                            simp only [List.set_cons_zero, List.set_cons_succ]
                            clear bx hS16
                            have hS15 := hH
                            refine wpAnyH_ready (rs := [18]) (by kernel_rfl) (by simp) ?_
                            refine readyRun 14 18 27 (.slice (some ⟨v51.heap.size, 0, none⟩) 3 3) (v51.alloc (.cells (va .u8 [97, 98, 99]) 5)) rfl rfl (by rfl) (exec_bslice 30 3 _ rfl _ (by exact bs_abc _)) (hH.alloc_ _) (fun hH => ?_) ?_
                            · simp only [List.set_cons_zero, List.set_cons_succ]
                              have bg18 : Blk (v51.alloc (.cells (va .u8 [97, 98, 99]) 5)) v51.heap.size 5 (va .u8 [97, 98, 99]) := Blk.new _ _ _
                              have lg18 : w.heap.size + 1 < v51.heap.size := hS15.c.lt
                              clear hS15
                              generalize v51.alloc (.cells (va .u8 [97, 98, 99]) 5) = v52 at *
                              generalize v51.heap.size = g18 at *
                              have hS14 := hH
                              refine wpAnyH_ready (rs := [19]) (by kernel_rfl) (by simp) ?_
                              refine readyRun 13 19 28 (.slice (some ⟨g18, 0, none⟩) 3 3) (v52.freeze ⟨g18, 3, none⟩ 1) rfl rfl (by rfl) (exec_convW 30 30 _ rfl (.slice (some ⟨g18, 0, none⟩) 3 3) _ rfl (conv_blk bg18 (by rfl))) (hH.freeze_ _ _ lg18) (fun hH => ?_) ?_
                              · simp only [List.set_cons_zero, List.set_cons_succ]
                                replace bg18 := bg18.byB.freeze ⟨g18, 3, none⟩ 1
                                clear hS14
                                generalize v52.freeze ⟨g18, 3, none⟩ 1 = v53 at *
                                have hS13 := hH
                                refine wpAnyH_ready (rs := [20]) (by kernel_rfl) (by simp) ?_
                                refine readyCons 12 20 29 rfl rfl (by rfl) (fun K hK => wp_callF 16 #[.agg (stL true hL z64 0), .slice (some ⟨g18, 0, none⟩) 3 3] (by go_simp) (writeB _ (glob_freeze hg rfl hH) g18 bg18) ?_) ?_
                                · rintro e v54 ⟨h', r', n', rfl, hn3, hok, bx⟩
                                  refine ⟨_, rfl, hK.out _ _ (hH.below bx) (fun hH => ?_)⟩
                                  clear hK K
                                  simp only [List.set_cons_zero, List.set_cons_succ]
                                  clear bx hS13 bg18 lg18
                                  have hS12 := hH
                                  refine wpAnyH_ready (rs := [21]) (by kernel_rfl) (by simp) ?_
                                  refine readyCons 11 21 30 rfl rfl (by rfl) (fun K hK => wp_callF 17 #[.agg (stL true h' r' n')] (by go_simp) (sum_n [97, 98, 99] h' r' n' hn3 hok (by omega) _ (glob_freeze hg rfl hH)) ?_) ?_
                                  · rintro e v55 ⟨rfl, bx⟩
                                    refine ⟨_, rfl, hK.out _ _ (hH.below bx) (fun hH => ?_)⟩
                                    clear hK K
                                    simp only [List.set_cons_zero, List.set_cons_succ]
                                    clear bx hS12 hok hn3
                                    have hS11 := hH
                                    refine wpAnyH_ready (rs := [23]) (by kernel_rfl) (by simp) ?_
                                    refine readyCons 10 23 32 rfl rfl (by rfl) (fun K hK => wp_callF 13 #[.agg (va .u8 (sha [97, 98, 99])), .agg (va .u32 dAbc)] (by go_simp) (isv_abc _) ?_) ?_
                                    · rintro e v56 ⟨rfl, bx⟩
                                      refine ⟨_, rfl, hK.out _ _ (hH.below bx) (fun hH => ?_)⟩
                                      clear hK K
                                      simp only [List.set_cons_zero, List.set_cons_succ]
                                      clear bx hS11
                                      refine takeH 9 24 33 (.bool true) rfl rfl (by kernel_rfl) (by kernel_rfl) (by kernel_rfl) (fun _ _ _ h => h) (Or.inl ⟨by rfl, fun w _ => by go_simp⟩) hH ?_
                                      simp only [List.set_cons_zero, List.set_cons_succ]
                                      refine takeH 8 25 34 (.bool true) rfl rfl (by kernel_rfl) (by kernel_rfl) (by kernel_rfl) (fun _ _ _ h => h) (Or.inl ⟨by rfl, fun w _ => by go_simp⟩) hH ?_
                                      simp only [List.set_cons_zero, List.set_cons_succ]
                                      refine takeH 7 30 39 (.agg (va .u32 dLong)) rfl rfl (by kernel_rfl) (by kernel_rfl) (by kernel_rfl) (fun _ _ _ h => h) (yieldsIf_load_blk (by rfl) 23 (.tmp 2) rfl (w.heap.size + 1) rfl 23 (va .u32 dLong) _ (fun _ h => h.c) Tryd.underlying23 rfl (by kernel_rfl)) hH ?_
                                      simp only [List.set_cons_zero, List.set_cons_succ]
                                      have hS7 := hH
                                      refine wpAnyH_ready (rs := [26]) (by kernel_rfl) (by simp) ?_
                                      refine readyRun 6 26 35 (.slice (some ⟨v56.heap.size, 0, none⟩) 56 56) (v56.alloc (.cells (va .u8 mLong) 5)) rfl rfl (by rfl) (exec_bslice 30 56 _ rfl _ (by exact run_long _)) (hH.alloc_ _) (fun hH => ?_) ?_
                                      · simp only [List.set_cons_zero, List.set_cons_succ]
                                        have bg26 : Blk (v56.alloc (.cells (va .u8 mLong) 5)) v56.heap.size 5 (va .u8 mLong) := Blk.new _ _ _
                                        have lg26 : w.heap.size + 1 < v56.heap.size := hS7.c.lt
                                        clear hS7
                                        generalize v56.alloc (.cells (va .u8 mLong) 5) = v57 at *
                                        generalize v56.heap.size = g26 at *
                                        have hS6 := hH
                                        refine wpAnyH_ready (rs := [27]) (by kernel_rfl) (by simp) ?_
                                        refine readyRun 5 27 36 (.slice (some ⟨g26, 0, none⟩) 56 56) (v57.freeze ⟨g26, 56, none⟩ 1) rfl rfl (by rfl) (exec_convW 30 30 _ rfl (.slice (some ⟨g26, 0, none⟩) 56 56) _ rfl (conv_blk bg26 (by rfl))) (hH.freeze_ _ _ lg26) (fun hH => ?_) ?_
                                        · simp only [List.set_cons_zero, List.set_cons_succ]
                                          replace bg26 := bg26.byB.freeze ⟨g26, 56, none⟩ 1
                                          clear hS6
                                          generalize v57.freeze ⟨g26, 56, none⟩ 1 = v58 at *
                                          have hS5 := hH
                                          refine wpAnyH_ready (rs := [28]) (by kernel_rfl) (by simp) ?_
                                          refine readyRun 4 28 37 (.slice (some ⟨v58.heap.size, 0, none⟩) 1 1) (v58.alloc (.cells #[.slice (some ⟨g26, 0, none⟩) 56 56] 30)) rfl rfl (by rfl) (exec_bslice 53 1 _ rfl _ (by exact bs_s1 g26 56 _)) (hH.alloc_ _) (fun hH => ?_) ?_
                                          · simp only [List.set_cons_zero, List.set_cons_succ]
                                            have hq28 : Blk (v58.alloc (.cells #[.slice (some ⟨g26, 0, none⟩) 56 56] 30)) v58.heap.size 30 #[.slice (some ⟨g26, 0, none⟩) 56 56] := Blk.new _ _ _
                                            replace bg26 := bg26.alloc (.cells #[.slice (some ⟨g26, 0, none⟩) 56 56] 30)
                                            clear hS5
                                            generalize v58.alloc (.cells #[.slice (some ⟨g26, 0, none⟩) 56 56] 30) = v59 at *
                                            generalize v58.heap.size = q28 at *
                                            have hS4 := hH
                                            refine wpAnyH_ready (rs := [29]) (by kernel_rfl) (by simp) ?_
                                            refine readyCons 3 29 38 rfl rfl (by rfl) (fun K hK => wp_callF 14 #[.slice (some ⟨q28, 0, none⟩) 1 1] (by go_simp) (ofB mLong 56 rfl (byt_of _ (by decide)) (by omega) _ (glob_freeze hg rfl hH) g26 q28 bg26 hq28) ?_) ?_
                                            · rintro e v60 ⟨rfl, bx⟩
                                              refine ⟨_, rfl, hK.out _ _ (hH.below bx) (fun hH => ?_)⟩
                                              clear hK K
                                              simp only [List.set_cons_zero, List.set_cons_succ]
                                              clear bx hS4 hq28 bg26 lg26
                                              have hS3 := hH
                                              refine wpAnyH_ready (rs := [31]) (by kernel_rfl) (by simp) ?_
                                              refine readyCons 2 31 40 rfl rfl (by rfl) (fun K hK => wp_callF 13 #[.agg (va .u8 (sha mLong)), .agg (va .u32 dLong)] (by go_simp) (isv_long _) ?_) ?_
                                              · rintro e v61 ⟨rfl, bx⟩
                                                refine ⟨_, rfl, hK.out _ _ (hH.below bx) (fun hH => ?_)⟩
                                                clear hK K
                                                simp only [List.set_cons_zero, List.set_cons_succ]
                                                clear bx hS3
                                                refine takeH 1 32 41 (.bool true) rfl rfl (by kernel_rfl) (by kernel_rfl) (by kernel_rfl) (fun _ _ _ h => h) (Or.inl ⟨by rfl, fun w _ => by go_simp⟩) hH ?_
                                                simp only [List.set_cons_zero, List.set_cons_succ]
                                                refine takeH 0 33 0 (.bool true) rfl rfl (by kernel_rfl) (by kernel_rfl) (by kernel_rfl) (fun _ _ _ h => h) (Or.inl ⟨by rfl, fun w _ => by go_simp⟩) hH ?_
                                                simp only [List.set_cons_zero]
                                                refine wpAnyH_done (by kernel_rfl) ?_ _
                                                go_wp2_with fail
                                                go_ret
                                                exact ⟨rfl, hH.bel⟩
                                              exact AllReadyH.nil
                                            exact AllReadyH.nil
                                          exact AllReadyH.nil
                                        exact AllReadyH.nil
                                      exact AllReadyH.nil
                                    exact AllReadyH.nil
                                  exact AllReadyH.nil
                                exact AllReadyH.nil
                              exact AllReadyH.nil
                            exact AllReadyH.nil
                          refine readyRun 15 18 27 (.slice (some ⟨v50.heap.size, 0, none⟩) 3 3) (v50.alloc (.cells (va .u8 [97, 98, 99]) 5)) rfl rfl (by rfl) (exec_bslice 30 3 _ rfl _ (by exact bs_abc _)) (hH.alloc_ _) (fun hH => ?_) ?_
                          · simp only [List.set_cons_zero, List.set_cons_succ]
                            have bg18 : Blk (v50.alloc (.cells (va .u8 [97, 98, 99]) 5)) v50.heap.size 5 (va .u8 [97, 98, 99]) := Blk.new _ _ _
                            have lg18 : w.heap.size + 1 < v50.heap.size := hS16.c.lt
                            clear hS16
                            generalize v50.alloc (.cells (va .u8 [97, 98, 99]) 5) = v62 at *
                            generalize v50.heap.size = g18 at *
                            have hS15 := hH
                            refine wpAnyH_ready (rs := [17, 19]) (by kernel_rfl) (by simp) ?_
                            refine readyCons 14 17 26 rfl rfl (by rfl) (fun K hK => wp_callF 15 #[] (by go_simp) (new_any _ (glob_freeze hg rfl hH)) ?_) ?_
                            · rintro e v63 ⟨rfl, bx⟩
                              refine ⟨_, rfl, hK.out _ _ (hH.below bx) (fun hH => ?_)⟩
                              clear hK K
                              simp only [List.set_cons_zero, List.set_cons_succ]
                              replace bg18 := bg18.below bx bg18.lt
                              clear bx hS15
                              have hS14 := hH
                              refine wpAnyH_ready (rs := [19]) (by kernel_rfl) (by simp) ?_
                              refine readyRun 13 19 28 (.slice (some ⟨g18, 0, none⟩) 3 3) (v63.freeze ⟨g18, 3, none⟩ 1) rfl rfl (by rfl) (exec_convW 30 30 _ rfl (.slice (some ⟨g18, 0, none⟩) 3 3) _ rfl (conv_blk bg18 (by rfl))) (hH.freeze_ _ _ lg18) (fun hH => ?_) ?_
                              · simp only [List.set_cons_zero, List.set_cons_succ]
                                replace bg18 := bg18.byB.freeze ⟨g18, 3, none⟩ 1
                                clear hS14
                                generalize v63.freeze ⟨g18, 3, none⟩ 1 = v64 at *
                                have hS13 := hH
                                refine wpAnyH_ready (rs := [20]) (by kernel_rfl) (by simp) ?_
                                refine readyCons 12 20 29 rfl rfl (by rfl) (fun K hK => wp_callF 16 #[.agg (stL true hL z64 0), .slice (some ⟨g18, 0, none⟩) 3 3] (by go_simp) (writeB _ (glob_freeze hg rfl hH) g18 bg18) ?_) ?_
                                · rintro e v65 ⟨h', r', n', rfl, hn3, hok, bx⟩
                                  refine ⟨_, rfl, hK.out _ _ (hH.below bx) (fun hH => ?_)⟩
                                  clear hK K
                                  simp only [List.set_cons_zero, List.set_cons_succ]
                                  clear bx hS13 bg18 lg18
                                  have hS12 := hH
                                  refine wpAnyH_ready (rs := [21]) (by kernel_rfl) (by simp) ?_
                                  refine readyCons 11 21 30 rfl rfl (by rfl) (fun K hK => wp_callF 17 #[.agg (stL true h' r' n')] (by go_simp) (sum_n [97, 98, 99] h' r' n' hn3 hok (by omega) _ (glob_freeze hg rfl hH)) ?_) ?_
                                  · rintro e v66 ⟨rfl, bx⟩
                                    refine ⟨_, rfl, hK.out _ _ (hH.below bx) (fun hH => ?_)⟩
                                    clear hK K
                                    simp only [List.set_cons_zero, List.set_cons_succ]
                                    clear bx hS12 hok hn3
                                    have hS11 := hH
                                    refine wpAnyH_ready (rs := [23]) (by kernel_rfl) (by simp) ?_
                                    refine readyCons 10 23 32 rfl rfl (by rfl) (fun K hK => wp_callF 13 #[.agg (va .u8 (sha [97, 98, 99])), .agg (va .u32 dAbc)] (by go_simp) (isv_abc _) ?_) ?_
                                    · rintro e v67 ⟨rfl, bx⟩
                                      refine ⟨_, rfl, hK.out _ _ (hH.below bx) (fun hH => ?_)⟩
                                      clear hK K
                                      simp only [List.set_cons_zero, List.set_cons_succ]
                                      clear bx hS11
                                      refine takeH 9 24 33 (.bool true) rfl rfl (by kernel_rfl) (by kernel_rfl) (by kernel_rfl) (fun _ _ _ h => h) (Or.inl ⟨by rfl, fun w _ => by go_simp⟩) hH ?_
                                      simp only [List.set_cons_zero, List.set_cons_succ]
                                      refine takeH 8 25 34 (.bool true) rfl rfl (by kernel_rfl) (by kernel_rfl) (by kernel_rfl) (fun _ _ _ h => h) (Or.inl ⟨by rfl, fun w _ => by go_simp⟩) hH ?_
                                      simp only [List.set_cons_zero, List.set_cons_succ]
                                      refine takeH 7 30 39 (.agg (va .u32 dLong)) rfl rfl (by kernel_rfl) (by kernel_rfl) (by kernel_rfl) (fun _ _ _ h => h) (yieldsIf_load_blk (by rfl) 23 (.tmp 2) rfl (w.heap.size + 1) rfl 23 (va .u32 dLong) _ (fun _ h => h.c) Tryd.underlying23 rfl (by kernel_rfl)) hH ?_
                                      simp only [List.set_cons_zero, List.set_cons_succ]
                                      have hS7 := hH
                                      refine wpAnyH_ready (rs := [26]) (by kernel_rfl) (by simp) ?_
                                      refine readyRun 6 26 35 (.slice (some ⟨v67.heap.size, 0, none⟩) 56 56) (v67.alloc (.cells (va .u8 mLong) 5)) rfl rfl (by rfl) (exec_bslice 30 56 _ rfl _ (by exact run_long _)) (hH.alloc_ _) (fun hH => ?_) ?_
                                      · simp only [List.set_cons_zero, List.set_cons_succ]
                                        have bg26 : Blk (v67.alloc (.cells (va .u8 mLong) 5)) v67.heap.size 5 (va .u8 mLong) := Blk.new _ _ _
                                        have lg26 : w.heap.size + 1 < v67.heap.size := hS7.c.lt
                                        clear hS7
                                        generalize v67.alloc (.cells (va .u8 mLong) 5) = v68 at *
                                        generalize v67.heap.size = g26 at *
                                        have hS6 := hH
                                        refine wpAnyH_ready (rs := [27]) (by kernel_rfl) (by simp) ?_
                                        refine readyRun 5 27 36 (.slice (some ⟨g26, 0, none⟩) 56 56) (v68.freeze ⟨g26, 56, none⟩ 1) rfl rfl (by rfl) (exec_convW 30 30 _ rfl (.slice (some ⟨g26, 0, none⟩) 56 56) _ rfl (conv_blk bg26 (by rfl))) (hH.freeze_ _ _ lg26) (fun hH => ?_) ?_
                                        · simp only [List.set_cons_zero, List.set_cons_succ]
                                          replace bg26 := bg26.byB.freeze ⟨g26, 56, none⟩ 1
                                          clear hS6
                                          generalize v68.freeze ⟨g26, 56, none⟩ 1 = v69 at *
                                          have hS5 := hH
                                          refine wpAnyH_ready (rs := [28]) (by kernel_rfl) (by simp) ?_
                                          refine readyRun 4 28 37 (.slice (some ⟨v69.heap.size, 0, none⟩) 1 1) (v69.alloc (.cells #[.slice (some ⟨g26, 0, none⟩) 56 56] 30)) rfl rfl (by rfl) (exec_bslice 53 1 _ rfl _ (by exact bs_s1 g26 56 _)) (hH.alloc_ _) (fun hH => ?_) ?_
                                          · simp only [List.set_cons_zero, List.set_cons_succ]
                                            have hq28 : Blk (v69.alloc (.cells #[.slice (some ⟨g26, 0, none⟩) 56 56] 30)) v69.heap.size 30 #[.slice (some ⟨g26, 0, none⟩) 56 56] := Blk.new _ _ _
                                            replace bg26 := bg26.alloc (.cells #[.slice (some ⟨g26, 0, none⟩) 56 56] 30)
                                            clear hS5
                                            generalize v69.alloc (.cells #[.slice (some ⟨g26, 0, none⟩) 56 56] 30) = v70 at *
                                            generalize v69.heap.size = q28 at *
                                            have hS4 := hH
                                            refine wpAnyH_ready (rs := [29]) (by kernel_rfl) (by simp) ?_
                                            refine readyCons 3 29 38 rfl rfl (by rfl) (fun K hK => wp_callF 14 #[.slice (some ⟨q28, 0, none⟩) 1 1] (by go_simp) (ofB mLong 56 rfl (byt_of _ (by decide)) (by omega) _ (glob_freeze hg rfl hH) g26 q28 bg26 hq28) ?_) ?_
                                            · rintro e v71 ⟨rfl, bx⟩
                                              refine ⟨_, rfl, hK.out _ _ (hH.below bx) (fun hH => ?_)⟩
                                              clear hK K
                                              simp only [List.set_cons_zero, List.set_cons_succ]
                                              clear bx hS4 hq28 bg26 lg26
                                              have hS3 := hH
                                              refine wpAnyH_ready (rs := [31]) (by kernel_rfl) (by simp) ?_
                                              refine readyCons 2 31 40 rfl rfl (by rfl) (fun K hK => wp_callF 13 #[.agg (va .u8 (sha mLong)), .agg (va .u32 dLong)] (by go_simp) (isv_long _) ?_) ?_
                                              · rintro e v72 ⟨rfl, bx⟩
                                                refine ⟨_, rfl, hK.out _ _ (hH.below bx) (fun hH => ?_)⟩
                                                clear hK K
                                                simp only [List.set_cons_zero, List.set_cons_succ]
                                                clear bx hS3
                                                refine takeH 1 32 41 (.bool true) rfl rfl (by kernel_rfl) (by kernel_rfl) (by kernel_rfl) (fun _ _ _ h => h) (Or.inl ⟨by rfl, fun w _ => by go_simp⟩) hH ?_
                                                simp only [List.set_cons_zero, List.set_cons_succ]
                                                refine takeH 0 33 0 (.bool true) rfl rfl (by kernel_rfl) (by kernel_rfl) (by kernel_rfl) (fun _ _ _ h => h) (Or.inl ⟨by rfl, fun w _ => by go_simp⟩) hH ?_
                                                simp only [List.set_cons_zero]
                                                refine wpAnyH_done (by kernel_rfl) ?_ _
                                                go_wp2_with fail
                                                go_ret
                                                exact ⟨rfl, hH.bel⟩
                                              exact AllReadyH.nil
                                            exact AllReadyH.nil
                                          exact AllReadyH.nil
                                        exact AllReadyH.nil
                                      exact AllReadyH.nil
                                    exact AllReadyH.nil
                                  exact AllReadyH.nil
                                exact AllReadyH.nil
                              exact AllReadyH.nil
                            refine readyRun 14 19 28 (.slice (some ⟨g18, 0, none⟩) 3 3) (v62.freeze ⟨g18, 3, none⟩ 1) rfl rfl (by rfl) (exec_convW 30 30 _ rfl (.slice (some ⟨g18, 0, none⟩) 3 3) _ rfl (conv_blk bg18 (by rfl))) (hH.freeze_ _ _ lg18) (fun hH => ?_) ?_
                            · simp only [List.set_cons_zero, List.set_cons_succ]
                              replace bg18 := bg18.byB.freeze ⟨g18, 3, none⟩ 1
                              clear hS15
                              generalize v62.freeze ⟨g18, 3, none⟩ 1 = v73 at *
                              have hS14 := hH
                              refine wpAnyH_ready (rs := [17]) (by kernel_rfl) (by simp) ?_
                              refine readyCons 13 17 26 rfl rfl (by rfl) (fun K hK => wp_callF 15 #[] (by go_simp) (new_any _ (glob_freeze hg rfl hH)) ?_) ?_
                              · rintro e v74 ⟨rfl, bx⟩
                                refine ⟨_, rfl, hK.out _ _ (hH.below bx) (fun hH => ?_)⟩
                                clear hK K
                                simp only [List.set_cons_zero, List.set_cons_succ]
                                replace bg18 := bg18.below bx bg18.lt
                                clear bx hS14
                                have hS13 := hH
                                refine wpAnyH_ready (rs := [20]) (by kernel_rfl) (by simp) ?_
                                refine readyCons 12 20 29 rfl rfl (by rfl) (fun K hK => wp_callF 16 #[.agg (stL true hL z64 0), .slice (some ⟨g18, 0, none⟩) 3 3] (by go_simp) (writeB _ (glob_freeze hg rfl hH) g18 bg18) ?_) ?_
                                · rintro e v75 ⟨h', r', n', rfl, hn3, hok, bx⟩
                                  refine ⟨_, rfl, hK.out _ _ (hH.below bx) (fun hH => ?_)⟩
                                  clear hK K
                                  simp only [List.set_cons_zero, List.set_cons_succ]
                                  clear bx hS13 bg18 lg18
                                  have hS12 := hH
                                  refine wpAnyH_ready (rs := [21]) (by kernel_rfl) (by simp) ?_
                                  refine readyCons 11 21 30 rfl rfl (by rfl) (fun K hK => wp_callF 17 #[.agg (stL true h' r' n')] (by go_simp) (sum_n [97, 98, 99] h' r' n' hn3 hok (by omega) _ (glob_freeze hg rfl hH)) ?_) ?_
                                  · rintro e v76 ⟨rfl, bx⟩
                                    refine ⟨_, rfl, hK.out _ _ (hH.below bx) (fun hH => ?_)⟩
                                    clear hK K
                                    simp only [List.set_cons_zero, List.set_cons_succ]
                                    clear bx hS12 hok hn3
                                    have hS11 := hH
                                    refine wpAnyH_ready (rs := [23]) (by kernel_rfl) (by simp) ?_
                                    refine readyCons 10 23 32 rfl rfl (by rfl) (fun K hK => wp_callF 13 #[.agg (va .u8 (sha [97, 98, 99])), .agg (va .u32 dAbc)] (by go_simp) (isv_abc _) ?_) ?_
                                    · rintro e v77 ⟨rfl, bx⟩
                                      refine ⟨_, rfl, hK.out _ _ (hH.below bx) (fun hH => ?_)⟩
                                      clear hK K
                                      simp only [List.set_cons_zero, List.set_cons_succ]
                                      clear bx hS11
                                      refine takeH 9 24 33 (.bool true) rfl rfl (by kernel_rfl) (by kernel_rfl) (by kernel_rfl) (fun _ _ _ h => h) (Or.inl ⟨by rfl, fun w _ => by go_simp⟩) hH ?_
                                      simp only [List.set_cons_zero, List.set_cons_succ]
                                      refine takeH 8 25 34 (.bool true) rfl rfl (by kernel_rfl) (by kernel_rfl) (by kernel_rfl) (fun _ _ _ h => h) (Or.inl ⟨by rfl, fun w _ => by go_simp⟩) hH ?_
                                      simp only [List.set_cons_zero, List.set_cons_succ]
                                      refine takeH 7 30 39 (.agg (va .u32 dLong)) rfl rfl (by kernel_rfl) (by kernel_rfl) (by kernel_rfl) (fun _ _ _ h => h) (yieldsIf_load_blk (by rfl) 23 (.tmp 2) rfl (w.heap.size + 1) rfl 23 (va .u32 dLong) _ (fun _ h => h.c) Tryd.underlying23 rfl (by kernel_rfl)) hH ?_
                                      simp only [List.set_cons_zero, List.set_cons_succ]
                                      have hS7 := hH
                                      refine wpAnyH_ready (rs := [26]) (by kernel_rfl) (by simp) ?_
                                      refine readyRun 6 26 35 (.slice (some ⟨v77.heap.size, 0, none⟩) 56 56) (v77.alloc (.cells (va .u8 mLong) 5)) rfl rfl (by rfl) (exec_bslice 30 56 _ rfl _ (by exact run_long _)) (hH.alloc_ _) (fun hH => ?_) ?_
                                      · simp only [List.set_cons_zero, List.set_cons_succ]
                                        have bg26 : Blk (v77.alloc (.cells (va .u8 mLong) 5)) v77.heap.size 5 (va .u8 mLong) := Blk.new _ _ _
                                        have lg26 : w.heap.size + 1 < v77.heap.size := hS7.c.lt
                                        clear hS7
                                        generalize v77.alloc (.cells (va .u8 mLong) 5) = v78 at *
                                        generalize v77.heap.size = g26 at *
                                        have hS6 := hH
                                        refine wpAnyH_ready (rs := [27]) (by kernel_rfl) (by simp) ?_
                                        refine readyRun 5 27 36 (.slice (some ⟨g26, 0, none⟩) 56 56) (v78.freeze ⟨g26, 56, none⟩ 1) rfl rfl (by rfl) (exec_convW 30 30 _ rfl (.slice (some ⟨g26, 0, none⟩) 56 56) _ rfl (conv_blk bg26 (by rfl))) (hH.freeze_ _ _ lg26) (fun hH => ?_) ?_
                                        · simp only [List.set_cons_zero, List.set_cons_succ]
                                          replace bg26 := bg26.byB.freeze ⟨g26, 56, none⟩ 1
                                          clear hS6
                                          generalize v78.freeze ⟨g26, 56, none⟩ 1 = v79 at *
                                          have hS5 := hH
                                          refine wpAnyH_ready (rs := [28]) (by kernel_rfl) (by simp) ?_
                                          refine readyRun 4 28 37 (.slice (some ⟨v79.heap.size, 0, none⟩) 1 1) (v79.alloc (.cells #[.slice (some ⟨g26, 0, none⟩) 56 56] 30)) rfl rfl (by rfl) (exec_bslice 53 1 _ rfl _ (by exact bs_s1 g26 56 _)) (hH.alloc_ _) (fun hH => ?_) ?_
                                          · simp only [List.set_cons_zero, List.set_cons_succ]
                                            have hq28 : Blk (v79.alloc (.cells #[.slice (some ⟨g26, 0, none⟩) 56 56] 30)) v79.heap.size 30 #[.slice (some ⟨g26, 0, none⟩) 56 56] := Blk.new _ _ _
                                            replace bg26 := bg26.alloc (.cells #[.slice (some ⟨g26, 0, none⟩) 56 56] 30)
                                            clear hS5
                                            generalize v79.alloc (.cells #[.slice (some ⟨g26, 0, none⟩) 56 56] 30) = v80 at *
                                            generalize v79.heap.size = q28 at *
                                            have hS4 := hH
                                            refine wpAnyH_ready (rs := [29]) (by kernel_rfl) (by simp) ?_
                                            refine readyCons 3 29 38 rfl rfl (by rfl) (fun K hK => wp_callF 14 #[.slice (some ⟨q28, 0, none⟩) 1 1] (by go_simp) (ofB mLong 56 rfl (byt_of _ (by decide)) (by omega) _ (glob_freeze hg rfl hH) g26 q28 bg26 hq28) ?_) ?_
                                            · rintro e v81 ⟨rfl, bx⟩
                                              refine ⟨_, rfl, hK.out _ _ (hH.below bx) (fun hH => ?_)⟩
                                              clear hK K
                                              simp only [List.set_cons_zero, List.set_cons_succ]
                                              clear bx hS4 hq28 bg26 lg26
                                              have hS3 := hH
                                              refine wpAnyH_ready (rs := [31]) (by kernel_rfl) (by simp) ?_
                                              refine readyCons 2 31 40 rfl rfl (by rfl) (fun K hK => wp_callF 13 #[.agg (va .u8 (sha mLong)), .agg (va .u32 dLong)] (by go_simp) (isv_long _) ?_) ?_
                                              · rintro e v82 ⟨rfl, bx⟩
                                                refine ⟨_, rfl, hK.out _ _ (hH.below bx) (fun hH => ?_)⟩
                                                clear hK K
                                                simp only [List.set_cons_zero, List.set_cons_succ]
                                                clear bx hS3
                                                refine takeH 1 32 41 (.bool true) rfl rfl (by kernel_rfl) (by kernel_rfl) (by kernel_rfl) (fun _ _ _ h => h) (Or.inl ⟨by rfl, fun w _ => by go_simp⟩) hH ?_
                                                simp only [List.set_cons_zero, List.set_cons_succ]
                                                refine takeH 0 33 0 (.bool true) rfl rfl (by kernel_rfl) (by kernel_rfl) (by kernel_rfl) (fun _ _ _ h => h) (Or.inl ⟨by rfl, fun w _ => by go_simp⟩) hH ?_
                                                simp only [List.set_cons_zero]
                                                refine wpAnyH_done (by kernel_rfl) ?_ _
                                                go_wp2_with fail
                                                go_ret
                                                exact ⟨rfl, hH.bel⟩
                                              exact AllReadyH.nil
                                            exact AllReadyH.nil
                                          exact AllReadyH.nil
                                        exact AllReadyH.nil
                                      exact AllReadyH.nil
                                    exact AllReadyH.nil
                                  exact AllReadyH.nil
                                exact AllReadyH.nil
                              exact AllReadyH.nil
                            exact AllReadyH.nil
                          exact AllReadyH.nil
                        exact AllReadyH.nil
                      exact AllReadyH.nil
                    exact AllReadyH.nil
                  exact AllReadyH.nil
                refine readyRun 23 10 19 (.slice (some ⟨g9, 0, none⟩) 2 2) (v45.freeze ⟨g9, 2, none⟩ 1) rfl rfl (by rfl) (exec_convW 30 30 _ rfl (.slice (some ⟨g9, 0, none⟩) 2 2) _ rfl (conv_blk bg9 (by rfl))) (hH.freeze_ _ _ lg9) (fun hH => ?_) ?_
                · simp only [List.set_cons_zero, List.set_cons_succ]
                  replace bg9 := bg9.byB.freeze ⟨g9, 2, none⟩ 1
                  replace bg7 := bg7.freeze_ ⟨g9, 2, none⟩ 1 (show g9 ≠ g7 by omega)
                  clear hS24
                  generalize v45.freeze ⟨g9, 2, none⟩ 1 = v83 at *
                  have hS23 := hH
                  refine wpAnyH_ready (rs := [8]) (by kernel_rfl) (by simp) ?_
                  refine readyRun 22 8 17 (.slice (some ⟨g7, 0, none⟩) 1 1) (v83.freeze ⟨g7, 1, none⟩ 1) rfl rfl (by rfl) (exec_convW 30 30 _ rfl (.slice (some ⟨g7, 0, none⟩) 1 1) _ rfl (conv_blk bg7 (by rfl))) (hH.freeze_ _ _ lg7) (fun hH => ?_) ?_
                  · simp only [List.set_cons_zero, List.set_cons_succ]
                    replace bg7 := bg7.byB.freeze ⟨g7, 1, none⟩ 1
                    replace bg9 := bg9.freeze ⟨g7, 1, none⟩ 1
                    clear hS23
                    generalize v83.freeze ⟨g7, 1, none⟩ 1 = v84 at *
                    have hS22 := hH
                    refine wpAnyH_ready (rs := [11]) (by kernel_rfl) (by simp) ?_
                    refine readyRun 21 11 20 (.slice (some ⟨v84.heap.size, 0, none⟩) 2 2) (v84.alloc (.cells #[.slice (some ⟨g7, 0, none⟩) 1 1, .slice (some ⟨g9, 0, none⟩) 2 2] 30)) rfl rfl (by rfl) (exec_bslice 53 2 _ rfl _ (by exact bs_s2 g7 1 g9 2 _)) (hH.alloc_ _) (fun hH => ?_) ?_
                    · simp only [List.set_cons_zero, List.set_cons_succ]
                      have hq11 : Blk (v84.alloc (.cells #[.slice (some ⟨g7, 0, none⟩) 1 1, .slice (some ⟨g9, 0, none⟩) 2 2] 30)) v84.heap.size 30 #[.slice (some ⟨g7, 0, none⟩) 1 1, .slice (some ⟨g9, 0, none⟩) 2 2] := Blk.new _ _ _
                      replace bg7 := bg7.alloc (.cells #[.slice (some ⟨g7, 0, none⟩) 1 1, .slice (some ⟨g9, 0, none⟩) 2 2] 30)
                      replace bg9 := bg9.alloc (.cells #[.slice (some ⟨g7, 0, none⟩) 1 1, .slice (some ⟨g9, 0, none⟩) 2 2] 30)
                      clear hS22
                      generalize v84.alloc (.cells #[.slice (some ⟨g7, 0, none⟩) 1 1, .slice (some ⟨g9, 0, none⟩) 2 2] 30) = v85 at *
                      generalize v84.heap.size = q11 at *
                      have hS21 := hH
                      refine wpAnyH_ready (rs := [12]) (by kernel_rfl) (by simp) ?_
                      refine readyCons 20 12 21 rfl rfl (by rfl) (fun K hK => wp_callF 14 #[.slice (some ⟨q11, 0, none⟩) 2 2] (by go_simp) (ofB2 _ (glob_freeze hg rfl hH) g7 g9 q11 bg7 bg9 hq11) ?_) ?_
                      · rintro e v86 ⟨rfl, bx⟩
                        refine ⟨_, rfl, hK.out _ _ (hH.below bx) (fun hH => ?_)⟩
                        clear hK K
                        simp only [List.set_cons_zero, List.set_cons_succ]
                        clear bx hS21 hq11 bg7 bg9 lg7 lg9
                        have hS20 := hH
                        refine wpAnyH_ready (rs := [14]) (by kernel_rfl) (by simp) ?_
                        refine readyCons 19 14 23 rfl rfl (by rfl) (fun K hK => wp_callF 13 #[.agg (va .u8 (sha [97, 98, 99])), .agg (va .u32 dAbc)] (by go_simp) (isv_abc _) ?_) ?_
                        · rintro e v87 ⟨rfl, bx⟩
                          refine ⟨_, rfl, hK.out _ _ (hH.below bx) (fun hH => ?_)⟩
                          clear hK K
                          simp only [List.set_cons_zero, List.set_cons_succ]
                          clear bx hS20
                          refine takeH 18 15 24 (.bool true) rfl rfl (by kernel_rfl) (by kernel_rfl) (by kernel_rfl) (fun _ _ _ h => h) (Or.inl ⟨by rfl, fun w _ => by go_simp⟩) hH ?_
                          simp only [List.set_cons_zero, List.set_cons_succ]
                          refine takeH 17 16 25 (.bool true) rfl rfl (by kernel_rfl) (by kernel_rfl) (by kernel_rfl) (fun _ _ _ h => h) (Or.inl ⟨by rfl, fun w _ => by go_simp⟩) hH ?_
                          simp only [List.set_cons_zero, List.set_cons_succ]
                          refine takeH 16 22 31 (.agg (va .u32 dAbc)) rfl rfl (by kernel_rfl) (by kernel_rfl) (by kernel_rfl) (fun _ _ _ h => h) (yieldsIf_load_blk (by rfl) 23 (.tmp 1) rfl w.heap.size rfl 23 (va .u32 dAbc) _ (fun _ h => h.a) Tryd.underlying23 rfl (by kernel_rfl)) hH ?_
                          simp only [List.set_cons_zero, List.set_cons_succ]
                          have hS16 := hH
                          refine wpAnyH_ready (rs := [17, 18]) (by kernel_rfl) (by simp) ?_
                          refine readyCons 15 17 26 rfl rfl (by rfl) (fun K hK => wp_callF 15 #[] (by go_simp) (new_any _ (glob_freeze hg rfl hH)) ?_) ?_
                          · rintro e v88 ⟨rfl, bx⟩
                            refine ⟨_, rfl, hK.out _ _ (hH.below bx) (fun hH => ?_)⟩
                            clear hK K
                            simp only [List.set_cons_zero, List.set_cons_succ]
                            clear bx hS16
                            have hS15 := hH
                            refine wpAnyH_ready (rs := [18]) (by kernel_rfl) (by simp) ?_
                            refine readyRun 14 18 27 (.slice (some ⟨v88.heap.size, 0, none⟩) 3 3) (v88.alloc (.cells (va .u8 [97, 98, 99]) 5)) rfl rfl (by rfl) (exec_bslice 30 3 _ rfl _ (by exact bs_abc _)) (hH.alloc_ _) (fun hH => ?_) ?_
                            · simp only [List.set_cons_zero, List.set_cons_succ]
                              have bg18 : Blk (v88.alloc (.cells (va .u8 [97, 98, 99]) 5)) v88.heap.size 5 (va .u8 [97, 98, 99]) := Blk.new _ _ _
                              have lg18 : w.heap.size + 1 < v88.heap.size := hS15.c.lt
                              clear hS15
                              generalize v88.alloc (.cells (va .u8 [97, 98, 99]) 5) = v89 at *
                              generalize v88.heap.size = g18 at *
                              have hS14 := hH
                              refine wpAnyH_ready (rs := [19]) (by kernel_rfl) (by simp) ?_
                              refine readyRun 13 19 28 (.slice (some ⟨g18, 0, none⟩) 3 3) (v89.freeze ⟨g18, 3, none⟩ 1) rfl rfl (by rfl) (exec_convW 30 30 _ rfl (.slice (some ⟨g18, 0, none⟩) 3 3) _ rfl (conv_blk bg18 (by rfl))) (hH.freeze_ _ _ lg18) (fun hH => ?_) ?_
                              · simp only [List.set_cons_zero, List.set_cons_succ]
                                replace bg18 := bg18.byB.freeze ⟨g18, 3, none⟩ 1
                                clear hS14
                                generalize v89.freeze ⟨g18, 3, none⟩ 1 = v90 at *
                                have hS13 := hH
                                refine wpAnyH_ready (rs := [20]) (by kernel_rfl) (by simp) ?_
                                refine readyCons 12 20 29 rfl rfl (by rfl) (fun K hK => wp_callF 16 #[.agg (stL true hL z64 0), .slice (some ⟨g18, 0, none⟩) 3 3] (by go_simp) (writeB _ (glob_freeze hg rfl hH) g18 bg18) ?_) ?_
                                · rintro e v91 ⟨h', r', n', rfl, hn3, hok, bx⟩
                                  refine ⟨_, rfl, hK.out _ _ (hH.below bx) (fun hH => ?_)⟩
                                  clear hK K
                                  simp only [List.set_cons_zero, List.set_cons_succ]
                                  clear bx hS13 bg18 lg18
                                  have hS12 := hH
                                  refine wpAnyH_ready (rs := [21]) (by kernel_rfl) (by simp) ?_
                                  refine readyCons 11 21 30 rfl rfl (by rfl) (fun K hK => wp_callF 17 #[.agg (stL true h' r' n')] (by go_simp) (sum_n [97, 98, 99] h' r' n' hn3 hok (by omega) _ (glob_freeze hg rfl hH)) ?_) ?_
                                  · rintro e v92 ⟨rfl, bx⟩
                                    refine ⟨_, rfl, hK.out _ _ (hH.below bx) (fun hH => ?_)⟩
                                    clear hK K
                                    simp only [List.set_cons_zero, List.set_cons_succ]
                                    clear bx hS12 hok hn3
                                    have hS11 := hH
                                    refine wpAnyH_ready (rs := [23]) (by kernel_rfl) (by simp) ?_
                                    refine readyCons 10 23 32 rfl rfl (by rfl) (fun K hK => wp_callF 13 #[.agg (va .u8 (sha [97, 98, 99])), .agg (va .u32 dAbc)] (by go_simp) (isv_abc _) ?_) ?_
                                    · rintro e v93 ⟨rfl, bx⟩
                                      refine ⟨_, rfl, hK.out _ _ (hH.below bx) (fun hH => ?_)⟩
                                      clear hK K
                                      simp only [List.set_cons_zero, List.set_cons_succ]
                                      clear bx hS11
                                      refine takeH 9 24 33 (.bool true) rfl rfl (by kernel_rfl) (by kernel_rfl) (by kernel_rfl) (fun _ _ _ h => h) (Or.inl ⟨by rfl, fun w _ => by go_simp⟩) hH ?_
                                      simp only [List.set_cons_zero, List.set_cons_succ]
                                      refine takeH 8 25 34 (.bool true) rfl rfl (by kernel_rfl) (by kernel_rfl) (by kernel_rfl) (fun _ _ _ h => h) (Or.inl ⟨by rfl, fun w _ => by go_simp⟩) hH ?_
                                      simp only [List.set_cons_zero, List.set_cons_succ]
                                      refine takeH 7 30 39 (.agg (va .u32 dLong)) rfl rfl (by kernel_rfl) (by kernel_rfl) (by kernel_rfl) (fun _ _ _ h => h) (yieldsIf_load_blk (by rfl) 23 (.tmp 2) rfl (w.heap.size + 1) rfl 23 (va .u32 dLong) _ (fun _ h => h.c) Tryd.underlying23 rfl (by kernel_rfl)) hH ?_
                                      simp only [List.set_cons_zero, List.set_cons_succ]
                                      have hS7 := hH
                                      refine wpAnyH_ready (rs := [26]) (by kernel_rfl) (by simp) ?_
                                      refine readyRun 6 26 35 (.slice (some ⟨v93.heap.size, 0, none⟩) 56 56) (v93.alloc (.cells (va .u8 mLong) 5)) rfl rfl (by rfl) (exec_bslice 30 56 _ rfl _ (by exact run_long _)) (hH.alloc_ _) (fun hH => ?_) ?_
                                      · simp only [List.set_cons_zero, List.set_cons_succ]
                                        have bg26 : Blk (v93.alloc (.cells (va .u8 mLong) 5)) v93.heap.size 5 (va .u8 mLong) := Blk.new _ _ _
                                        have lg26 : w.heap.size + 1 < v93.heap.size := hS7.c.lt
                                        clear hS7
                                        generalize v93.alloc (.cells (va .u8 mLong) 5) = v94 at *
                                        generalize v93.heap.size = g26 at *
                                        have hS6 := hH
                                        refine wpAnyH_ready (rs := [27]) (by kernel_rfl) (by simp) ?_
                                        refine readyRun 5 27 36 (.slice (some ⟨g26, 0, none⟩) 56 56) (v94.freeze ⟨g26, 56, none⟩ 1) rfl rfl (by rfl) (exec_convW 30 30 _ rfl (.slice (some ⟨g26, 0, none⟩) 56 56) _ rfl (conv_blk bg26 (by rfl))) (hH.freeze_ _ _ lg26) (fun hH => ?_) ?_
                                        · simp only [List.set_cons_zero, List.set_cons_succ]
                                          replace bg26 := bg26.byB.freeze ⟨g26, 56, none⟩ 1
                                          clear hS6
                                          generalize v94.freeze ⟨g26, 56, none⟩ 1 = v95 at *
                                          have hS5 := hH
                                          refine wpAnyH_ready (rs := [28]) (by kernel_rfl) (by simp) ?_
                                          refine readyRun 4 28 37 (.slice (some ⟨v95.heap.size, 0, none⟩) 1 1) (v95.alloc (.cells #[.slice (some ⟨g26, 0, none⟩) 56 56] 30)) rfl rfl (by rfl) (exec_bslice 53 1 _ rfl _ (by exact bs_s1 g26 56 _)) (hH.alloc_ _) (fun hH => ?_) ?_
                                          · simp only [List.set_cons_zero, List.set_cons_succ]
                                            have hq28 : Blk (v95.alloc (.cells #[.slice (some ⟨g26, 0, none⟩) 56 56] 30)) v95.heap.size 30 #[.slice (some ⟨g26, 0, none⟩) 56 56] := Blk.new _ _ _
                                            replace bg26 := bg26.alloc (.cells #[.slice (some ⟨g26, 0, none⟩) 56 56] 30)
                                            clear hS5
                                            generalize v95.alloc (.cells #[.slice (some ⟨g26, 0, none⟩) 56 56] 30) = v96 at *
                                            generalize v95.heap.size = q28 at *
                                            have hS4 := hH
                                            refine wpAnyH_ready (rs := [29]) (by kernel_rfl) (by simp) ?_
                                            refine readyCons 3 29 38 rfl rfl (by rfl) (fun K hK => wp_callF 14 #[.slice (some ⟨q28, 0, none⟩) 1 1] (by go_simp) (ofB mLong 56 rfl (byt_of _ (by decide)) (by omega) _ (glob_freeze hg rfl hH) g26 q28 bg26 hq28) ?_) ?_
                                            · rintro e v97 ⟨rfl, bx⟩
                                              refine ⟨_, rfl, hK.out _ _ (hH.below bx) (fun hH => ?_)⟩
                                              clear hK K
                                              simp only [List.set_cons_zero, List.set_cons_succ]
                                              clear bx hS4 hq28 bg26 lg26
                                              have hS3 := hH
                                              refine wpAnyH_ready (rs := [31]) (by kernel_rfl) (by simp) ?_
                                              refine readyCons 2 31 40 rfl rfl (by rfl) (fun K hK => wp_callF 13 #[.agg (va .u8 (sha mLong)), .agg (va .u32 dLong)] (by go_simp) (isv_long _) ?_) ?_
                                              · rintro e v98 ⟨rfl, bx⟩
                                                refine ⟨_, rfl, hK.out _ _ (hH.below bx) (fun hH => ?_)⟩
                                                clear hK K
                                                simp only [List.set_cons_zero, List.set_cons_succ]
                                                clear bx hS3
                                                refine takeH 1 32 41 (.bool true) rfl rfl (by kernel_rfl) (by kernel_rfl) (by kernel_rfl) (fun _ _ _ h => h) (Or.inl ⟨by rfl, fun w _ => by go_simp⟩) hH ?_
                                                simp only [List.set_cons_zero, List.set_cons_succ]
                                                refine takeH 0 33 0 (.bool true) rfl rfl (by kernel_rfl) (by kernel_rfl) (by kernel_rfl) (fun _ _ _ h => h) (Or.inl ⟨by rfl, fun w _ => by go_simp⟩) hH ?_
                                                simp only [List.set_cons_zero]
                                                refine wpAnyH_done (by kernel_rfl) ?_ _
                                                go_wp2_with fail
                                                go_ret
                                                exact ⟨rfl, hH.bel⟩
                                              exact AllReadyH.nil
                                            exact AllReadyH.nil
                                          exact AllReadyH.nil
                                        exact AllReadyH.nil
                                      exact AllReadyH.nil
                                    exact AllReadyH.nil
                                  exact AllReadyH.nil
                                exact AllReadyH.nil
                              exact AllReadyH.nil
                            exact AllReadyH.nil
                          refine readyRun 15 18 27 (.slice (some ⟨v87.heap.size, 0, none⟩) 3 3) (v87.alloc (.cells (va .u8 [97, 98, 99]) 5)) rfl rfl (by rfl) (exec_bslice 30 3 _ rfl _ (by exact bs_abc _)) (hH.alloc_ _) (fun hH => ?_) ?_
                          · simp only [List.set_cons_zero, List.set_cons_succ]
                            have bg18 : Blk (v87.alloc (.cells (va .u8 [97, 98, 99]) 5)) v87.heap.size 5 (va .u8 [97, 98, 99]) := Blk.new _ _ _
                            have lg18 : w.heap.size + 1 < v87.heap.size := hS16.c.lt
                            clear hS16
                            generalize v87.alloc (.cells (va .u8 [97, 98, 99]) 5) = v99 at *
                            generalize v87.heap.size = g18 at *
                            have hS15 := hH
                            refine wpAnyH_ready (rs := [17, 19]) (by kernel_rfl) (by simp) ?_
                            refine readyCons 14 17 26 rfl rfl (by rfl) (fun K hK => wp_callF 15 #[] (by go_simp) (new_any _ (glob_freeze hg rfl hH)) ?_) ?_
                            · rintro e v100 ⟨rfl, bx⟩
                              refine ⟨_, rfl, hK.out _ _ (hH.below bx) (fun hH => ?_)⟩
                              clear hK K
                              simp only [List.set_cons_zero, List.set_cons_succ]
                              replace bg18 := bg18.below bx bg18.lt
                              clear bx hS15
                              have hS14 := hH
                              refine wpAnyH_ready (rs := [19]) (by kernel_rfl) (by simp) ?_
                              refine readyRun 13 19 28 (.slice (some ⟨g18, 0, none⟩) 3 3) (v100.freeze ⟨g18, 3, none⟩ 1) rfl rfl (by rfl) (exec_convW 30 30 _ rfl (.slice (some ⟨g18, 0, none⟩) 3 3) _ rfl (conv_blk bg18 (by rfl))) (hH.freeze_ _ _ lg18) (fun hH => ?_) ?_
                              · simp only [List.set_cons_zero, List.set_cons_succ]
                                replace bg18 := bg18.byB.freeze ⟨g18, 3, none⟩ 1
                                clear hS14
                                generalize v100.freeze ⟨g18, 3, none⟩ 1 = v101 at *
                                have hS13 := hH
                                refine wpAnyH_ready (rs := [20]) (by kernel_rfl) (by simp) ?_
                                refine readyCons 12 20 29 rfl rfl (by rfl) (fun K hK => wp_callF 16 #[.agg (stL true hL z64 0), .slice (some ⟨g18, 0, none⟩) 3 3] (by go_simp) (writeB _ (glob_freeze hg rfl hH) g18 bg18) ?_) ?_
                                · rintro e v102 ⟨h', r', n', rfl, hn3, hok, bx⟩
                                  refine ⟨_, rfl, hK.out _ _ (hH.below bx) (fun hH => ?_)⟩
                                  clear hK K
                                  simp only [List.set_cons_zero, List.set_cons_succ]
                                  clear bx hS13 bg18 lg18
                                  have hS12 := hH
                                  refine wpAnyH_ready (rs := [21]) (by kernel_rfl) (by simp) ?_
                                  refine readyCons 11 21 30 rfl rfl (by rfl) (fun K hK => wp_callF 17 #[.agg (stL true h' r' n')] (by go_simp) (sum_n [97, 98, 99] h' r' n' hn3 hok (by omega) _ (glob_freeze hg rfl hH)) ?_) ?_
                                  · rintro e v103 ⟨rfl, bx⟩
                                    refine ⟨_, rfl, hK.out _ _ (hH.below bx) (fun hH => ?_)⟩
                                    clear hK K
                                    simp only [List.set_cons_zero, List.set_cons_succ]
                                    clear bx hS12 hok hn3
                                    have hS11 := hH
                                    refine wpAnyH_ready (rs := [23]) (by kernel_rfl) (by simp) ?_
                                    refine readyCons 10 23 32 rfl rfl (by rfl) (fun K hK => wp_callF 13 #[.agg (va .u8 (sha [97, 98, 99])), .agg (va .u32 dAbc)] (by go_simp) (isv_abc _) ?_) ?_
                                    · rintro e v104 ⟨rfl, bx⟩
                                      refine ⟨_, rfl, hK.out _ _ (hH.below bx) (fun hH => ?_)⟩
                                      clear hK K
                                      simp only [List.set_cons_zero, List.set_cons_succ]
                                      clear bx hS11
                                      refine takeH 9 24 33 (.bool true) rfl rfl (by kernel_rfl) (by kernel_rfl) (by kernel_rfl) (fun _ _ _ h => h) (Or.inl ⟨by rfl, fun w _ => by go_simp⟩) hH ?_
                                      simp only [List.set_cons_zero, List.set_cons_succ]
                                      refine takeH 8 25 34 (.bool true) rfl rfl (by kernel_rfl) (by kernel_rfl) (by kernel_rfl) (fun _ _ _ h => h) (Or.inl ⟨by rfl, fun w _ => by go_simp⟩) hH ?_
                                      simp only [List.set_cons_zero, List.set_cons_succ]
                                      refine takeH 7 30 39 (.agg (va .u32 dLong)) rfl rfl (by kernel_rfl) (by kernel_rfl) (by kernel_rfl) (fun _ _ _ h => h) (yieldsIf_load_blk (by rfl) 23 (.tmp 2) rfl (w.heap.size + 1) rfl 23 (va .u32 dLong) _ (fun _ h => h.c) Tryd.underlying23 rfl (by kernel_rfl)) hH ?_
                                      simp only [List.set_cons_zero, List.set_cons_succ]
                                      have hS7 := hH
                                      refine wpAnyH_ready (rs := [26]) (by kernel_rfl) (by simp) ?_
                                      refine readyRun 6 26 35 (.slice (some ⟨v104.heap.size, 0, none⟩) 56 56) (v104.alloc (.cells (va .u8 mLong) 5)) rfl rfl (by rfl) (exec_bslice 30 56 _ rfl _ (by exact run_long _)) (hH.alloc_ _) (fun hH => ?_) ?_
                                      · simp only [List.set_cons_zero, List.set_cons_succ]
                                        have bg26 : Blk (v104.alloc (.cells (va .u8 mLong) 5)) v104.heap.size 5 (va .u8 mLong) := Blk.new _ _ _
                                        have lg26 : w.heap.size + 1 < v104.heap.size := hS7.c.lt
                                        clear hS7
                                        generalize v104.alloc (.cells (va .u8 mLong) 5) = v105 at *
                                        generalize v104.heap.size = g26 at *
                                        have hS6 := hH
                                        refine wpAnyH_ready (rs := [27]) (by kernel_rfl) (by simp) ?_
                                        refine readyRun 5 27 36 (.slice (some ⟨g26, 0, none⟩) 56 56) (v105.freeze ⟨g26, 56, none⟩ 1) rfl rfl (by rfl) (exec_convW 30 30 _ rfl (.slice (some ⟨g26, 0, none⟩) 56 56) _ rfl (conv_blk bg26 (by rfl))) (hH.freeze_ _ _ lg26) (fun hH => ?_) ?_
                                        · simp only [List.set_cons_zero, List.set_cons_succ]
                                          replace bg26 := bg26.byB.freeze ⟨g26, 56, none⟩ 1
                                          clear hS6
                                          generalize v105.freeze ⟨g26, 56, none⟩ 1 = v106 at *
                                          have hS5 := hH
                                          refine wpAnyH_ready (rs := [28]) (by kernel_rfl) (by simp) ?_
                                          refine readyRun 4 28 37 (.slice (some ⟨v106.heap.size, 0, none⟩) 1 1) (v106.alloc (.cells #[.slice (some ⟨g26, 0, none⟩) 56 56] 30)) rfl rfl (by rfl) (exec_bslice 53 1 _ rfl _ (by exact bs_s1 g26 56 _)) (hH.alloc_ _) (fun hH => ?_) ?_
                                          · simp only [List.set_cons_zero, List.set_cons_succ]
                                            have hq28 : Blk (v106.alloc (.cells #[.slice (some ⟨g26, 0, none⟩) 56 56] 30)) v106.heap.size 30 #[.slice (some ⟨g26, 0, none⟩) 56 56] := Blk.new _ _ _
                                            replace bg26 := bg26.alloc (.cells #[.slice (some ⟨g26, 0, none⟩) 56 56] 30)
                                            clear hS5
                                            generalize v106.alloc (.cells #[.slice (some ⟨g26, 0, none⟩) 56 56] 30) = v107 at *
                                            generalize v106.heap.size = q28 at *
                                            have hS4 := hH
                                            refine wpAnyH_ready (rs := [29]) (by kernel_rfl) (by simp) ?_
                                            refine readyCons 3 29 38 rfl rfl (by rfl) (fun K hK => wp_callF 14 #[.slice (some ⟨q28, 0, none⟩) 1 1] (by go_simp) (ofB mLong 56 rfl (byt_of _ (by decide)) (by omega) _ (glob_freeze hg rfl hH) g26 q28 bg26 hq28) ?_) ?_
                                            · rintro e v108 ⟨rfl, bx⟩
                                              refine ⟨_, rfl, hK.out _ _ (hH.below bx) (fun hH => ?_)⟩
                                              clear hK K
                                              simp only [List.set_cons_zero, List.set_cons_succ]
                                              clear bx hS4 hq28 bg26 lg26
                                              have hS3 := hH
                                              refine wpAnyH_ready (rs := [31]) (by kernel_rfl) (by simp) ?_
                                              refine readyCons 2 31 40 rfl rfl (by rfl) (fun K hK => wp_callF 13 #[.agg (va .u8 (sha mLong)), .agg (va .u32 dLong)] (by go_simp) (isv_long _) ?_) ?_
                                              · rintro e v109 ⟨rfl, bx⟩
                                                refine ⟨_, rfl, hK.out _ _ (hH.below bx) (fun hH => ?_)⟩
                                                clear hK K
                                                simp only [List.set_cons_zero, List.set_cons_succ]
                                                clear bx hS3
                                                refine takeH 1 32 41 (.bool true) rfl rfl (by kernel_rfl) (by kernel_rfl) (by kernel_rfl) (fun _ _ _ h => h) (Or.inl ⟨by rfl, fun w _ => by go_simp⟩) hH ?_
                                                simp only [List.set_cons_zero, List.set_cons_succ]
                                                refine takeH 0 33 0 (.bool true) rfl rfl (by kernel_rfl) (by kernel_rfl) (by kernel_rfl) (fun _ _ _ h => h) (Or.inl ⟨by rfl, fun w _ => by go_simp⟩) hH ?_
                                                simp only [List.set_cons_zero]
                                                refine wpAnyH_done (by kernel_rfl) ?_ _
                                                go_wp2_with fail
                                                go_ret
                                                exact ⟨rfl, hH.bel⟩
                                              exact AllReadyH.nil
                                            exact AllReadyH.nil
                                          exact AllReadyH.nil
                                        exact AllReadyH.nil
                                      exact AllReadyH.nil
                                    exact AllReadyH.nil
                                  exact AllReadyH.nil
                                exact AllReadyH.nil
                              exact AllReadyH.nil
                            refine readyRun 14 19 28 (.slice (some ⟨g18, 0, none⟩) 3 3) (v99.freeze ⟨g18, 3, none⟩ 1) rfl rfl (by rfl) (exec_convW 30 30 _ rfl (.slice (some ⟨g18, 0, none⟩) 3 3) _ rfl (conv_blk bg18 (by rfl))) (hH.freeze_ _ _ lg18) (fun hH => ?_) ?_
                            · simp only [List.set_cons_zero, List.set_cons_succ]
                              replace bg18 := bg18.byB.freeze ⟨g18, 3, none⟩ 1
                              clear hS15
                              generalize v99.freeze ⟨g18, 3, none⟩ 1 = v110 at *
                              have hS14 := hH
                              refine wpAnyH_ready (rs := [17]) (by kernel_rfl) (by simp) ?_
                              refine readyCons 13 17 26 rfl rfl (by rfl) (fun K hK => wp_callF 15 #[] (by go_simp) (new_any _ (glob_freeze hg rfl hH)) ?_) ?_
                              · rintro e v111 ⟨rfl, bx⟩
                                refine ⟨_, rfl, hK.out _ _ (hH.below bx) (fun hH => ?_)⟩
                                clear hK K
                                simp only [List.set_cons_zero, List.set_cons_succ]
                                replace bg18 := bg18.below bx bg18.lt
                                clear bx hS14
                                have hS13 := hH
                                refine wpAnyH_ready (rs := [20]) (by kernel_rfl) (by simp) ?_
                                refine readyCons 12 20 29 rfl rfl (by rfl) (fun K hK => wp_callF 16 #[.agg (stL true hL z64 0), .slice (some ⟨g18, 0, none⟩) 3 3] (by go_simp) (writeB _ (glob_freeze hg rfl hH) g18 bg18) ?_) ?_
                                · rintro e v112 ⟨h', r', n', rfl, hn3, hok, bx⟩
                                  refine ⟨_, rfl, hK.out _ _ (hH.below bx) (fun hH => ?_)⟩
                                  clear hK K
                                  simp only [List.set_cons_zero, List.set_cons_succ]
                                  clear bx hS13 bg18 lg18
                                  have hS12 := hH
                                  refine wpAnyH_ready (rs := [21]) (by kernel_rfl) (by simp) ?_
                                  refine readyCons 11 21 30 rfl rfl (by rfl) (fun K hK => wp_callF 17 #[.agg (stL true h' r' n')] (by go_simp) (sum_n [97, 98, 99] h' r' n' hn3 hok (by omega) _ (glob_freeze hg rfl hH)) ?_) ?_
                                  · rintro e v113 ⟨rfl, bx⟩
                                    refine ⟨_, rfl, hK.out _ _ (hH.below bx) (fun hH => ?_)⟩
                                    clear hK K
                                    simp only [List.set_cons_zero, List.set_cons_succ]
                                    clear bx hS12 hok hn3
                                    have hS11 := hH
                                    refine wpAnyH_ready (rs := [23]) (by kernel_rfl) (by simp) ?_
                                    refine readyCons 10 23 32 rfl rfl (by rfl) (fun K hK => wp_callF 13 #[.agg (va .u8 (sha [97, 98, 99])), .agg (va .u32 dAbc)] (by go_simp) (isv_abc _) ?_) ?_
                                    · rintro e v114 ⟨rfl, bx⟩
                                      refine ⟨_, rfl, hK.out _ _ (hH.below bx) (fun hH => ?_)⟩
                                      clear hK K
                                      simp only [List.set_cons_zero, List.set_cons_succ]
                                      clear bx hS11
                                      refine takeH 9 24 33 (.bool true) rfl rfl (by kernel_rfl) (by kernel_rfl) (by kernel_rfl) (fun _ _ _ h => h) (Or.inl ⟨by rfl, fun w _ => by go_simp⟩) hH ?_
                                      simp only [List.set_cons_zero, List.set_cons_succ]
                                      refine takeH 8 25 34 (.bool true) rfl rfl (by kernel_rfl) (by kernel_rfl) (by kernel_rfl) (fun _ _ _ h => h) (Or.inl ⟨by rfl, fun w _ => by go_simp⟩) hH ?_
                                      simp only [List.set_cons_zero, List.set_cons_succ]
                                      refine takeH 7 30 39 (.agg (va .u32 dLong)) rfl rfl (by kernel_rfl) (by kernel_rfl) (by kernel_rfl) (fun _ _ _ h => h) (yieldsIf_load_blk (by rfl) 23 (.tmp 2) rfl (w.heap.size + 1) rfl 23 (va .u32 dLong) _ (fun _ h => h.c) Tryd.underlying23 rfl (by kernel_rfl)) hH ?_
                                      simp only [List.set_cons_zero, List.set_cons_succ]
                                      have hS7 := hH
                                      refine wpAnyH_ready (rs := [26]) (by kernel_rfl) (by simp) ?_
                                      refine readyRun 6 26 35 (.slice (some ⟨v114.heap.size, 0, none⟩) 56 56) (v114.alloc (.cells (va .u8 mLong) 5)) rfl rfl (by rfl) (exec_bslice 30 56 _ rfl _ (by exact run_long _)) (hH.alloc_ _) (fun hH => ?_) ?_
                                      · simp only [List.set_cons_zero, List.set_cons_succ]
                                        have bg26 : Blk (v114.alloc (.cells (va .u8 mLong) 5)) v114.heap.size 5 (va .u8 mLong) := Blk.new _ _ _
                                        have lg26 : w.heap.size + 1 < v114.heap.size := hS7.c.lt
                                        clear hS7
                                        generalize v114.alloc (.cells (va .u8 mLong) 5) = v115 at *
                                        generalize v114.heap.size = g26 at *
                                        have hS6 := hH
                                        refine wpAnyH_ready (rs := [27]) (by kernel_rfl) (by simp) ?_
                                        refine readyRun 5 27 36 (.slice (some ⟨g26, 0, none⟩) 56 56) (v115.freeze ⟨g26, 56, none⟩ 1) rfl rfl (by rfl) (exec_convW 30 30 _ rfl (.slice (some ⟨g26, 0, none⟩) 56 56) _ rfl (conv_blk bg26 (by rfl))) (hH.freeze_ _ _ lg26) (fun hH => ?_) ?_
                                        · simp only [List.set_cons_zero, List.set_cons_succ]
                                          replace bg26 := bg26.byB.freeze ⟨g26, 56, none⟩ 1
                                          clear hS6
                                          generalize v115.freeze ⟨g26, 56, none⟩ 1 = v116 at *
                                          have hS5 := hH
                                          refine wpAnyH_ready (rs := [28]) (by kernel_rfl) (by simp) ?_
                                          refine readyRun 4 28 37 (.slice (some ⟨v116.heap.size, 0, none⟩) 1 1) (v116.alloc (.cells #[.slice (some ⟨g26, 0, none⟩) 56 56] 30)) rfl rfl (by rfl) (exec_bslice 53 1 _ rfl _ (by exact bs_s1 g26 56 _)) (hH.alloc_ _) (fun hH => ?_) ?_
                                          · simp only [List.set_cons_zero, List.set_cons_succ]
                                            have hq28 : Blk (v116.alloc (.cells #[.slice (some ⟨g26, 0, none⟩) 56 56] 30)) v116.heap.size 30 #[.slice (some ⟨g26, 0, none⟩) 56 56] := Blk.new _ _ _
                                            replace bg26 := bg26.alloc (.cells #[.slice (some ⟨g26, 0, none⟩) 56 56] 30)
                                            clear hS5
                                            generalize v116.alloc (.cells #[.slice (some ⟨g26, 0, none⟩) 56 56] 30) = v117 at *
                                            generalize v116.heap.size = q28 at *
                                            have hS4 := hH
                                            refine wpAnyH_ready (rs := [29]) (by kernel_rfl) (by simp) ?_
                                            refine readyCons 3 29 38 rfl rfl (by rfl) (fun K hK => wp_callF 14 #[.slice (some ⟨q28, 0, none⟩) 1 1] (by go_simp) (ofB mLong 56 rfl (byt_of _ (by decide)) (by omega) _ (glob_freeze hg rfl hH) g26 q28 bg26 hq28) ?_) ?_
                                            · rintro e v118 ⟨rfl, bx⟩
                                              refine ⟨_, rfl, hK.out _ _ (hH.below bx) (fun hH => ?_)⟩
                                              clear hK K
                                              simp only [List.set_cons_zero, List.set_cons_succ]
                                              clear bx hS4 hq28 bg26 lg26
                                              have hS3 := hH
                                              refine wpAnyH_ready (rs := [31]) (by kernel_rfl) (by simp) ?_
                                              refine readyCons 2 31 40 rfl rfl (by rfl) (fun K hK => wp_callF 13 #[.agg (va .u8 (sha mLong)), .agg (va .u32 dLong)] (by go_simp) (isv_long _) ?_) ?_
                                              · rintro e v119 ⟨rfl, bx⟩
                                                refine ⟨_, rfl, hK.out _ _ (hH.below bx) (fun hH => ?_)⟩
                                                clear hK K
                                                simp only [List.set_cons_zero, List.set_cons_succ]
                                                clear bx hS3
                                                refine takeH 1 32 41 (.bool true) rfl rfl (by kernel_rfl) (by kernel_rfl) (by kernel_rfl) (fun _ _ _ h => h) (Or.inl ⟨by rfl, fun w _ => by go_simp⟩) hH ?_
                                                simp only [List.set_cons_zero, List.set_cons_succ]
                                                refine takeH 0 33 0 (.bool true) rfl rfl (by kernel_rfl) (by kernel_rfl) (by kernel_rfl) (fun _ _ _ h => h) (Or.inl ⟨by rfl, fun w _ => by go_simp⟩) hH ?_
                                                simp only [List.set_cons_zero]
                                                refine wpAnyH_done (by kernel_rfl) ?_ _
                                                go_wp2_with fail
                                                go_ret
                                                exact ⟨rfl, hH.bel⟩
                                              exact AllReadyH.nil
                                            exact AllReadyH.nil
                                          exact AllReadyH.nil
                                        exact AllReadyH.nil
                                      exact AllReadyH.nil
                                    exact AllReadyH.nil
                                  exact AllReadyH.nil
                                exact AllReadyH.nil
                              exact AllReadyH.nil
                            exact AllReadyH.nil
                          exact AllReadyH.nil
                        exact AllReadyH.nil
                      exact AllReadyH.nil
                    exact AllReadyH.nil
                  exact AllReadyH.nil
                exact AllReadyH.nil
              exact AllReadyH.nil
            refine readyRun 25 9 18 (.slice (some ⟨v5.heap.size, 0, none⟩) 2 2) (v5.alloc (.cells (va .u8 [98, 99]) 5)) rfl rfl (by rfl) (exec_bslice 30 2 _ rfl _ (by exact bs_bc _)) (hH.alloc_ _) (fun hH => ?_) ?_
            · simp only [List.set_cons_zero, List.set_cons_succ]
              have bg9 : Blk (v5.alloc (.cells (va .u8 [98, 99]) 5)) v5.heap.size 5 (va .u8 [98, 99]) := Blk.new _ _ _
              have lg9 : w.heap.size + 1 < v5.heap.size := hS26.c.lt
              clear hS26
              generalize v5.alloc (.cells (va .u8 [98, 99]) 5) = v120 at *
              generalize v5.heap.size = g9 at *
              have hS25 := hH
              refine wpAnyH_ready (rs := [7, 10]) (by kernel_rfl) (by simp) ?_
              refine readyRun 24 7 16 (.slice (some ⟨v120.heap.size, 0, none⟩) 1 1) (v120.alloc (.cells (va .u8 [97]) 5)) rfl rfl (by rfl) (exec_bslice 30 1 _ rfl _ (by exact bs_a _)) (hH.alloc_ _) (fun hH => ?_) ?_
              · simp only [List.set_cons_zero, List.set_cons_succ]
                have bg7 : Blk (v120.alloc (.cells (va .u8 [97]) 5)) v120.heap.size 5 (va .u8 [97]) := Blk.new _ _ _
                have lg7 : w.heap.size + 1 < v120.heap.size := hS25.c.lt
                have mg9g7 : g9 < v120.heap.size := bg9.lt
                replace bg9 := bg9.alloc (.cells (va .u8 [97]) 5)
                clear hS25
                generalize v120.alloc (.cells (va .u8 [97]) 5) = v121 at *
                generalize v120.heap.size = g7 at *
                have hS24 := hH
                refine wpAnyH_ready (rs := [8, 10]) (by kernel_rfl) (by simp) ?_
                refine readyRun 23 8 17 (.slice (some ⟨g7, 0, none⟩) 1 1) (v121.freeze ⟨g7, 1, none⟩ 1) rfl rfl (by rfl) (exec_convW 30 30 _ rfl (.slice (some ⟨g7, 0, none⟩) 1 1) _ rfl (conv_blk bg7 (by rfl))) (hH.freeze_ _ _ lg7) (fun hH => ?_) ?_
                · simp only [List.set_cons_zero, List.set_cons_succ]
                  replace bg7 := bg7.byB.freeze ⟨g7, 1, none⟩ 1
                  replace bg9 := bg9.freeze_ ⟨g7, 1, none⟩ 1 (show g7 ≠ g9 by omega)
                  clear hS24
                  generalize v121.freeze ⟨g7, 1, none⟩ 1 = v122 at *
                  have hS23 := hH
                  refine wpAnyH_ready (rs := [10]) (by kernel_rfl) (by simp) ?_
                  refine readyRun 22 10 19 (.slice (some ⟨g9, 0, none⟩) 2 2) (v122.freeze ⟨g9, 2, none⟩ 1) rfl rfl (by rfl) (exec_convW 30 30 _ rfl (.slice (some ⟨g9, 0, none⟩) 2 2) _ rfl (conv_blk bg9 (by rfl))) (hH.freeze_ _ _ lg9) (fun hH => ?_) ?_
                  · simp only [List.set_cons_zero, List.set_cons_succ]
                    replace bg9 := bg9.byB.freeze ⟨g9, 2, none⟩ 1
                    replace bg7 := bg7.freeze ⟨g9, 2, none⟩ 1
                    clear hS23
                    generalize v122.freeze ⟨g9, 2, none⟩ 1 = v123 at *
                    have hS22 := hH
                    refine wpAnyH_ready (rs := [11]) (by kernel_rfl) (by simp) ?_
                    refine readyRun 21 11 20 (.slice (some ⟨v123.heap.size, 0, none⟩) 2 2) (v123.alloc (.cells #[.slice (some ⟨g7, 0, none⟩) 1 1, .slice (some ⟨g9, 0, none⟩) 2 2] 30)) rfl rfl (by rfl) (exec_bslice 53 2 _ rfl _ (by exact bs_s2 g7 1 g9 2 _)) (hH.alloc_ _) (fun hH => ?_) ?_
                    · simp only [List.set_cons_zero, List.set_cons_succ]
                      have hq11 : Blk (v123.alloc (.cells #[.slice (some ⟨g7, 0, none⟩) 1 1, .slice (some ⟨g9, 0, none⟩) 2 2] 30)) v123.heap.size 30 #[.slice (some ⟨g7, 0, none⟩) 1 1, .slice (some ⟨g9, 0, none⟩) 2 2] := Blk.new _ _ _
                      replace bg9 := bg9.alloc (.cells #[.slice (some ⟨g7, 0, none⟩) 1 1, .slice (some ⟨g9, 0, none⟩) 2 2] 30)
                      replace bg7 := bg7.alloc (.cells #[.slice (some ⟨g7, 0, none⟩) 1 1, .slice (some ⟨g9, 0, none⟩) 2 2] 30)
                      clear hS22
                      generalize v123.alloc (.cells #[.slice (some ⟨g7, 0, none⟩) 1 1, .slice (some ⟨g9, 0, none⟩) 2 2] 30) = v124 at *
                      generalize v123.heap.size = q11 at *
                      have hS21 := hH
                      refine wpAnyH_ready (rs := [12]) (by kernel_rfl) (by simp) ?_
                      refine readyCons 20 12 21 rfl rfl (by rfl) (fun K hK => wp_callF 14 #[.slice (some ⟨q11, 0, none⟩) 2 2] (by go_simp) (ofB2 _ (glob_freeze hg rfl hH) g7 g9 q11 bg7 bg9 hq11) ?_) ?_
                      · rintro e v125 ⟨rfl, bx⟩
                        refine ⟨_, rfl, hK.out _ _ (hH.below bx) (fun hH => ?_)⟩
                        clear hK K
                        simp only [List.set_cons_zero, List.set_cons_succ]
                        clear bx hS21 hq11 bg7 bg9 lg7 lg9
                        have hS20 := hH
                        refine wpAnyH_ready (rs := [14]) (by kernel_rfl) (by simp) ?_
                        refine readyCons 19 14 23 rfl rfl (by rfl) (fun K hK => wp_callF 13 #[.agg (va .u8 (sha [97, 98, 99])), .agg (va .u32 dAbc)] (by go_simp) (isv_abc _) ?_) ?_
                        · rintro e v126 ⟨rfl, bx⟩
                          refine ⟨_, rfl, hK.out _ _ (hH.below bx) (fun hH => ?_)⟩
                          clear hK K
                          simp only [List.set_cons_zero, List.set_cons_succ]
                          clear bx hS20
                          refine takeH 18 15 24 (.bool true) rfl rfl (by kernel_rfl) (by kernel_rfl) (by kernel_rfl) (fun _ _ _ h => h) (Or.inl ⟨by rfl, fun w _ => by go_simp⟩) hH ?_
                          simp only [List.set_cons_zero, List.set_cons_succ]
                          refine takeH 17 16 25 (.bool true) rfl rfl (by kernel_rfl) (by kernel_rfl) (by kernel_rfl) (fun _ _ _ h => h) (Or.inl ⟨by rfl, fun w _ => by go_simp⟩) hH ?_
                          simp only [List.set_cons_zero, List.set_cons_succ]
                          refine takeH 16 22 31 (.agg (va .u32 dAbc)) rfl rfl (by kernel_rfl) (by kernel_rfl) (by kernel_rfl) (fun _ _ _ h => h) (yieldsIf_load_blk (by rfl) 23 (.tmp 1) rfl w.heap.size rfl 23 (va .u32 dAbc) _ (fun _ h => h.a) Tryd.underlying23 rfl (by kernel_rfl)) hH ?_
                          simp only [List.set_cons_zero, List.set_cons_succ]
                          have hS16 := hH
                          refine wpAnyH_ready (rs := [17, 18]) (by kernel_rfl) (by simp) ?_
                          refine readyCons 15 17 26 rfl rfl (by rfl) (fun K hK => wp_callF 15 #[] (by go_simp) (new_any _ (glob_freeze hg rfl hH)) ?_) ?_
                          · rintro e v127 ⟨rfl, bx⟩
                            refine ⟨_, rfl, hK.out _ _ (hH.below bx) (fun hH => ?_)⟩
                            clear hK K
                            simp only [List.set_cons_zero, List.set_cons_succ]
                            clear bx hS16
                            have hS15 := hH
                            refine wpAnyH_ready (rs := [18]) (by kernel_rfl) (by simp) ?_
                            refine readyRun 14 18 27 (.slice (some ⟨v127.heap.size, 0, none⟩) 3 3) (v127.alloc (.cells (va .u8 [97, 98, 99]) 5)) rfl rfl (by rfl) (exec_bslice 30 3 _ rfl _ (by exact bs_abc _)) (hH.alloc_ _) (fun hH => ?_) ?_
                            · simp only [List.set_cons_zero, List.set_cons_succ]
                              have bg18 : Blk (v127.alloc (.cells (va .u8 [97, 98, 99]) 5)) v127.heap.size 5 (va .u8 [97, 98, 99]) := Blk.new _ _ _
                              have lg18 : w.heap.size + 1 < v127.heap.size := hS15.c.lt
                              clear hS15
                              generalize v127.alloc (.cells (va .u8 [97, 98, 99]) 5) = v128 at *
                              generalize v127.heap.size = g18 at *
                              have hS14 := hH
                              refine wpAnyH_ready (rs := [19]) (by kernel_rfl) (by simp) ?_
                              refine readyRun 13 19 28 (.slice (some ⟨g18, 0, none⟩) 3 3) (v128.freeze ⟨g18, 3, none⟩ 1) rfl rfl (by rfl) (exec_convW 30 30 _ rfl (.slice (some ⟨g18, 0, none⟩) 3 3) _ rfl (conv_blk bg18 (by rfl))) (hH.freeze_ _ _ lg18) (fun hH => ?_) ?_
                              · simp only [List.set_cons_zero, List.set_cons_succ]
                                replace bg18 := bg18.byB.freeze ⟨g18, 3, none⟩ 1
                                clear hS14
                                generalize v128.freeze ⟨g18, 3, none⟩ 1 = v129 at *
                                have hS13 := hH
                                refine wpAnyH_ready (rs := [20]) (by kernel_rfl) (by simp) ?_
                                refine readyCons 12 20 29 rfl rfl (by rfl) (fun K hK => wp_callF 16 #[.agg (stL true hL z64 0), .slice (some ⟨g18, 0, none⟩) 3 3] (by go_simp) (writeB _ (glob_freeze hg rfl hH) g18 bg18) ?_) ?_
                                · rintro e v130 ⟨h', r', n', rfl, hn3, hok, bx⟩
                                  refine ⟨_, rfl, hK.out _ _ (hH.below bx) (fun hH => ?_)⟩
                                  clear hK K
                                  simp only [List.set_cons_zero, List.set_cons_succ]
                                  clear bx hS13 bg18 lg18
                                  have hS12 := hH
                                  refine wpAnyH_ready (rs := [21]) (by kernel_rfl) (by simp) ?_
                                  refine readyCons 11 21 30 rfl rfl (by rfl) (fun K hK => wp_callF 17 #[.agg (stL true h' r' n')] (by go_simp) (sum_n [97, 98, 99] h' r' n' hn3 hok (by omega) _ (glob_freeze hg rfl hH)) ?_) ?_
                                  · rintro e v131 ⟨rfl, bx⟩
                                    refine ⟨_, rfl, hK.out _ _ (hH.below bx) (fun hH => ?_)⟩
                                    clear hK K
                                    simp only [List.set_cons_zero, List.set_cons_succ]
                                    clear bx hS12 hok hn3
                                    have hS11 := hH
                                    refine wpAnyH_ready (rs := [23]) (by kernel_rfl) (by simp) ?_
                                    refine readyCons 10 23 32 rfl rfl (by rfl) (fun K hK => wp_callF 13 #[.agg (va .u8 (sha [97, 98, 99])), .agg (va .u32 dAbc)] (by go_simp) (isv_abc _) ?_) ?_
                                    · rintro e v132 ⟨rfl, bx⟩
                                      refine ⟨_, rfl, hK.out _ _ (hH.below bx) (fun hH => ?_)⟩
                                      clear hK K
                                      simp only [List.set_cons_zero, List.set_cons_succ]
                                      clear bx hS11
                                      refine takeH 9 24 33 (.bool true) rfl rfl (by kernel_rfl) (by kernel_rfl) (by kernel_rfl) (fun _ _ _ h => h) (Or.inl ⟨by rfl, fun w _ => by go_simp⟩) hH ?_
                                      simp only [List.set_cons_zero, List.set_cons_succ]
                                      refine takeH 8 25 34 (.bool true) rfl rfl (by kernel_rfl) (by kernel_rfl) (by kernel_rfl) (fun _ _ _ h => h) (Or.inl ⟨by rfl, fun w _ => by go_simp⟩) hH ?_
                                      simp only [List.set_cons_zero, List.set_cons_succ]
                                      refine takeH 7 30 39 (.agg (va .u32 dLong)) rfl rfl (by kernel_rfl) (by kernel_rfl) (by kernel_rfl) (fun _ _ _ h => h) (yieldsIf_load_blk (by rfl) 23 (.tmp 2) rfl (w.heap.size + 1) rfl 23 (va .u32 dLong) _ (fun _ h => h.c) Tryd.underlying23 rfl (by kernel_rfl)) hH ?_
                                      simp only [List.set_cons_zero, List.set_cons_succ]
                                      have hS7 := hH
                                      refine wpAnyH_ready (rs := [26]) (by kernel_rfl) (by simp) ?_
                                      refine readyRun 6 26 35 (.slice (some ⟨v132.heap.size, 0, none⟩) 56 56) (v132.alloc (.cells (va .u8 mLong) 5)) rfl rfl (by rfl) (exec_bslice 30 56 _ rfl _ (by exact run_long _)) (hH.alloc_ _) (fun hH => ?_) ?_
                                      · simp only [List.set_cons_zero, List.set_cons_succ]
                                        have bg26 : Blk (v132.alloc (.cells (va .u8 mLong) 5)) v132.heap.size 5 (va .u8 mLong) := Blk.new _ _ _
                                        have lg26 : w.heap.size + 1 < v132.heap.size := hS7.c.lt
                                        clear hS7
                                        generalize v132.alloc (.cells (va .u8 mLong) 5) = v133 at *
                                        generalize v132.heap.size = g26 at *
                                        have hS6 := hH
                                        refine wpAnyH_ready (rs := [27]) (by kernel_rfl) (by simp) ?_
                                        refine readyRun 5 27 36 (.slice (some ⟨g26, 0, none⟩) 56 56) (v133.freeze ⟨g26, 56, none⟩ 1) rfl rfl (by rfl) (exec_convW 30 30 _ rfl (.slice (some ⟨g26, 0, none⟩) 56 56) _ rfl (conv_blk bg26 (by rfl))) (hH.freeze_ _ _ lg26) (fun hH => ?_) ?_
                                        · simp only [List.set_cons_zero, List.set_cons_succ]
                                          replace bg26 := bg26.byB.freeze ⟨g26, 56, none⟩ 1
                                          clear hS6
                                          generalize v133.freeze ⟨g26, 56, none⟩ 1 = v134 at *
                                          have hS5 := hH
                                          refine wpAnyH_ready (rs := [28]) (by kernel_rfl) (by simp) ?_
                                          refine readyRun 4 28 37 (.slice (some ⟨v134.heap.size, 0, none⟩) 1 1) (v134.alloc (.cells #[.slice (some ⟨g26, 0, none⟩) 56 56] 30)) rfl rfl (by rfl) (exec_bslice 53 1 _ rfl _ (by exact bs_s1 g26 56 _)) (hH.alloc_ _) (fun hH => ?_) ?_
                                          · simp only [List.set_cons_zero, List.set_cons_succ]
                                            have hq28 : Blk (v134.alloc (.cells #[.slice (some ⟨g26, 0, none⟩) 56 56] 30)) v134.heap.size 30 #[.slice (some ⟨g26, 0, none⟩) 56 56] := Blk.new _ _ _
                                            replace bg26 := bg26.alloc (.cells #[.slice (some ⟨g26, 0, none⟩) 56 56] 30)
                                            clear hS5
                                            generalize v134.alloc (.cells #[.slice (some ⟨g26, 0, none⟩) 56 56] 30) = v135 at *
                                            generalize v134.heap.size = q28 at *
                                            have hS4 := hH
                                            refine wpAnyH_ready (rs := [29]) (by kernel_rfl) (by simp) ?_
                                            refine readyCons 3 29 38 rfl rfl (by rfl) (fun K hK => wp_callF 14 #[.slice (some ⟨q28, 0, none⟩) 1 1] (by go_simp) (ofB mLong 56 rfl (byt_of _ (by decide)) (by omega) _ (glob_freeze hg rfl hH) g26 q28 bg26 hq28) ?_) ?_
                                            · rintro e v136 ⟨rfl, bx⟩
                                              refine ⟨_, rfl, hK.out _ _ (hH.below bx) (fun hH => ?_)⟩
                                              clear hK K
                                              simp only [List.set_cons_zero, List.set_cons_succ]
                                              clear bx hS4 hq28 bg26 lg26
                                              have hS3 := hH
                                              refine wpAnyH_ready (rs := [31]) (by kernel_rfl) (by simp) ?_
                                              refine readyCons 2 31 40 rfl rfl (by rfl) (fun K hK => wp_callF 13 #[.agg (va .u8 (sha mLong)), .agg (va .u32 dLong)] (by go_simp) (isv_long _) ?_) ?_
                                              · rintro e v137 ⟨rfl, bx⟩
                                                refine ⟨_, rfl, hK.out _ _ (hH.below bx) (fun hH => ?_)⟩
                                                clear hK K
                                                simp only [List.set_cons_zero, List.set_cons_succ]
                                                clear bx hS3
                                                refine takeH 1 32 41 (.bool true) rfl rfl (by kernel_rfl) (by kernel_rfl) (by kernel_rfl) (fun _ _ _ h => h) (Or.inl ⟨by rfl, fun w _ => by go_simp⟩) hH ?_
                                                simp only [List.set_cons_zero, List.set_cons_succ]
                                                refine takeH 0 33 0 (.bool true) rfl rfl (by kernel_rfl) (by kernel_rfl) (by kernel_rfl) (fun _ _ _ h => h) (Or.inl ⟨by rfl, fun w _ => by go_simp⟩) hH ?_
                                                simp only [List.set_cons_zero]
                                                refine wpAnyH_done (by kernel_rfl) ?_ _
                                                go_wp2_with fail
                                                go_ret
                                                exact ⟨rfl, hH.bel⟩
                                              exact AllReadyH.nil
                                            exact AllReadyH.nil
                                          exact AllReadyH.nil
                                        exact AllReadyH.nil
                                      exact AllReadyH.nil
                                    exact AllReadyH.nil
                                  exact AllReadyH.nil
                                exact AllReadyH.nil
                              exact AllReadyH.nil
                            exact AllReadyH.nil
                          refine readyRun 15 18 27 (.slice (some ⟨v126.heap.size, 0, none⟩) 3 3) (v126.alloc (.cells (va .u8 [97, 98, 99]) 5)) rfl rfl (by rfl) (exec_bslice 30 3 _ rfl _ (by exact bs_abc _)) (hH.alloc_ _) (fun hH => ?_) ?_
                          · simp only [List.set_cons_zero, List.set_cons_succ]
                            have bg18 : Blk (v126.alloc (.cells (va .u8 [97, 98, 99]) 5)) v126.heap.size 5 (va .u8 [97, 98, 99]) := Blk.new _ _ _
                            have lg18 : w.heap.size + 1 < v126.heap.size := hS16.c.lt
                            clear hS16
                            generalize v126.alloc (.cells (va .u8 [97, 98, 99]) 5) = v138 at *
                            generalize v126.heap.size = g18 at *
                            have hS15 := hH
                            refine wpAnyH_ready (rs := [17, 19]) (by kernel_rfl) (by simp) ?_
                            refine readyCons 14 17 26 rfl rfl (by rfl) (fun K hK => wp_callF 15 #[] (by go_simp) (new_any _ (glob_freeze hg rfl hH)) ?_) ?_
                            · rintro e v139 ⟨rfl, bx⟩
                              refine ⟨_, rfl, hK.out _ _ (hH.below bx) (fun hH => ?_)⟩
                              clear hK K
                              simp only [List.set_cons_zero, List.set_cons_succ]
                              replace bg18 := bg18.below bx bg18.lt
                              clear bx hS15
                              have hS14 := hH
                              refine wpAnyH_ready (rs := [19]) (by kernel_rfl) (by simp) ?_
                              refine readyRun 13 19 28 (.slice (some ⟨g18, 0, none⟩) 3 3) (v139.freeze ⟨g18, 3, none⟩ 1) rfl rfl (by rfl) (exec_convW 30 30 _ rfl (.slice (some ⟨g18, 0, none⟩) 3 3) _ rfl (conv_blk bg18 (by rfl))) (hH.freeze_ _ _ lg18) (fun hH => ?_) ?_
                              · simp only [List.set_cons_zero, List.set_cons_succ]
                                replace bg18 := bg18.byB.freeze ⟨g18, 3, none⟩ 1
                                clear hS14
                                generalize v139.freeze ⟨g18, 3, none⟩ 1 = v140 at *
                                have hS13 := hH
                                refine wpAnyH_ready (rs := [20]) (by kernel_rfl) (by simp) ?_
                                refine readyCons 12 20 29 rfl rfl (by rfl) (fun K hK => wp_callF 16 #[.agg (stL true hL z64 0), .slice (some ⟨g18, 0, none⟩) 3 3] (by go_simp) (writeB _ (glob_freeze hg rfl hH) g18 bg18) ?_) ?_
                                · rintro e v141 ⟨h', r', n', rfl, hn3, hok, bx⟩
                                  refine ⟨_, rfl, hK.out _ _ (hH.below bx) (fun hH => ?_)⟩
                                  clear hK K
                                  simp only [List.set_cons_zero, List.set_cons_succ]
                                  clear bx hS13 bg18 lg18
                                  have hS12 := hH
                                  refine wpAnyH_ready (rs := [21]) (by kernel_rfl) (by simp) ?_
                                  refine readyCons 11 21 30 rfl rfl (by rfl) (fun K hK => wp_callF 17 #[.agg (stL true h' r' n')] (by go_simp) (sum_n [97, 98, 99] h' r' n' hn3 hok (by omega) _ (glob_freeze hg rfl hH)) ?_) ?_
                                  · rintro e v142 ⟨rfl, bx⟩
                                    refine ⟨_, rfl, hK.out _ _ (hH.below bx) (fun hH => ?_)⟩
                                    clear hK K
                                    simp only [List.set_cons_zero, List.set_cons_succ]
                                    clear bx hS12 hok hn3
                                    have hS11 := hH
                                    refine wpAnyH_ready (rs := [23]) (by kernel_rfl) (by simp) ?_
                                    refine readyCons 10 23 32 rfl rfl (by rfl) (fun K hK => wp_callF 13 #[.agg (va .u8 (sha [97, 98, 99])), .agg (va .u32 dAbc)] (by go_simp) (isv_abc _) ?_) ?_
                                    · rintro e v143 ⟨rfl, bx⟩
                                      refine ⟨_, rfl, hK.out _ _ (hH.below bx) (fun hH => ?_)⟩
                                      clear hK K
                                      simp only [List.set_cons_zero, List.set_cons_succ]
                                      clear bx hS11
                                      refine takeH 9 24 33 (.bool true) rfl rfl (by kernel_rfl) (by kernel_rfl) (by kernel_rfl) (fun _ _ _ h => h) (Or.inl ⟨by rfl, fun w _ => by go_simp⟩) hH ?_
                                      simp only [List.set_cons_zero, List.set_cons_succ]
                                      refine takeH 8 25 34 (.bool true) rfl rfl (by kernel_rfl) (by kernel_rfl) (by kernel_rfl) (fun _ _ _ h => h) (Or.inl ⟨by rfl, fun w _ => by go_simp⟩) hH ?_
                                      simp only [List.set_cons_zero, List.set_cons_succ]
                                      refine takeH 7 30 39 (.agg (va .u32 dLong)) rfl rfl (by kernel_rfl) (by kernel_rfl) (by kernel_rfl) (fun _ _ _ h => h) (yieldsIf_load_blk (by rfl) 23 (.tmp 2) rfl (w.heap.size + 1) rfl 23 (va .u32 dLong) _ (fun _ h => h.c) Tryd.underlying23 rfl (by kernel_rfl)) hH ?_
                                      simp only [List.set_cons_zero, List.set_cons_succ]
                                      have hS7 := hH
                                      refine wpAnyH_ready (rs := [26]) (by kernel_rfl) (by simp) ?_
                                      refine readyRun 6 26 35 (.slice (some ⟨v143.heap.size, 0, none⟩) 56 56) (v143.alloc (.cells (va .u8 mLong) 5)) rfl rfl (by rfl) (exec_bslice 30 56 _ rfl _ (by exact run_long _)) (hH.alloc_ _) (fun hH => ?_) ?_
                                      · simp only [List.set_cons_zero, List.set_cons_succ]
                                        have bg26 : Blk (v143.alloc (.cells (va .u8 mLong) 5)) v143.heap.size 5 (va .u8 mLong) := Blk.new _ _ _
                                        have lg26 : w.heap.size + 1 < v143.heap.size := hS7.c.lt
                                        clear hS7
                                        generalize v143.alloc (.cells (va .u8 mLong) 5) = v144 at *
                                        generalize v143.heap.size = g26 at *
                                        have hS6 := hH
                                        refine wpAnyH_ready (rs := [27]) (by kernel_rfl) (by simp) ?_
                                        refine readyRun 5 27 36 (.slice (some ⟨g26, 0, none⟩) 56 56) (v144.freeze ⟨g26, 56, none⟩ 1) rfl rfl (by rfl) (exec_convW 30 30 _ rfl (.slice (some ⟨g26, 0, none⟩) 56 56) _ rfl (conv_blk bg26 (by rfl))) (hH.freeze_ _ _ lg26) (fun hH => ?_) ?_
                                        · simp only [List.set_cons_zero, List.set_cons_succ]
                                          replace bg26 := bg26.byB.freeze ⟨g26, 56, none⟩ 1
                                          clear hS6
                                          generalize v144.freeze ⟨g26, 56, none⟩ 1 = v145 at *
                                          have hS5 := hH
                                          refine wpAnyH_ready (rs := [28]) (by kernel_rfl) (by simp) ?_
                                          refine readyRun 4 28 37 (.slice (some ⟨v145.heap.size, 0, none⟩) 1 1) (v145.alloc (.cells #[.slice (some ⟨g26, 0, none⟩) 56 56] 30)) rfl rfl (by rfl) (exec_bslice 53 1 _ rfl _ (by exact bs_s1 g26 56 _)) (hH.alloc_ _) (fun hH => ?_) ?_
                                          · simp only [List.set_cons_zero, List.set_cons_succ]
                                            have hq28 : Blk (v145.alloc (.cells #[.slice (some ⟨g26, 0, none⟩) 56 56] 30)) v145.heap.size 30 #[.slice (some ⟨g26, 0, none⟩) 56 56] := Blk.new _ _ _
                                            replace bg26 := bg26.alloc (.cells #[.slice (some ⟨g26, 0, none⟩) 56 56] 30)
                                            clear hS5
                                            generalize v145.alloc (.cells #[.slice (some ⟨g26, 0, none⟩) 56 56] 30) = v146 at *
                                            generalize v145.heap.size = q28 at *
                                            have hS4 := hH
                                            refine wpAnyH_ready (rs := [29]) (by kernel_rfl) (by simp) ?_
                                            refine readyCons 3 29 38 rfl rfl (by rfl) (fun K hK => wp_callF 14 #[.slice (some ⟨q28, 0, none⟩) 1 1] (by go_simp) (ofB mLong 56 rfl (byt_of _ (by decide)) (by omega) _ (glob_freeze hg rfl hH) g26 q28 bg26 hq28) ?_) ?_
                                            · rintro e v147 ⟨rfl, bx⟩
                                              refine ⟨_, rfl, hK.out _ _ (hH.below bx) (fun hH => ?_)⟩
                                              clear hK K
                                              simp only [List.set_cons_zero, List.set_cons_succ]
                                              clear bx hS4 hq28 bg26 lg26
                                              have hS3 := hH
                                              refine wpAnyH_ready (rs := [31]) (by kernel_rfl) (by simp) ?_
                                              refine readyCons 2 31 40 rfl rfl (by rfl) (fun K hK => wp_callF 13 #[.agg (va .u8 (sha mLong)), .agg (va .u32 dLong)] (by go_simp) (isv_long _) ?_) ?_
                                              · rintro e v148 ⟨rfl, bx⟩
                                                refine ⟨_, rfl, hK.out _ _ (hH.below bx) (fun hH => ?_)⟩
                                                clear hK K
                                                simp only [List.set_cons_zero, List.set_cons_succ]
                                                clear bx hS3
                                                refine takeH 1 32 41 (.bool true) rfl rfl (by kernel_rfl) (by kernel_rfl) (by kernel_rfl) (fun _ _ _ h => h) (Or.inl ⟨by rfl, fun w _ => by go_simp⟩) hH ?_
                                                simp only [List.set_cons_zero, List.set_cons_succ]
                                                refine takeH 0 33 0 (.bool true) rfl rfl (by kernel_rfl) (by kernel_rfl) (by kernel_rfl) (fun _ _ _ h => h) (Or.inl ⟨by rfl, fun w _ => by go_simp⟩) hH ?_
                                                simp only [List.set_cons_zero]
                                                refine wpAnyH_done (by kernel_rfl) ?_ _
                                                go_wp2_with fail
                                                go_ret
                                                exact ⟨rfl, hH.bel⟩
                                              exact AllReadyH.nil
                                            exact AllReadyH.nil
                                          exact AllReadyH.nil
                                        exact AllReadyH.nil
                                      exact AllReadyH.nil
                                    exact AllReadyH.nil
                                  exact AllReadyH.nil
                                exact AllReadyH.nil
                              exact AllReadyH.nil
                            refine readyRun 14 19 28 (.slice (some ⟨g18, 0, none⟩) 3 3) (v138.freeze ⟨g18, 3, none⟩ 1) rfl rfl (by rfl) (exec_convW 30 30 _ rfl (.slice (some ⟨g18, 0, none⟩) 3 3) _ rfl (conv_blk bg18 (by rfl))) (hH.freeze_ _ _ lg18) (fun hH => ?_) ?_
                            · simp only [List.set_cons_zero, List.set_cons_succ]
                              replace bg18 := bg18.byB.freeze ⟨g18, 3, none⟩ 1
                              clear hS15
                              generalize v138.freeze ⟨g18, 3, none⟩ 1 = v149 at *
                              have hS14 := hH
                              refine wpAnyH_ready (rs := [17]) (by kernel_rfl) (by simp) ?_
                              refine readyCons 13 17 26 rfl rfl (by rfl) (fun K hK => wp_callF 15 #[] (by go_simp) (new_any _ (glob_freeze hg rfl hH)) ?_) ?_
                              · rintro e v150 ⟨rfl, bx⟩
                                refine ⟨_, rfl, hK.out _ _ (hH.below bx) (fun hH => ?_)⟩
                                clear hK K
                                simp only [List.set_cons_zero, List.set_cons_succ]
                                replace bg18 := bg18.below bx bg18.lt
                                clear bx hS14
                                have hS13 := hH
                                refine wpAnyH_ready (rs := [20]) (by kernel_rfl) (by simp) ?_
                                refine readyCons 12 20 29 rfl rfl (by rfl) (fun K hK => wp_callF 16 #[.agg (stL true hL z64 0), .slice (some ⟨g18, 0, none⟩) 3 3] (by go_simp) (writeB _ (glob_freeze hg rfl hH) g18 bg18) ?_) ?_
                                · rintro e v151 ⟨h', r', n', rfl, hn3, hok, bx⟩
                                  refine ⟨_, rfl, hK.out _ _ (hH.below bx) (fun hH => ?_)⟩
                                  clear hK K
                                  simp only [List.set_cons_zero, List.set_cons_succ]
                                  clear bx hS13 bg18 lg18
                                  have hS12 := hH
                                  refine wpAnyH_ready (rs := [21]) (by kernel_rfl) (by simp) ?_
                                  refine readyCons 11 21 30 rfl rfl (by rfl) (fun K hK => wp_callF 17 #[.agg (stL true h' r' n')] (by go_simp) (sum_n [97, 98, 99] h' r' n' hn3 hok (by omega) _ (glob_freeze hg rfl hH)) ?_) ?_
                                  · rintro e v152 ⟨rfl, bx⟩
                                    refine ⟨_, rfl, hK.out _ _ (hH.below bx) (fun hH => ?_)⟩
                                    clear hK K
                                    simp only [List.set_cons_zero, List.set_cons_succ]
                                    clear bx hS12 hok hn3
                                    have hS11 := hH
                                    refine wpAnyH_ready (rs := [23]) (by kernel_rfl) (by simp) ?_
                                    refine readyCons 10 23 32 rfl rfl (by rfl) (fun K hK => wp_callF 13 #[.agg (va .u8 (sha [97, 98, 99])), .agg (va .u32 dAbc)] (by go_simp) (isv_abc _) ?_) ?_
                                    · rintro e v153 ⟨rfl, bx⟩
                                      refine ⟨_, rfl, hK.out _ _ (hH.below bx) (fun hH => ?_)⟩
                                      clear hK K
                                      simp only [List.set_cons_zero, List.set_cons_succ]
                                      clear bx hS11
                                      refine takeH 9 24 33 (.bool true) rfl rfl (by kernel_rfl) (by kernel_rfl) (by kernel_rfl) (fun _ _ _ h => h) (Or.inl ⟨by rfl, fun w _ => by go_simp⟩) hH ?_
                                      simp only [List.set_cons_zero, List.set_cons_succ]
                                      refine takeH 8 25 34 (.bool true) rfl rfl (by kernel_rfl) (by kernel_rfl) (by kernel_rfl) (fun _ _ _ h => h) (Or.inl ⟨by rfl, fun w _ => by go_simp⟩) hH ?_
                                      simp only [List.set_cons_zero, List.set_cons_succ]
                                      refine takeH 7 30 39 (.agg (va .u32 dLong)) rfl rfl (by kernel_rfl) (by kernel_rfl) (by kernel_rfl) (fun _ _ _ h => h) (yieldsIf_load_blk (by rfl) 23 (.tmp 2) rfl (w.heap.size + 1) rfl 23 (va .u32 dLong) _ (fun _ h => h.c) Tryd.underlying23 rfl (by kernel_rfl)) hH ?_
                                      simp only [List.set_cons_zero, List.set_cons_succ]
                                      have hS7 := hH
                                      refine wpAnyH_ready (rs := [26]) (by kernel_rfl) (by simp) ?_
                                      refine readyRun 6 26 35 (.slice (some ⟨v153.heap.size, 0, none⟩) 56 56) (v153.alloc (.cells (va .u8 mLong) 5)) rfl rfl (by rfl) (exec_bslice 30 56 _ rfl _ (by exact run_long _)) (hH.alloc_ _) (fun hH => ?_) ?_
                                      · simp only [List.set_cons_zero, List.set_cons_succ]
                                        have bg26 : Blk (v153.alloc (.cells (va .u8 mLong) 5)) v153.heap.size 5 (va .u8 mLong) := Blk.new _ _ _
                                        have lg26 : w.heap.size + 1 < v153.heap.size := hS7.c.lt
                                        clear hS7
                                        generalize v153.alloc (.cells (va .u8 mLong) 5) = v154 at *
                                        generalize v153.heap.size = g26 at *
                                        have hS6 := hH
                                        refine wpAnyH_ready (rs := [27]) (by kernel_rfl) (by simp) ?_
                                        refine readyRun 5 27 36 (.slice (some ⟨g26, 0, none⟩) 56 56) (v154.freeze ⟨g26, 56, none⟩ 1) rfl rfl (by rfl) (exec_convW 30 30 _ rfl (.slice (some ⟨g26, 0, none⟩) 56 56) _ rfl (conv_blk bg26 (by rfl))) (hH.freeze_ _ _ lg26) (fun hH => ?_) ?_
                                        · simp only [List.set_cons_zero, List.set_cons_succ]
                                          replace bg26 := bg26.byB.freeze ⟨g26, 56, none⟩ 1
                                          clear hS6
                                          generalize v154.freeze ⟨g26, 56, none⟩ 1 = v155 at *
                                          have hS5 := hH
                                          refine wpAnyH_ready (rs := [28]) (by kernel_rfl) (by simp) ?_
                                          refine readyRun 4 28 37 (.slice (some ⟨v155.heap.size, 0, none⟩) 1 1) (v155.alloc (.cells #[.slice (some ⟨g26, 0, none⟩) 56 56] 30)) rfl rfl (by rfl) (exec_bslice 53 1 _ rfl _ (by exact bs_s1 g26 56 _)) (hH.alloc_ _) (fun hH => ?_) ?_
                                          · simp only [List.set_cons_zero, List.set_cons_succ]
                                            have hq28 : Blk (v155.alloc (.cells #[.slice (some ⟨g26, 0, none⟩) 56 56] 30)) v155.heap.size 30 #[.slice (some ⟨g26, 0, none⟩) 56 56] := Blk.new _ _ _
                                            replace bg26 := bg26.alloc (.cells #[.slice (some ⟨g26, 0, none⟩) 56 56] 30)
                                            clear hS5
                                            generalize v155.alloc (.cells #[.slice (some ⟨g26, 0, none⟩) 56 56] 30) = v156 at *
                                            generalize v155.heap.size = q28 at *
                                            have hS4 := hH
                                            refine wpAnyH_ready (rs := [29]) (by kernel_rfl) (by simp) ?_
                                            refine readyCons 3 29 38 rfl rfl (by rfl) (fun K hK => wp_callF 14 #[.slice (some ⟨q28, 0, none⟩) 1 1] (by go_simp) (ofB mLong 56 rfl (byt_of _ (by decide)) (by omega) _ (glob_freeze hg rfl hH) g26 q28 bg26 hq28) ?_) ?_
                                            · rintro e v157 ⟨rfl, bx⟩
                                              refine ⟨_, rfl, hK.out _ _ (hH.below bx) (fun hH => ?_)⟩
                                              clear hK K
                                              simp only [List.set_cons_zero, List.set_cons_succ]
                                              clear bx hS4 hq28 bg26 lg26
                                              have hS3 := hH
                                              refine wpAnyH_ready (rs := [31]) (by kernel_rfl) (by simp) ?_
                                              refine readyCons 2 31 40 rfl rfl (by rfl) (fun K hK => wp_callF 13 #[.agg (va .u8 (sha mLong)), .agg (va .u32 dLong)] (by go_simp) (isv_long _) ?_) ?_
                                              · rintro e v158 ⟨rfl, bx⟩
                                                refine ⟨_, rfl, hK.out _ _ (hH.below bx) (fun hH => ?_)⟩
                                                clear hK K
                                                simp only [List.set_cons_zero, List.set_cons_succ]
                                                clear bx hS3
                                                refine takeH 1 32 41 (.bool true) rfl rfl (by kernel_rfl) (by kernel_rfl) (by kernel_rfl) (fun _ _ _ h => h) (Or.inl ⟨by rfl, fun w _ => by go_simp⟩) hH ?_
                                                simp only [List.set_cons_zero, List.set_cons_succ]
                                                refine takeH 0 33 0 (.bool true) rfl rfl (by kernel_rfl) (by kernel_rfl) (by kernel_rfl) (fun _ _ _ h => h) (Or.inl ⟨by rfl, fun w _ => by go_simp⟩) hH ?_
                                                simp only [List.set_cons_zero]
                                                refine wpAnyH_done (by kernel_rfl) ?_ _
                                                go_wp2_with fail
                                                go_ret
                                                exact ⟨rfl, hH.bel⟩
                                              exact AllReadyH.nil
                                            exact AllReadyH.nil
                                          exact AllReadyH.nil
                                        exact AllReadyH.nil
                                      exact AllReadyH.nil
                                    exact AllReadyH.nil
                                  exact AllReadyH.nil
                                exact AllReadyH.nil
                              exact AllReadyH.nil
                            exact AllReadyH.nil
                          exact AllReadyH.nil
                        exact AllReadyH.nil
                      exact AllReadyH.nil
                    exact AllReadyH.nil
                  exact AllReadyH.nil
                refine readyRun 23 10 19 (.slice (some ⟨g9, 0, none⟩) 2 2) (v121.freeze ⟨g9, 2, none⟩ 1) rfl rfl (by rfl) (exec_convW 30 30 _ rfl (.slice (some ⟨g9, 0, none⟩) 2 2) _ rfl (conv_blk bg9 (by rfl))) (hH.freeze_ _ _ lg9) (fun hH => ?_) ?_
                · simp only [List.set_cons_zero, List.set_cons_succ]
                  replace bg9 := bg9.byB.freeze ⟨g9, 2, none⟩ 1
                  replace bg7 := bg7.freeze_ ⟨g9, 2, none⟩ 1 (show g9 ≠ g7 by omega)
                  clear hS24
                  generalize v121.freeze ⟨g9, 2, none⟩ 1 = v159 at *
                  have hS23 := hH
                  refine wpAnyH_ready (rs := [8]) (by kernel_rfl) (by simp) ?_
                  refine readyRun 22 8 17 (.slice (some ⟨g7, 0, none⟩) 1 1) (v159.freeze ⟨g7, 1, none⟩ 1) rfl rfl (by rfl) (exec_convW 30 30 _ rfl (.slice (some ⟨g7, 0, none⟩) 1 1) _ rfl (conv_blk bg7 (by rfl))) (hH.freeze_ _ _ lg7) (fun hH => ?_) ?_
                  · simp only [List.set_cons_zero, List.set_cons_succ]
                    replace bg7 := bg7.byB.freeze ⟨g7, 1, none⟩ 1
                    replace bg9 := bg9.freeze ⟨g7, 1, none⟩ 1
                    clear hS23
                    generalize v159.freeze ⟨g7, 1, none⟩ 1 = v160 at *
                    have hS22 := hH
                    refine wpAnyH_ready (rs := [11]) (by kernel_rfl) (by simp) ?_
                    refine readyRun 21 11 20 (.slice (some ⟨v160.heap.size, 0, none⟩) 2 2) (v160.alloc (.cells #[.slice (some ⟨g7, 0, none⟩) 1 1, .slice (some ⟨g9, 0, none⟩) 2 2] 30)) rfl rfl (by rfl) (exec_bslice 53 2 _ rfl _ (by exact bs_s2 g7 1 g9 2 _)) (hH.alloc_ _) (fun hH => ?_) ?_
                    · simp only [List.set_cons_zero, List.set_cons_succ]
                      have hq11 : Blk (v160.alloc (.cells #[.slice (some ⟨g7, 0, none⟩) 1 1, .slice (some ⟨g9, 0, none⟩) 2 2] 30)) v160.heap.size 30 #[.slice (some ⟨g7, 0, none⟩) 1 1, .slice (some ⟨g9, 0, none⟩) 2 2] := Blk.new _ _ _
                      replace bg9 := bg9.alloc (.cells #[.slice (some ⟨g7, 0, none⟩) 1 1, .slice (some ⟨g9, 0, none⟩) 2 2] 30)
                      replace bg7 := bg7.alloc (.cells #[.slice (some ⟨g7, 0, none⟩) 1 1, .slice (some ⟨g9, 0, none⟩) 2 2] 30)
                      clear hS22
                      generalize v160.alloc (.cells #[.slice (some ⟨g7, 0, none⟩) 1 1, .slice (some ⟨g9, 0, none⟩) 2 2] 30) = v161 at *
                      generalize v160.heap.size = q11 at *
                      have hS21 := hH
                      refine wpAnyH_ready (rs := [12]) (by kernel_rfl) (by simp) ?_
                      refine readyCons 20 12 21 rfl rfl (by rfl) (fun K hK => wp_callF 14 #[.slice (some ⟨q11, 0, none⟩) 2 2] (by go_simp) (ofB2 _ (glob_freeze hg rfl hH) g7 g9 q11 bg7 bg9 hq11) ?_) ?_
                      · rintro e v162 ⟨rfl, bx⟩
                        refine ⟨_, rfl, hK.out _ _ (hH.below bx) (fun hH => ?_)⟩
                        clear hK K
                        simp only [List.set_cons_zero, List.set_cons_succ]
                        clear bx hS21 hq11 bg7 bg9 lg7 lg9
                        have hS20 := hH
                        refine wpAnyH_ready (rs := [14]) (by kernel_rfl) (by simp) ?_
                        refine readyCons 19 14 23 rfl rfl (by rfl) (fun K hK => wp_callF 13 #[.agg (va .u8 (sha [97, 98, 99])), .agg (va .u32 dAbc)] (by go_simp) (isv_abc _) ?_) ?_
                        · rintro e v163 ⟨rfl, bx⟩
                          refine ⟨_, rfl, hK.out _ _ (hH.below bx) (fun hH => ?_)⟩
                          clear hK K
                          simp only [List.set_cons_zero, List.set_cons_succ]
                          clear bx hS20
                          refine takeH 18 15 24 (.bool true) rfl rfl (by kernel_rfl) (by kernel_rfl) (by kernel_rfl) (fun _ _ _ h => h) (Or.inl ⟨by rfl, fun w _ => by go_simp⟩) hH ?_
                          simp only [List.set_cons_zero, List.set_cons_succ]
                          refine takeH 17 16 25 (.bool true) rfl rfl (by kernel_rfl) (by kernel_rfl) (by kernel_rfl) (fun _ _ _ h => h) (Or.inl ⟨by rfl, fun w _ => by go_simp⟩) hH ?_
                          simp only [List.set_cons_zero, List.set_cons_succ]
                          refine takeH 16 22 31 (.agg (va .u32 dAbc)) rfl rfl (by kernel_rfl) (by kernel_rfl) (by kernel_rfl) (fun _ _ _ h => h) (yieldsIf_load_blk (by rfl) 23 (.tmp 1) rfl w.heap.size rfl 23 (va .u32 dAbc) _ (fun _ h => h.a) Tryd.underlying23 rfl (by kernel_rfl)) hH ?_
                          simp only [List.set_cons_zero, List.set_cons_succ]
                          have hS16 := hH
                          refine wpAnyH_ready (rs := [17, 18]) (by kernel_rfl) (by simp) ?_
                          refine readyCons 15 17 26 rfl rfl (by rfl) (fun K hK => wp_callF 15 #[] (by go_simp) (new_any _ (glob_freeze hg rfl hH)) ?_) ?_
                          · rintro e v164 ⟨rfl, bx⟩
                            refine ⟨_, rfl, hK.out _ _ (hH.below bx) (fun hH => ?_)⟩
                            clear hK K
                            simp only [List.set_cons_zero, List.set_cons_succ]
                            clear bx hS16
                            have hS15 := hH
                            refine wpAnyH_ready (rs := [18]) (by kernel_rfl) (by simp) ?_
                            refine readyRun 14 18 27 (.slice (some ⟨v164.heap.size, 0, none⟩) 3 3) (v164.alloc (.cells (va .u8 [97, 98, 99]) 5)) rfl rfl (by rfl) (exec_bslice 30 3 _ rfl _ (by exact bs_abc _)) (hH.alloc_ _) (fun hH => ?_) ?_
                            · simp only [List.set_cons_zero, List.set_cons_succ]
                              have bg18 : Blk (v164.alloc (.cells (va .u8 [97, 98, 99]) 5)) v164.heap.size 5 (va .u8 [97, 98, 99]) := Blk.new _ _ _
                              have lg18 : w.heap.size + 1 < v164.heap.size := hS15.c.lt
                              clear hS15
                              generalize v164.alloc (.cells (va .u8 [97, 98, 99]) 5) = v165 at *
                              generalize v164.heap.size = g18 at *
                              have hS14 := hH
                              refine wpAnyH_ready (rs := [19]) (by kernel_rfl) (by simp) ?_
                              refine readyRun 13 19 28 (.slice (some ⟨g18, 0, none⟩) 3 3) (v165.freeze ⟨g18, 3, none⟩ 1) rfl rfl (by rfl) (exec_convW 30 30 _ rfl (.slice (some ⟨g18, 0, none⟩) 3 3) _ rfl (conv_blk bg18 (by rfl))) (hH.freeze_ _ _ lg18) (fun hH => ?_) ?_
                              · simp only [List.set_cons_zero, List.set_cons_succ]
                                replace bg18 := bg18.byB.freeze ⟨g18, 3, none⟩ 1
                                clear hS14
                                generalize v165.freeze ⟨g18, 3, none⟩ 1 = v166 at *
                                have hS13 := hH
                                refine wpAnyH_ready (rs := [20]) (by kernel_rfl) (by simp) ?_
                                refine readyCons 12 20 29 rfl rfl (by rfl) (fun K hK => wp_callF 16 #[.agg (stL true hL z64 0), .slice (some ⟨g18, 0, none⟩) 3 3] (by go_simp) (writeB _ (glob_freeze hg rfl hH) g18 bg18) ?_) ?_
                                · rintro e v167 ⟨h', r', n', rfl, hn3, hok, bx⟩
                                  refine ⟨_, rfl, hK.out _ _ (hH.below bx) (fun hH => ?_)⟩
                                  clear hK K
                                  simp only [List.set_cons_zero, List.set_cons_succ]
                                  clear bx hS13 bg18 lg18
                                  have hS12 := hH
                                  refine wpAnyH_ready (rs := [21]) (by kernel_rfl) (by simp) ?_
                                  refine readyCons 11 21 30 rfl rfl (by rfl) (fun K hK => wp_callF 17 #[.agg (stL true h' r' n')] (by go_simp) (sum_n [97, 98, 99] h' r' n' hn3 hok (by omega) _ (glob_freeze hg rfl hH)) ?_) ?_
                                  · rintro e v168 ⟨rfl, bx⟩
                                    refine ⟨_, rfl, hK.out _ _ (hH.below bx) (fun hH => ?_)⟩
                                    clear hK K
                                    simp only [List.set_cons_zero, List.set_cons_succ]
                                    clear bx hS12 hok hn3
                                    have hS11 := hH
                                    refine wpAnyH_ready (rs := [23]) (by kernel_rfl) (by simp) ?_
                                    refine readyCons 10 23 32 rfl rfl (by rfl) (fun K hK => wp_callF 13 #[.agg (va .u8 (sha [97, 98, 99])), .agg (va .u32 dAbc)] (by go_simp) (isv_abc _) ?_) ?_
                                    · rintro e v169 ⟨rfl, bx⟩
                                      refine ⟨_, rfl, hK.out _ _ (hH.below bx) (fun hH => ?_)⟩
                                      clear hK K
                                      simp only [List.set_cons_zero, List.set_cons_succ]
                                      clear bx hS11
                                      refine takeH 9 24 33 (.bool true) rfl rfl (by kernel_rfl) (by kernel_rfl) (by kernel_rfl) (fun _ _ _ h => h) (Or.inl ⟨by rfl, fun w _ => by go_simp⟩) hH ?_
                                      simp only [List.set_cons_zero, List.set_cons_succ]
                                      refine takeH 8 25 34 (.bool true) rfl rfl (by kernel_rfl) (by kernel_rfl) (by kernel_rfl) (fun _ _ _ h => h) (Or.inl ⟨by rfl, fun w _ => by go_simp⟩) hH ?_
                                      simp only [List.set_cons_zero, List.set_cons_succ]
                                      refine takeH 7 30 39 (.agg (va .u32 dLong)) rfl rfl (by kernel_rfl) (by kernel_rfl) (by kernel_rfl) (fun _ _ _ h => h) (yieldsIf_load_blk (by rfl) 23 (.tmp 2) rfl (w.heap.size + 1) rfl 23 (va .u32 dLong) _ (fun _ h => h.c) Tryd.underlying23 rfl (by kernel_rfl)) hH ?_
                                      simp only [List.set_cons_zero, List.set_cons_succ]
                                      have hS7 := hH
                                      refine wpAnyH_ready (rs := [26]) (by kernel_rfl) (by simp) ?_
                                      refine readyRun 6 26 35 (.slice (some ⟨v169.heap.size, 0, none⟩) 56 56) (v169.alloc (.cells (va .u8 mLong) 5)) rfl rfl (by rfl) (exec_bslice 30 56 _ rfl _ (by exact run_long _)) (hH.alloc_ _) (fun hH => ?_) ?_
                                      · simp only [List.set_cons_zero, List.set_cons_succ]
                                        have bg26 : Blk (v169.alloc (.cells (va .u8 mLong) 5)) v169.heap.size 5 (va .u8 mLong) := Blk.new _ _ _
                                        have lg26 : w.heap.size + 1 < v169.heap.size := hS7.c.lt
                                        clear hS7
                                        generalize v169.alloc (.cells (va .u8 mLong) 5) = v170 at *
                                        generalize v169.heap.size = g26 at *
                                        have hS6 := hH
                                        refine wpAnyH_ready (rs := [27]) (by kernel_rfl) (by simp) ?_
                                        refine readyRun 5 27 36 (.slice (some ⟨g26, 0, none⟩) 56 56) (v170.freeze ⟨g26, 56, none⟩ 1) rfl rfl (by rfl) (exec_convW 30 30 _ rfl (.slice (some ⟨g26, 0, none⟩) 56 56) _ rfl (conv_blk bg26 (by rfl))) (hH.freeze_ _ _ lg26) (fun hH => ?_) ?_
                                        · simp only [List.set_cons_zero, List.set_cons_succ]
                                          replace bg26 := bg26.byB.freeze ⟨g26, 56, none⟩ 1
                                          clear hS6
                                          generalize v170.freeze ⟨g26, 56, none⟩ 1 = v171 at *
                                          have hS5 := hH
                                          refine wpAnyH_ready (rs := [28]) (by kernel_rfl) (by simp) ?_
                                          refine readyRun 4 28 37 (.slice (some ⟨v171.heap.size, 0, none⟩) 1 1) (v171.alloc (.cells #[.slice (some ⟨g26, 0, none⟩) 56 56] 30)) rfl rfl (by rfl) (exec_bslice 53 1 _ rfl _ (by exact bs_s1 g26 56 _)) (hH.alloc_ _) (fun hH => ?_) ?_
                                          · simp only [List.set_cons_zero, List.set_cons_succ]
                                            have hq28 : Blk (v171.alloc (.cells #[.slice (some ⟨g26, 0, none⟩) 56 56] 30)) v171.heap.size 30 #[.slice (some ⟨g26, 0, none⟩) 56 56] := Blk.new _ _ _
                                            replace bg26 := bg26.alloc (.cells #[.slice (some ⟨g26, 0, none⟩) 56 56] 30)
                                            clear hS5
                                            generalize v171.alloc (.cells #[.slice (some ⟨g26, 0, none⟩) 56 56] 30) = v172 at *
                                            generalize v171.heap.size = q28 at *
                                            have hS4 := hH
                                            refine wpAnyH_ready (rs := [29]) (by kernel_rfl) (by simp) ?_
                                            refine readyCons 3 29 38 rfl rfl (by rfl) (fun K hK => wp_callF 14 #[.slice (some ⟨q28, 0, none⟩) 1 1] (by go_simp) (ofB mLong 56 rfl (byt_of _ (by decide)) (by omega) _ (glob_freeze hg rfl hH) g26 q28 bg26 hq28) ?_) ?_
                                            · rintro e v173 ⟨rfl, bx⟩
                                              refine ⟨_, rfl, hK.out _ _ (hH.below bx) (fun hH => ?_)⟩
                                              clear hK K
                                              simp only [List.set_cons_zero, List.set_cons_succ]
                                              clear bx hS4 hq28 bg26 lg26
                                              have hS3 := hH
                                              refine wpAnyH_ready (rs := [31]) (by kernel_rfl) (by simp) ?_
                                              refine readyCons 2 31 40 rfl rfl (by rfl) (fun K hK => wp_callF 13 #[.agg (va .u8 (sha mLong)), .agg (va .u32 dLong)] (by go_simp) (isv_long _) ?_) ?_
                                              · rintro e v174 ⟨rfl, bx⟩
                                                refine ⟨_, rfl, hK.out _ _ (hH.below bx) (fun hH => ?_)⟩
                                                clear hK K
                                                simp only [List.set_cons_zero, List.set_cons_succ]
                                                clear bx hS3
                                                refine takeH 1 32 41 (.bool true) rfl rfl (by kernel_rfl) (by kernel_rfl) (by kernel_rfl) (fun _ _ _ h => h) (Or.inl ⟨by rfl, fun w _ => by go_simp⟩) hH ?_
                                                simp only [List.set_cons_zero, List.set_cons_succ]
                                                refine takeH 0 33 0 (.bool true) rfl rfl (by kernel_rfl) (by kernel_rfl) (by kernel_rfl) (fun _ _ _ h => h) (Or.inl ⟨by rfl, fun w _ => by go_simp⟩) hH ?_
                                                simp only [List.set_cons_zero]
                                                refine wpAnyH_done (by kernel_rfl) ?_ _
                                                go_wp2_with fail
                                                go_ret
                                                exact ⟨rfl, hH.bel⟩
                                              exact AllReadyH.nil
                                            exact AllReadyH.nil
                                          exact AllReadyH.nil
                                        exact AllReadyH.nil
                                      exact AllReadyH.nil
                                    exact AllReadyH.nil
                                  exact AllReadyH.nil
                                exact AllReadyH.nil
                              exact AllReadyH.nil
                            exact AllReadyH.nil
                          refine readyRun 15 18 27 (.slice (some ⟨v163.heap.size, 0, none⟩) 3 3) (v163.alloc (.cells (va .u8 [97, 98, 99]) 5)) rfl rfl (by rfl) (exec_bslice 30 3 _ rfl _ (by exact bs_abc _)) (hH.alloc_ _) (fun hH => ?_) ?_
                          · simp only [List.set_cons_zero, List.set_cons_succ]
                            have bg18 : Blk (v163.alloc (.cells (va .u8 [97, 98, 99]) 5)) v163.heap.size 5 (va .u8 [97, 98, 99]) := Blk.new _ _ _
                            have lg18 : w.heap.size + 1 < v163.heap.size := hS16.c.lt
                            clear hS16
                            generalize v163.alloc (.cells (va .u8 [97, 98, 99]) 5) = v175 at *
                            generalize v163.heap.size = g18 at *
                            have hS15 := hH
                            refine wpAnyH_ready (rs := [17, 19]) (by kernel_rfl) (by simp) ?_
                            refine readyCons 14 17 26 rfl rfl (by rfl) (fun K hK => wp_callF 15 #[] (by go_simp) (new_any _ (glob_freeze hg rfl hH)) ?_) ?_
                            · rintro e v176 ⟨rfl, bx⟩
                              refine ⟨_, rfl, hK.out _ _ (hH.below bx) (fun hH => ?_)⟩
                              clear hK K
                              simp only [List.set_cons_zero, List.set_cons_succ]
                              replace bg18 := bg18.below bx bg18.lt
                              clear bx hS15
                              have hS14 := hH
                              refine wpAnyH_ready (rs := [19]) (by kernel_rfl) (by simp) ?_
                              refine readyRun 13 19 28 (.slice (some ⟨g18, 0, none⟩) 3 3) (v176.freeze ⟨g18, 3, none⟩ 1) rfl rfl (by rfl) (exec_convW 30 30 _ rfl (.slice (some ⟨g18, 0, none⟩) 3 3) _ rfl (conv_blk bg18 (by rfl))) (hH.freeze_ _ _ lg18) (fun hH => ?_) ?_
                              · simp only [List.set_cons_zero, List.set_cons_succ]
                                replace bg18 := bg18.byB.freeze ⟨g18, 3, none⟩ 1
                                clear hS14
                                generalize v176.freeze ⟨g18, 3, none⟩ 1 = v177 at *
                                have hS13 := hH
                                refine wpAnyH_ready (rs := [20]) (by kernel_rfl) (by simp) ?_
                                refine readyCons 12 20 29 rfl rfl (by rfl) (fun K hK => wp_callF 16 #[.agg (stL true hL z64 0), .slice (some ⟨g18, 0, none⟩) 3 3] (by go_simp) (writeB _ (glob_freeze hg rfl hH) g18 bg18) ?_) ?_
                                · rintro e v178 ⟨h', r', n', rfl, hn3, hok, bx⟩
                                  refine ⟨_, rfl, hK.out _ _ (hH.below bx) (fun hH => ?_)⟩
                                  clear hK K
                                  simp only [List.set_cons_zero, List.set_cons_succ]
                                  clear bx hS13 bg18 lg18
                                  have hS12 := hH
                                  refine wpAnyH_ready (rs := [21]) (by kernel_rfl) (by simp) ?_
                                  refine readyCons 11 21 30 rfl rfl (by rfl) (fun K hK => wp_callF 17 #[.agg (stL true h' r' n')] (by go_simp) (sum_n [97, 98, 99] h' r' n' hn3 hok (by omega) _ (glob_freeze hg rfl hH)) ?_) ?_
                                  · rintro e v179 ⟨rfl, bx⟩
                                    refine ⟨_, rfl, hK.out _ _ (hH.below bx) (fun hH => ?_)⟩
                                    clear hK K
                                    simp only [List.set_cons_zero, List.set_cons_succ]
                                    clear bx hS12 hok hn3
                                    have hS11 := hH
                                    refine wpAnyH_ready (rs := [23]) (by kernel_rfl) (by simp) ?_
                                    refine readyCons 10 23 32 rfl rfl (by rfl) (fun K hK => wp_callF 13 #[.agg (va .u8 (sha [97, 98, 99])), .agg (va .u32 dAbc)] (by go_simp) (isv_abc _) ?_) ?_
                                    · rintro e v180 ⟨rfl, bx⟩
                                      refine ⟨_, rfl, hK.out _ _ (hH.below bx) (fun hH => ?_)⟩
                                      clear hK K
                                      simp only [List.set_cons_zero, List.set_cons_succ]
                                      clear bx hS11
                                      refine takeH 9 24 33 (.bool true) rfl rfl (by kernel_rfl) (by kernel_rfl) (by kernel_rfl) (fun _ _ _ h => h) (Or.inl ⟨by rfl, fun w _ => by go_simp⟩) hH ?_
                                      simp only [List.set_cons_zero, List.set_cons_succ]
                                      refine takeH 8 25 34 (.bool true) rfl rfl (by kernel_rfl) (by kernel_rfl) (by kernel_rfl) (fun _ _ _ h => h) (Or.inl ⟨by rfl, fun w _ => by go_simp⟩) hH ?_
                                      simp only [List.set_cons_zero, List.set_cons_succ]
                                      refine takeH 7 30 39 (.agg (va .u32 dLong)) rfl rfl (by kernel_rfl) (by kernel_rfl) (by kernel_rfl) (fun _ _ _ h => h) (yieldsIf_load_blk (by rfl) 23 (.tmp 2) rfl (w.heap.size + 1) rfl 23 (va .u32 dLong) _ (fun _ h => h.c) Tryd.underlying23 rfl (by kernel_rfl)) hH ?_
                                      simp only [List.set_cons_zero, List.set_cons_succ]
                                      have hS7 := hH
                                      refine wpAnyH_ready (rs := [26]) (by kernel_rfl) (by simp) ?_
                                      refine readyRun 6 26 35 (.slice (some ⟨v180.heap.size, 0, none⟩) 56 56) (v180.alloc (.cells (va .u8 mLong) 5)) rfl rfl (by rfl) (exec_bslice 30 56 _ rfl _ (by exact run_long _)) (hH.alloc_ _) (fun hH => ?_) ?_
                                      · simp only [List.set_cons_zero, List.set_cons_succ]
                                        have bg26 : Blk (v180.alloc (.cells (va .u8 mLong) 5)) v180.heap.size 5 (va .u8 mLong) := Blk.new _ _ _
                                        have lg26 : w.heap.size + 1 < v180.heap.size := hS7.c.lt
                                        clear hS7
                                        generalize v180.alloc (.cells (va .u8 mLong) 5) = v181 at *
                                        generalize v180.heap.size = g26 at *
                                        have hS6 := hH
                                        refine wpAnyH_ready (rs := [27]) (by kernel_rfl) (by simp) ?_
                                        refine readyRun 5 27 36 (.slice (some ⟨g26, 0, none⟩) 56 56) (v181.freeze ⟨g26, 56, none⟩ 1) rfl rfl (by rfl) (exec_convW 30 30 _ rfl (.slice (some ⟨g26, 0, none⟩) 56 56) _ rfl (conv_blk bg26 (by rfl))) (hH.freeze_ _ _ lg26) (fun hH => ?_) ?_
                                        · simp only [List.set_cons_zero, List.set_cons_succ]
                                          replace bg26 := bg26.byB.freeze ⟨g26, 56, none⟩ 1
                                          clear hS6
                                          generalize v181.freeze ⟨g26, 56, none⟩ 1 = v182 at *
                                          have hS5 := hH
                                          refine wpAnyH_ready (rs := [28]) (by kernel_rfl) (by simp) ?_
                                          refine readyRun 4 28 37 (.slice (some ⟨v182.heap.size, 0, none⟩) 1 1) (v182.alloc (.cells #[.slice (some ⟨g26, 0, none⟩) 56 56] 30)) rfl rfl (by rfl) (exec_bslice 53 1 _ rfl _ (by exact bs_s1 g26 56 _)) (hH.alloc_ _) (fun hH => ?_) ?_
                                          · simp only [List.set_cons_zero, List.set_cons_succ]
                                            have hq28 : Blk (v182.alloc (.cells #[.slice (some ⟨g26, 0, none⟩) 56 56] 30)) v182.heap.size 30 #[.slice (some ⟨g26, 0, none⟩) 56 56] := Blk.new _ _ _
                                            replace bg26 := bg26.alloc (.cells #[.slice (some ⟨g26, 0, none⟩) 56 56] 30)
                                            clear hS5
                                            generalize v182.alloc (.cells #[.slice (some ⟨g26, 0, none⟩) 56 56] 30) = v183 at *
                                            generalize v182.heap.size = q28 at *
                                            have hS4 := hH
                                            refine wpAnyH_ready (rs := [29]) (by kernel_rfl) (by simp) ?_
                                            refine readyCons 3 29 38 rfl rfl (by rfl) (fun K hK => wp_callF 14 #[.slice (some ⟨q28, 0, none⟩) 1 1] (by go_simp) (ofB mLong 56 rfl (byt_of _ (by decide)) (by omega) _ (glob_freeze hg rfl hH) g26 q28 bg26 hq28) ?_) ?_
                                            · rintro e v184 ⟨rfl, bx⟩
                                              refine ⟨_, rfl, hK.out _ _ (hH.below bx) (fun hH => ?_)⟩
                                              clear hK K
                                              simp only [List.set_cons_zero, List.set_cons_succ]
                                              clear bx hS4 hq28 bg26 lg26
                                              have hS3 := hH
                                              refine wpAnyH_ready (rs := [31]) (by kernel_rfl) (by simp) ?_
                                              refine readyCons 2 31 40 rfl rfl (by rfl) (fun K hK => wp_callF 13 #[.agg (va .u8 (sha mLong)), .agg (va .u32 dLong)] (by go_simp) (isv_long _) ?_) ?_
                                              · rintro e v185 ⟨rfl, bx⟩
                                                refine ⟨_, rfl, hK.out _ _ (hH.below bx) (fun hH => ?_)⟩
                                                clear hK K
                                                simp only [List.set_cons_zero, List.set_cons_succ]
                                                clear bx hS3
                                                refine takeH 1 32 41 (.bool true) rfl rfl (by kernel_rfl) (by kernel_rfl) (by kernel_rfl) (fun _ _ _ h => h) (Or.inl ⟨by rfl, fun w _ => by go_simp⟩) hH ?_
                                                simp only [List.set_cons_zero, List.set_cons_succ]
                                                refine takeH 0 33 0 (.bool true) rfl rfl (by kernel_rfl) (by kernel_rfl) (by kernel_rfl) (fun _ _ _ h => h) (Or.inl ⟨by rfl, fun w _ => by go_simp⟩) hH ?_
                                                simp only [List.set_cons_zero]
                                                refine wpAnyH_done (by kernel_rfl) ?_ _
                                                go_wp2_with fail
                                                go_ret
                                                exact ⟨rfl, hH.bel⟩
                                              exact AllReadyH.nil
                                            exact AllReadyH.nil
                                          exact AllReadyH.nil
                                        exact AllReadyH.nil
                                      exact AllReadyH.nil
                                    exact AllReadyH.nil
                                  exact AllReadyH.nil
                                exact AllReadyH.nil
                              exact AllReadyH.nil
                            refine readyRun 14 19 28 (.slice (some ⟨g18, 0, none⟩) 3 3) (v175.freeze ⟨g18, 3, none⟩ 1) rfl rfl (by rfl) (exec_convW 30 30 _ rfl (.slice (some ⟨g18, 0, none⟩) 3 3) _ rfl (conv_blk bg18 (by rfl))) (hH.freeze_ _ _ lg18) (fun hH => ?_) ?_
                            · simp only [List.set_cons_zero, List.set_cons_succ]
                              replace bg18 := bg18.byB.freeze ⟨g18, 3, none⟩ 1
                              clear hS15
                              generalize v175.freeze ⟨g18, 3, none⟩ 1 = v186 at *
                              have hS14 := hH
                              refine wpAnyH_ready (rs := [17]) (by kernel_rfl) (by simp) ?_
                              refine readyCons 13 17 26 rfl rfl (by rfl) (fun K hK => wp_callF 15 #[] (by go_simp) (new_any _ (glob_freeze hg rfl hH)) ?_) ?_
                              · rintro e v187 ⟨rfl, bx⟩
                                refine ⟨_, rfl, hK.out _ _ (hH.below bx) (fun hH => ?_)⟩
                                clear hK K
                                simp only [List.set_cons_zero, List.set_cons_succ]
                                replace bg18 := bg18.below bx bg18.lt
                                clear bx hS14
                                have hS13 := hH
                                refine wpAnyH_ready (rs := [20]) (by kernel_rfl) (by simp) ?_
                                refine readyCons 12 20 29 rfl rfl (by rfl) (fun K hK => wp_callF 16 #[.agg (stL true hL z64 0), .slice (some ⟨g18, 0, none⟩) 3 3] (by go_simp) (writeB _ (glob_freeze hg rfl hH) g18 bg18) ?_) ?_
                                · rintro e v188 ⟨h', r', n', rfl, hn3, hok, bx⟩
                                  refine ⟨_, rfl, hK.out _ _ (hH.below bx) (fun hH => ?_)⟩
                                  clear hK K
                                  simp only [List.set_cons_zero, List.set_cons_succ]
                                  clear bx hS13 bg18 lg18
                                  have hS12 := hH
                                  refine wpAnyH_ready (rs := [21]) (by kernel_rfl) (by simp) ?_
                                  refine readyCons 11 21 30 rfl rfl (by rfl) (fun K hK => wp_callF 17 #[.agg (stL true h' r' n')] (by go_simp) (sum_n [97, 98, 99] h' r' n' hn3 hok (by omega) _ (glob_freeze hg rfl hH)) ?_) ?_
                                  · rintro e v189 ⟨rfl, bx⟩
                                    refine ⟨_, rfl, hK.out _ _ (hH.below bx) (fun hH => ?_)⟩
                                    clear hK K
                                    simp only [List.set_cons_zero, List.set_cons_succ]
                                    clear bx hS12 hok hn3
                                    have hS11 := hH
                                    refine wpAnyH_ready (rs := [23]) (by kernel_rfl) (by simp) ?_
                                    refine readyCons 10 23 32 rfl rfl (by rfl) (fun K hK => wp_callF 13 #[.agg (va .u8 (sha [97, 98, 99])), .agg (va .u32 dAbc)] (by go_simp) (isv_abc _) ?_) ?_
                                    · rintro e v190 ⟨rfl, bx⟩
                                      refine ⟨_, rfl, hK.out _ _ (hH.below bx) (fun hH => ?_)⟩
                                      clear hK K
                                      simp only [List.set_cons_zero, List.set_cons_succ]
                                      clear bx hS11
                                      refine takeH 9 24 33 (.bool true) rfl rfl (by kernel_rfl) (by kernel_rfl) (by kernel_rfl) (fun _ _ _ h => h) (Or.inl ⟨by rfl, fun w _ => by go_simp⟩) hH ?_
                                      simp only [List.set_cons_zero, List.set_cons_succ]
                                      refine takeH 8 25 34 (.bool true) rfl rfl (by kernel_rfl) (by kernel_rfl) (by kernel_rfl) (fun _ _ _ h => h) (Or.inl ⟨by rfl, fun w _ => by go_simp⟩) hH ?_
                                      simp only [List.set_cons_zero, List.set_cons_succ]
                                      refine takeH 7 30 39 (.agg (va .u32 dLong)) rfl rfl (by kernel_rfl) (by kernel_rfl) (by kernel_rfl) (fun _ _ _ h => h) (yieldsIf_load_blk (by rfl) 23 (.tmp 2) rfl (w.heap.size + 1) rfl 23 (va .u32 dLong) _ (fun _ h => h.c) Tryd.underlying23 rfl (by kernel_rfl)) hH ?_
                                      simp only [List.set_cons_zero, List.set_cons_succ]
                                      have hS7 := hH
                                      refine wpAnyH_ready (rs := [26]) (by kernel_rfl) (by simp) ?_
                                      refine readyRun 6 26 35 (.slice (some ⟨v190.heap.size, 0, none⟩) 56 56) (v190.alloc (.cells (va .u8 mLong) 5)) rfl rfl (by rfl) (exec_bslice 30 56 _ rfl _ (by exact run_long _)) (hH.alloc_ _) (fun hH => ?_) ?_
                                      · simp only [List.set_cons_zero, List.set_cons_succ]
                                        have bg26 : Blk (v190.alloc (.cells (va .u8 mLong) 5)) v190.heap.size 5 (va .u8 mLong) := Blk.new _ _ _
                                        have lg26 : w.heap.size + 1 < v190.heap.size := hS7.c.lt
                                        clear hS7
                                        generalize v190.alloc (.cells (va .u8 mLong) 5) = v191 at *
                                        generalize v190.heap.size = g26 at *
                                        have hS6 := hH
                                        refine wpAnyH_ready (rs := [27]) (by kernel_rfl) (by simp) ?_
                                        refine readyRun 5 27 36 (.slice (some ⟨g26, 0, none⟩) 56 56) (v191.freeze ⟨g26, 56, none⟩ 1) rfl rfl (by rfl) (exec_convW 30 30 _ rfl (.slice (some ⟨g26, 0, none⟩) 56 56) _ rfl (conv_blk bg26 (by rfl))) (hH.freeze_ _ _ lg26) (fun hH => ?_) ?_
                                        · simp only [List.set_cons_zero, List.set_cons_succ]
                                          replace bg26 := bg26.byB.freeze ⟨g26, 56, none⟩ 1
                                          clear hS6
                                          generalize v191.freeze ⟨g26, 56, none⟩ 1 = v192 at *
                                          have hS5 := hH
                                          refine wpAnyH_ready (rs := [28]) (by kernel_rfl) (by simp) ?_
                                          refine readyRun 4 28 37 (.slice (some ⟨v192.heap.size, 0, none⟩) 1 1) (v192.alloc (.cells #[.slice (some ⟨g26, 0, none⟩) 56 56] 30)) rfl rfl (by rfl) (exec_bslice 53 1 _ rfl _ (by exact bs_s1 g26 56 _)) (hH.alloc_ _) (fun hH => ?_) ?_
                                          · simp only [List.set_cons_zero, List.set_cons_succ]
                                            have hq28 : Blk (v192.alloc (.cells #[.slice (some ⟨g26, 0, none⟩) 56 56] 30)) v192.heap.size 30 #[.slice (some ⟨g26, 0, none⟩) 56 56] := Blk.new _ _ _
                                            replace bg26 := bg26.alloc (.cells #[.slice (some ⟨g26, 0, none⟩) 56 56] 30)
                                            clear hS5
                                            generalize v192.alloc (.cells #[.slice (some ⟨g26, 0, none⟩) 56 56] 30) = v193 at *
                                            generalize v192.heap.size = q28 at *
                                            have hS4 := hH
                                            refine wpAnyH_ready (rs := [29]) (by kernel_rfl) (by simp) ?_
                                            refine readyCons 3 29 38 rfl rfl (by rfl) (fun K hK => wp_callF 14 #[.slice (some ⟨q28, 0, none⟩) 1 1] (by go_simp) (ofB mLong 56 rfl (byt_of _ (by decide)) (by omega) _ (glob_freeze hg rfl hH) g26 q28 bg26 hq28) ?_) ?_
                                            · rintro e v194 ⟨rfl, bx⟩
                                              refine ⟨_, rfl, hK.out _ _ (hH.below bx) (fun hH => ?_)⟩
                                              clear hK K
                                              simp only [List.set_cons_zero, List.set_cons_succ]
                                              clear bx hS4 hq28 bg26 lg26
                                              have hS3 := hH
                                              refine wpAnyH_ready (rs := [31]) (by kernel_rfl) (by simp) ?_
                                              refine readyCons 2 31 40 rfl rfl (by rfl) (fun K hK => wp_callF 13 #[.agg (va .u8 (sha mLong)), .agg (va .u32 dLong)] (by go_simp) (isv_long _) ?_) ?_
                                              · rintro e v195 ⟨rfl, bx⟩
                                                refine ⟨_, rfl, hK.out _ _ (hH.below bx) (fun hH => ?_)⟩
                                                clear hK K
                                                simp only [List.set_cons_zero, List.set_cons_succ]
                                                clear bx hS3
                                                refine takeH 1 32 41 (.bool true) rfl rfl (by kernel_rfl) (by kernel_rfl) (by kernel_rfl) (fun _ _ _ h => h) (Or.inl ⟨by rfl, fun w _ => by go_simp⟩) hH ?_
                                                simp only [List.set_cons_zero, List.set_cons_succ]
                                                refine takeH 0 33 0 (.bool true) rfl rfl (by kernel_rfl) (by kernel_rfl) (by kernel_rfl) (fun _ _ _ h => h) (Or.inl ⟨by rfl, fun w _ => by go_simp⟩) hH ?_
                                                simp only [List.set_cons_zero]
                                                refine wpAnyH_done (by kernel_rfl) ?_ _
                                                go_wp2_with fail
                                                go_ret
                                                exact ⟨rfl, hH.bel⟩
                                              exact AllReadyH.nil
                                            exact AllReadyH.nil
                                          exact AllReadyH.nil
                                        exact AllReadyH.nil
                                      exact AllReadyH.nil
                                    exact AllReadyH.nil
                                  exact AllReadyH.nil
                                exact AllReadyH.nil
                              exact AllReadyH.nil
                            exact AllReadyH.nil
                          exact AllReadyH.nil
                        exact AllReadyH.nil
                      exact AllReadyH.nil
                    exact AllReadyH.nil
                  exact AllReadyH.nil
                exact AllReadyH.nil
              refine readyRun 24 10 19 (.slice (some ⟨g9, 0, none⟩) 2 2) (v120.freeze ⟨g9, 2, none⟩ 1) rfl rfl (by rfl) (exec_convW 30 30 _ rfl (.slice (some ⟨g9, 0, none⟩) 2 2) _ rfl (conv_blk bg9 (by rfl))) (hH.freeze_ _ _ lg9) (fun hH => ?_) ?_
              · simp only [List.set_cons_zero, List.set_cons_succ]
                replace bg9 := bg9.byB.freeze ⟨g9, 2, none⟩ 1
                clear hS25
                generalize v120.freeze ⟨g9, 2, none⟩ 1 = v196 at *
                have hS24 := hH
                refine wpAnyH_ready (rs := [7]) (by kernel_rfl) (by simp) ?_
                refine readyRun 23 7 16 (.slice (some ⟨v196.heap.size, 0, none⟩) 1 1) (v196.alloc (.cells (va .u8 [97]) 5)) rfl rfl (by rfl) (exec_bslice 30 1 _ rfl _ (by exact bs_a _)) (hH.alloc_ _) (fun hH => ?_) ?_
                · simp only [List.set_cons_zero, List.set_cons_succ]
                  have bg7 : Blk (v196.alloc (.cells (va .u8 [97]) 5)) v196.heap.size 5 (va .u8 [97]) := Blk.new _ _ _
                  have lg7 : w.heap.size + 1 < v196.heap.size := hS24.c.lt
                  replace bg9 := bg9.alloc (.cells (va .u8 [97]) 5)
                  clear hS24
                  generalize v196.alloc (.cells (va .u8 [97]) 5) = v197 at *
                  generalize v196.heap.size = g7 at *
                  have hS23 := hH
                  refine wpAnyH_ready (rs := [8]) (by kernel_rfl) (by simp) ?_
                  refine readyRun 22 8 17 (.slice (some ⟨g7, 0, none⟩) 1 1) (v197.freeze ⟨g7, 1, none⟩ 1) rfl rfl (by rfl) (exec_convW 30 30 _ rfl (.slice (some ⟨g7, 0, none⟩) 1 1) _ rfl (conv_blk bg7 (by rfl))) (hH.freeze_ _ _ lg7) (fun hH => ?_) ?_
                  · simp only [List.set_cons_zero, List.set_cons_succ]
                    replace bg7 := bg7.byB.freeze ⟨g7, 1, none⟩ 1
                    replace bg9 := bg9.freeze ⟨g7, 1, none⟩ 1
                    clear hS23
                    generalize v197.freeze ⟨g7, 1, none⟩ 1 = v198 at *
                    have hS22 := hH
                    refine wpAnyH_ready (rs := [11]) (by kernel_rfl) (by simp) ?_
                    refine readyRun 21 11 20 (.slice (some ⟨v198.heap.size, 0, none⟩) 2 2) (v198.alloc (.cells #[.slice (some ⟨g7, 0, none⟩) 1 1, .slice (some ⟨g9, 0, none⟩) 2 2] 30)) rfl rfl (by rfl) (exec_bslice 53 2 _ rfl _ (by exact bs_s2 g7 1 g9 2 _)) (hH.alloc_ _) (fun hH => ?_) ?_
                    · simp only [List.set_cons_zero, List.set_cons_succ]
                      have hq11 : Blk (v198.alloc (.cells #[.slice (some ⟨g7, 0, none⟩) 1 1, .slice (some ⟨g9, 0, none⟩) 2 2] 30)) v198.heap.size 30 #[.slice (some ⟨g7, 0, none⟩) 1 1, .slice (some ⟨g9, 0, none⟩) 2 2] := Blk.new _ _ _
                      replace bg9 := bg9.alloc (.cells #[.slice (some ⟨g7, 0, none⟩) 1 1, .slice (some ⟨g9, 0, none⟩) 2 2] 30)
                      replace bg7 := bg7.alloc (.cells #[.slice (some ⟨g7, 0, none⟩) 1 1, .slice (some ⟨g9, 0, none⟩) 2 2] 30)
                      clear hS22
                      generalize v198.alloc (.cells #[.slice (some ⟨g7, 0, none⟩) 1 1, .slice (some ⟨g9, 0, none⟩) 2 2] 30) = v199 at *
                      generalize v198.heap.size = q11 at *
                      have hS21 := hH
                      refine wpAnyH_ready (rs := [12]) (by kernel_rfl) (by simp) ?_
                      refine readyCons 20 12 21 rfl rfl (by rfl) (fun K hK => wp_callF 14 #[.slice (some ⟨q11, 0, none⟩) 2 2] (by go_simp) (ofB2 _ (glob_freeze hg rfl hH) g7 g9 q11 bg7 bg9 hq11) ?_) ?_
                      · rintro e v200 ⟨rfl, bx⟩
                        refine ⟨_, rfl, hK.out _ _ (hH.below bx) (fun hH => ?_)⟩
                        clear hK K
                        simp only [List.set_cons_zero, List.set_cons_succ]
                        clear bx hS21 hq11 bg7 bg9 lg7 lg9
                        have hS20 := hH
                        refine wpAnyH_ready (rs := [14]) (by kernel_rfl) (by simp) ?_
                        refine readyCons 19 14 23 rfl rfl (by rfl) (fun K hK => wp_callF 13 #[.agg (va .u8 (sha [97, 98, 99])), .agg (va .u32 dAbc)] (by go_simp) (isv_abc _) ?_) ?_
                        · rintro e v201 ⟨rfl, bx⟩
                          refine ⟨_, rfl, hK.out _ _ (hH.below bx) (fun hH => ?_)⟩
                          clear hK K
                          simp only [List.set_cons_zero, List.set_cons_succ]
                          clear bx hS20
                          refine takeH 18 15 24 (.bool true) rfl rfl (by kernel_rfl) (by kernel_rfl) (by kernel_rfl) (fun _ _ _ h => h) (Or.inl ⟨by rfl, fun w _ => by go_simp⟩) hH ?_
                          simp only [List.set_cons_zero, List.set_cons_succ]
                          refine takeH 17 16 25 (.bool true) rfl rfl (by kernel_rfl) (by kernel_rfl) (by kernel_rfl) (fun _ _ _ h => h) (Or.inl ⟨by rfl, fun w _ => by go_simp⟩) hH ?_
                          simp only [List.set_cons_zero, List.set_cons_succ]
                          refine takeH 16 22 31 (.agg (va .u32 dAbc)) rfl rfl (by kernel_rfl) (by kernel_rfl) (by kernel_rfl) (fun _ _ _ h => h) (yieldsIf_load_blk (by rfl) 23 (.tmp 1) rfl w.heap.size rfl 23 (va .u32 dAbc) _ (fun _ h => h.a) Tryd.underlying23 rfl (by kernel_rfl)) hH ?_
                          simp only [List.set_cons_zero, List.set_cons_succ]
                          have hS16 := hH
                          refine wpAnyH_ready (rs := [17, 18]) (by kernel_rfl) (by simp) ?_
                          refine readyCons 15 17 26 rfl rfl (by rfl) (fun K hK => wp_callF 15 #[] (by go_simp) (new_any _ (glob_freeze hg rfl hH)) ?_) ?_
                          · rintro e v202 ⟨rfl, bx⟩
                            refine ⟨_, rfl, hK.out _ _ (hH.below bx) (fun hH => ?_)⟩
                            clear hK K
                            simp only [List.set_cons_zero, List.set_cons_succ]
                            clear bx hS16
                            have hS15 := hH
                            refine wpAnyH_ready (rs := [18]) (by kernel_rfl) (by simp) ?_
                            refine readyRun 14 18 27 (.slice (some ⟨v202.heap.size, 0, none⟩) 3 3) (v202.alloc (.cells (va .u8 [97, 98, 99]) 5)) rfl rfl (by rfl) (exec_bslice 30 3 _ rfl _ (by exact bs_abc _)) (hH.alloc_ _) (fun hH => ?_) ?_
                            · simp only [List.set_cons_zero, List.set_cons_succ]
                              have bg18 : Blk (v202.alloc (.cells (va .u8 [97, 98, 99]) 5)) v202.heap.size 5 (va .u8 [97, 98, 99]) := Blk.new _ _ _
                              have lg18 : w.heap.size + 1 < v202.heap.size := hS15.c.lt
                              clear hS15
                              generalize v202.alloc (.cells (va .u8 [97, 98, 99]) 5) = v203 at *
                              generalize v202.heap.size = g18 at *
                              have hS14 := hH
                              refine wpAnyH_ready (rs := [19]) (by kernel_rfl) (by simp) ?_
                              refine readyRun 13 19 28 (.slice (some ⟨g18, 0, none⟩) 3 3) (v203.freeze ⟨g18, 3, none⟩ 1) rfl rfl (by rfl) (exec_convW 30 30 _ rfl (.slice (some ⟨g18, 0, none⟩) 3 3) _ rfl (conv_blk bg18 (by rfl))) (hH.freeze_ _ _ lg18) (fun hH => ?_) ?_
                              · simp only [List.set_cons_zero, List.set_cons_succ]
                                replace bg18 := bg18.byB.freeze ⟨g18, 3, none⟩ 1
                                clear hS14
                                generalize v203.freeze ⟨g18, 3, none⟩ 1 = v204 at *
                                have hS13 := hH
                                refine wpAnyH_ready (rs := [20]) (by kernel_rfl) (by simp) ?_
                                refine readyCons 12 20 29 rfl rfl (by rfl) (fun K hK => wp_callF 16 #[.agg (stL true hL z64 0), .slice (some ⟨g18, 0, none⟩) 3 3] (by go_simp) (writeB _ (glob_freeze hg rfl hH) g18 bg18) ?_) ?_
                                · rintro e v205 ⟨h', r', n', rfl, hn3, hok, bx⟩
                                  refine ⟨_, rfl, hK.out _ _ (hH.below bx) (fun hH => ?_)⟩
                                  clear hK K
                                  simp only [List.set_cons_zero, List.set_cons_succ]
                                  clear bx hS13 bg18 lg18
                                  have hS12 := hH
                                  refine wpAnyH_ready (rs := [21]) (by kernel_rfl) (by simp) ?_
                                  refine readyCons 11 21 30 rfl rfl (by rfl) (fun K hK => wp_callF 17 #[.agg (stL true h' r' n')] (by go_simp) (sum_n [97, 98, 99] h' r' n' hn3 hok (by omega) _ (glob_freeze hg rfl hH)) ?_) ?_
                                  · rintro e v206 ⟨rfl, bx⟩
                                    refine ⟨_, rfl, hK.out _ _ (hH.below bx) (fun hH => ?_)⟩
                                    clear hK K
                                    simp only [List.set_cons_zero, List.set_cons_succ]
                                    clear bx hS12 hok hn3
                                    have hS11 := hH
                                    refine wpAnyH_ready (rs := [23]) (by kernel_rfl) (by simp) ?_
                                    refine readyCons 10 23 32 rfl rfl (by rfl) (fun K hK => wp_callF 13 #[.agg (va .u8 (sha [97, 98, 99])), .agg (va .u32 dAbc)] (by go_simp) (isv_abc _) ?_) ?_
                                    · rintro e v207 ⟨rfl, bx⟩
                                      refine ⟨_, rfl, hK.out _ _ (hH.below bx) (fun hH => ?_)⟩
                                      clear hK K
                                      simp only [List.set_cons_zero, List.set_cons_succ]
                                      clear bx hS11
                                      refine takeH 9 24 33 (.bool true) rfl rfl (by kernel_rfl) (by kernel_rfl) (by kernel_rfl) (fun _ _ _ h => h) (Or.inl ⟨by rfl, fun w _ => by go_simp⟩) hH ?_
                                      simp only [List.set_cons_zero, List.set_cons_succ]
                                      refine takeH 8 25 34 (.bool true) rfl rfl (by kernel_rfl) (by kernel_rfl) (by kernel_rfl) (fun _ _ _ h => h) (Or.inl ⟨by rfl, fun w _ => by go_simp⟩) hH ?_
                                      simp only [List.set_cons_zero, List.set_cons_succ]
                                      refine takeH 7 30 39 (.agg (va .u32 dLong)) rfl rfl (by kernel_rfl) (by kernel_rfl) (by kernel_rfl) (fun _ _ _ h => h) (yieldsIf_load_blk (by rfl) 23 (.tmp 2) rfl (w.heap.size + 1) rfl 23 (va .u32 dLong) _ (fun _ h => h.c) Tryd.underlying23 rfl (by kernel_rfl)) hH ?_
                                      simp only [List.set_cons_zero, List.set_cons_succ]
                                      have hS7 := hH
                                      refine wpAnyH_ready (rs := [26]) (by kernel_rfl) (by simp) ?_
                                      refine readyRun 6 26 35 (.slice (some ⟨v207.heap.size, 0, none⟩) 56 56) (v207.alloc (.cells (va .u8 mLong) 5)) rfl rfl (by rfl) (exec_bslice 30 56 _ rfl _ (by exact run_long _)) (hH.alloc_ _) (fun hH => ?_) ?_
                                      · simp only [List.set_cons_zero, List.set_cons_succ]
                                        have bg26 : Blk (v207.alloc (.cells (va .u8 mLong) 5)) v207.heap.size 5 (va .u8 mLong) := Blk.new _ _ _
                                        have lg26 : w.heap.size + 1 < v207.heap.size := hS7.c.lt
                                        clear hS7
                                        generalize v207.alloc (.cells (va .u8 mLong) 5) = v208 at *
                                        generalize v207.heap.size = g26 at *
                                        have hS6 := hH
                                        refine wpAnyH_ready (rs := [27]) (by kernel_rfl) (by simp) ?_
                                        refine readyRun 5 27 36 (.slice (some ⟨g26, 0, none⟩) 56 56) (v208.freeze ⟨g26, 56, none⟩ 1) rfl rfl (by rfl) (exec_convW 30 30 _ rfl (.slice (some ⟨g26, 0, none⟩) 56 56) _ rfl (conv_blk bg26 (by rfl))) (hH.freeze_ _ _ lg26) (fun hH => ?_) ?_
                                        · simp only [List.set_cons_zero, List.set_cons_succ]
                                          replace bg26 := bg26.byB.freeze ⟨g26, 56, none⟩ 1
                                          clear hS6
                                          generalize v208.freeze ⟨g26, 56, none⟩ 1 = v209 at *
                                          have hS5 := hH
                                          refine wpAnyH_ready (rs := [28]) (by kernel_rfl) (by simp) ?_
                                          refine readyRun 4 28 37 (.slice (some ⟨v209.heap.size, 0, none⟩) 1 1) (v209.alloc (.cells #[.slice (some ⟨g26, 0, none⟩) 56 56] 30)) rfl rfl (by rfl) (exec_bslice 53 1 _ rfl _ (by exact bs_s1 g26 56 _)) (hH.alloc_ _) (fun hH => ?_) ?_
                                          · simp only [List.set_cons_zero, List.set_cons_succ]
                                            have hq28 : Blk (v209.alloc (.cells #[.slice (some ⟨g26, 0, none⟩) 56 56] 30)) v209.heap.size 30 #[.slice (some ⟨g26, 0, none⟩) 56 56] := Blk.new _ _ _
                                            replace bg26 := bg26.alloc (.cells #[.slice (some ⟨g26, 0, none⟩) 56 56] 30)
                                            clear hS5
                                            generalize v209.alloc (.cells #[.slice (some ⟨g26, 0, none⟩) 56 56] 30) = v210 at *
                                            generalize v209.heap.size = q28 at *
                                            have hS4 := hH
                                            refine wpAnyH_ready (rs := [29]) (by kernel_rfl) (by simp) ?_
                                            refine readyCons 3 29 38 rfl rfl (by rfl) (fun K hK => wp_callF 14 #[.slice (some ⟨q28, 0, none⟩) 1 1] (by go_simp) (ofB mLong 56 rfl (byt_of _ (by decide)) (by omega) _ (glob_freeze hg rfl hH) g26 q28 bg26 hq28) ?_) ?_
                                            · rintro e v211 ⟨rfl, bx⟩
                                              refine ⟨_, rfl, hK.out _ _ (hH.below bx) (fun hH => ?_)⟩
                                              clear hK K
                                              simp only [List.set_cons_zero, List.set_cons_succ]
                                              clear bx hS4 hq28 bg26 lg26
                                              have hS3 := hH
                                              refine wpAnyH_ready (rs := [31]) (by kernel_rfl) (by simp) ?_
                                              refine readyCons 2 31 40 rfl rfl (by rfl) (fun K hK => wp_callF 13 #[.agg (va .u8 (sha mLong)), .agg (va .u32 dLong)] (by go_simp) (isv_long _) ?_) ?_
                                              · rintro e v212 ⟨rfl, bx⟩
                                                refine ⟨_, rfl, hK.out _ _ (hH.below bx) (fun hH => ?_)⟩
                                                clear hK K
                                                simp only [List.set_cons_zero, List.set_cons_succ]
                                                clear bx hS3
                                                refine takeH 1 32 41 (.bool true) rfl rfl (by kernel_rfl) (by kernel_rfl) (by kernel_rfl) (fun _ _ _ h => h) (Or.inl ⟨by rfl, fun w _ => by go_simp⟩) hH ?_
                                                simp only [List.set_cons_zero, List.set_cons_succ]
                                                refine takeH 0 33 0 (.bool true) rfl rfl (by kernel_rfl) (by kernel_rfl) (by kernel_rfl) (fun _ _ _ h => h) (Or.inl ⟨by rfl, fun w _ => by go_simp⟩) hH ?_
                                                simp only [List.set_cons_zero]
                                                refine wpAnyH_done (by kernel_rfl) ?_ _
                                                go_wp2_with fail
                                                go_ret
                                                exact ⟨rfl, hH.bel⟩
                                              exact AllReadyH.nil
                                            exact AllReadyH.nil
                                          exact AllReadyH.nil
                                        exact AllReadyH.nil
                                      exact AllReadyH.nil
                                    exact AllReadyH.nil
                                  exact AllReadyH.nil
                                exact AllReadyH.nil
                              exact AllReadyH.nil
                            exact AllReadyH.nil
                          refine readyRun 15 18 27 (.slice (some ⟨v201.heap.size, 0, none⟩) 3 3) (v201.alloc (.cells (va .u8 [97, 98, 99]) 5)) rfl rfl (by rfl) (exec_bslice 30 3 _ rfl _ (by exact bs_abc _)) (hH.alloc_ _) (fun hH => ?_) ?_
                          · simp only [List.set_cons_zero, List.set_cons_succ]
                            have bg18 : Blk (v201.alloc (.cells (va .u8 [97, 98, 99]) 5)) v201.heap.size 5 (va .u8 [97, 98, 99]) := Blk.new _ _ _
                            have lg18 : w.heap.size + 1 < v201.heap.size := hS16.c.lt
                            clear hS16
                            generalize v201.alloc (.cells (va .u8 [97, 98, 99]) 5) = v213 at *
                            generalize v201.heap.size = g18 at *
                            have hS15 := hH
                            refine wpAnyH_ready (rs := [17, 19]) (by kernel_rfl) (by simp) ?_
                            refine readyCons 14 17 26 rfl rfl (by rfl) (fun K hK => wp_callF 15 #[] (by go_simp) (new_any _ (glob_freeze hg rfl hH)) ?_) ?_
                            · rintro e v214 ⟨rfl, bx⟩
                              refine ⟨_, rfl, hK.out _ _ (hH.below bx) (fun hH => ?_)⟩
                              clear hK K
                              simp only [List.set_cons_zero, List.set_cons_succ]
                              replace bg18 := bg18.below bx bg18.lt
                              clear bx hS15
                              have hS14 := hH
                              refine wpAnyH_ready (rs := [19]) (by kernel_rfl) (by simp) ?_
                              refine readyRun 13 19 28 (.slice (some ⟨g18, 0, none⟩) 3 3) (v214.freeze ⟨g18, 3, none⟩ 1) rfl rfl (by rfl) (exec_convW 30 30 _ rfl (.slice (some ⟨g18, 0, none⟩) 3 3) _ rfl (conv_blk bg18 (by rfl))) (hH.freeze_ _ _ lg18) (fun hH => ?_) ?_
                              · simp only [List.set_cons_zero, List.set_cons_succ]
                                replace bg18 := bg18.byB.freeze ⟨g18, 3, none⟩ 1
                                clear hS14
                                generalize v214.freeze ⟨g18, 3, none⟩ 1 = v215 at *
                                have hS13 := hH
                                refine wpAnyH_ready (rs := [20]) (by kernel_rfl) (by simp) ?_
                                refine readyCons 12 20 29 rfl rfl (by rfl) (fun K hK => wp_callF 16 #[.agg (stL true hL z64 0), .slice (some ⟨g18, 0, none⟩) 3 3] (by go_simp) (writeB _ (glob_freeze hg rfl hH) g18 bg18) ?_) ?_
                                · rintro e v216 ⟨h', r', n', rfl, hn3, hok, bx⟩
                                  refine ⟨_, rfl, hK.out _ _ (hH.below bx) (fun hH => ?_)⟩
                                  clear hK K
                                  simp only [List.set_cons_zero, List.set_cons_succ]
                                  clear bx hS13 bg18 lg18
                                  have hS12 := hH
                                  refine wpAnyH_ready (rs := [21]) (by kernel_rfl) (by simp) ?_
                                  refine readyCons 11 21 30 rfl rfl (by rfl) (fun K hK => wp_callF 17 #[.agg (stL true h' r' n')] (by go_simp) (sum_n [97, 98, 99] h' r' n' hn3 hok (by omega) _ (glob_freeze hg rfl hH)) ?_) ?_
                                  · rintro e v217 ⟨rfl, bx⟩
                                    refine ⟨_, rfl, hK.out _ _ (hH.below bx) (fun hH => ?_)⟩
                                    clear hK K
                                    simp only [List.set_cons_zero, List.set_cons_succ]
                                    clear bx hS12 hok hn3
                                    have hS11 := hH
                                    refine wpAnyH_ready (rs := [23]) (by kernel_rfl) (by simp) ?_
                                    refine readyCons 10 23 32 rfl rfl (by rfl) (fun K hK => wp_callF 13 #[.agg (va .u8 (sha [97, 98, 99])), .agg (va .u32 dAbc)] (by go_simp) (isv_abc _) ?_) ?_
                                    · rintro e v218 ⟨rfl, bx⟩
                                      refine ⟨_, rfl, hK.out _ _ (hH.below bx) (fun hH => ?_)⟩
                                      clear hK K
                                      simp only [List.set_cons_zero, List.set_cons_succ]
                                      clear bx hS11
                                      refine takeH 9 24 33 (.bool true) rfl rfl (by kernel_rfl) (by kernel_rfl) (by kernel_rfl) (fun _ _ _ h => h) (Or.inl ⟨by rfl, fun w _ => by go_simp⟩) hH ?_
                                      simp only [List.set_cons_zero, List.set_cons_succ]
                                      refine takeH 8 25 34 (.bool true) rfl rfl (by kernel_rfl) (by kernel_rfl) (by kernel_rfl) (fun _ _ _ h => h) (Or.inl ⟨by rfl, fun w _ => by go_simp⟩) hH ?_
                                      simp only [List.set_cons_zero, List.set_cons_succ]
                                      refine takeH 7 30 39 (.agg (va .u32 dLong)) rfl rfl (by kernel_rfl) (by kernel_rfl) (by kernel_rfl) (fun _ _ _ h => h) (yieldsIf_load_blk (by rfl) 23 (.tmp 2) rfl (w.heap.size + 1) rfl 23 (va .u32 dLong) _ (fun _ h => h.c) Tryd.underlying23 rfl (by kernel_rfl)) hH ?_
                                      simp only [List.set_cons_zero, List.set_cons_succ]
                                      have hS7 := hH
                                      refine wpAnyH_ready (rs := [26]) (by kernel_rfl) (by simp) ?_
                                      refine readyRun 6 26 35 (.slice (some ⟨v218.heap.size, 0, none⟩) 56 56) (v218.alloc (.cells (va .u8 mLong) 5)) rfl rfl (by rfl) (exec_bslice 30 56 _ rfl _ (by exact run_long _)) (hH.alloc_ _) (fun hH => ?_) ?_
                                      · simp only [List.set_cons_zero, List.set_cons_succ]
                                        have bg26 : Blk (v218.alloc (.cells (va .u8 mLong) 5)) v218.heap.size 5 (va .u8 mLong) := Blk.new _ _ _
                                        have lg26 : w.heap.size + 1 < v218.heap.size := hS7.c.lt
                                        clear hS7
                                        generalize v218.alloc (.cells (va .u8 mLong) 5) = v219 at *
                                        generalize v218.heap.size = g26 at *
                                        have hS6 := hH
                                        refine wpAnyH_ready (rs := [27]) (by kernel_rfl) (by simp) ?_
                                        refine readyRun 5 27 36 (.slice (some ⟨g26, 0, none⟩) 56 56) (v219.freeze ⟨g26, 56, none⟩ 1) rfl rfl (by rfl) (exec_convW 30 30 _ rfl (.slice (some ⟨g26, 0, none⟩) 56 56) _ rfl (conv_blk bg26 (by rfl))) (hH.freeze_ _ _ lg26) (fun hH => ?_) ?_
                                        · simp only [List.set_cons_zero, List.set_cons_succ]
                                          replace bg26 := bg26.byB.freeze ⟨g26, 56, none⟩ 1
                                          clear hS6
                                          generalize v219.freeze ⟨g26, 56, none⟩ 1 = v220 at *
                                          have hS5 := hH
                                          refine wpAnyH_ready (rs := [28]) (by kernel_rfl) (by simp) ?_
                                          refine readyRun 4 28 37 (.slice (some ⟨v220.heap.size, 0, none⟩) 1 1) (v220.alloc (.cells #[.slice (some ⟨g26, 0, none⟩) 56 56] 30)) rfl rfl (by rfl) (exec_bslice 53 1 _ rfl _ (by exact bs_s1 g26 56 _)) (hH.alloc_ _) (fun hH => ?_) ?_
                                          · simp only [List.set_cons_zero, List.set_cons_succ]
                                            have hq28 : Blk (v220.alloc (.cells #[.slice (some ⟨g26, 0, none⟩) 56 56] 30)) v220.heap.size 30 #[.slice (some ⟨g26, 0, none⟩) 56 56] := Blk.new _ _ _
                                            replace bg26 := bg26.alloc (.cells #[.slice (some ⟨g26, 0, none⟩) 56 56] 30)
                                            clear hS5
                                            generalize v220.alloc (.cells #[.slice (some ⟨g26, 0, none⟩) 56 56] 30) = v221 at *
                                            generalize v220.heap.size = q28 at *
                                            have hS4 := hH
                                            refine wpAnyH_ready (rs := [29]) (by kernel_rfl) (by simp) ?_
                                            refine readyCons 3 29 38 rfl rfl (by rfl) (fun K hK => wp_callF 14 #[.slice (some ⟨q28, 0, none⟩) 1 1] (by go_simp) (ofB mLong 56 rfl (byt_of _ (by decide)) (by omega) _ (glob_freeze hg rfl hH) g26 q28 bg26 hq28) ?_) ?_
                                            · rintro e v222 ⟨rfl, bx⟩
                                              refine ⟨_, rfl, hK.out _ _ (hH.below bx) (fun hH => ?_)⟩
                                              clear hK K
                                              simp only [List.set_cons_zero, List.set_cons_succ]
                                              clear bx hS4 hq28 bg26 lg26
                                              have hS3 := hH
                                              refine wpAnyH_ready (rs := [31]) (by kernel_rfl) (by simp) ?_
                                              refine readyCons 2 31 40 rfl rfl (by rfl) (fun K hK => wp_callF 13 #[.agg (va .u8 (sha mLong)), .agg (va .u32 dLong)] (by go_simp) (isv_long _) ?_) ?_
                                              · rintro e v223 ⟨rfl, bx⟩
                                                refine ⟨_, rfl, hK.out _ _ (hH.below bx) (fun hH => ?_)⟩
                                                clear hK K
                                                simp only [List.set_cons_zero, List.set_cons_succ]
                                                clear bx hS3
                                                refine takeH 1 32 41 (.bool true) rfl rfl (by kernel_rfl) (by kernel_rfl) (by kernel_rfl) (fun _ _ _ h => h) (Or.inl ⟨by rfl, fun w _ => by go_simp⟩) hH ?_
                                                simp only [List.set_cons_zero, List.set_cons_succ]
                                                refine takeH 0 33 0 (.bool true) rfl rfl (by kernel_rfl) (by kernel_rfl) (by kernel_rfl) (fun _ _ _ h => h) (Or.inl ⟨by rfl, fun w _ => by go_simp⟩) hH ?_
                                                simp only [List.set_cons_zero]
                                                refine wpAnyH_done (by kernel_rfl) ?_ _
                                                go_wp2_with fail
                                                go_ret
                                                exact ⟨rfl, hH.bel⟩
                                              exact AllReadyH.nil
                                            exact AllReadyH.nil
                                          exact AllReadyH.nil
                                        exact AllReadyH.nil
                                      exact AllReadyH.nil
                                    exact AllReadyH.nil
                                  exact AllReadyH.nil
                                exact AllReadyH.nil
                              exact AllReadyH.nil
                            refine readyRun 14 19 28 (.slice (some ⟨g18, 0, none⟩) 3 3) (v213.freeze ⟨g18, 3, none⟩ 1) rfl rfl (by rfl) (exec_convW 30 30 _ rfl (.slice (some ⟨g18, 0, none⟩) 3 3) _ rfl (conv_blk bg18 (by rfl))) (hH.freeze_ _ _ lg18) (fun hH => ?_) ?_
                            · simp only [List.set_cons_zero, List.set_cons_succ]
                              replace bg18 := bg18.byB.freeze ⟨g18, 3, none⟩ 1
                              clear hS15
                              generalize v213.freeze ⟨g18, 3, none⟩ 1 = v224 at *
                              have hS14 := hH
                              refine wpAnyH_ready (rs := [17]) (by kernel_rfl) (by simp) ?_
                              refine readyCons 13 17 26 rfl rfl (by rfl) (fun K hK => wp_callF 15 #[] (by go_simp) (new_any _ (glob_freeze hg rfl hH)) ?_) ?_
                              · rintro e v225 ⟨rfl, bx⟩
                                refine ⟨_, rfl, hK.out _ _ (hH.below bx) (fun hH => ?_)⟩
                                clear hK K
                                simp only [List.set_cons_zero, List.set_cons_succ]
                                replace bg18 := bg18.below bx bg18.lt
                                clear bx hS14
                                have hS13 := hH
                                refine wpAnyH_ready (rs := [20]) (by kernel_rfl) (by simp) ?_
                                refine readyCons 12 20 29 rfl rfl (by rfl) (fun K hK => wp_callF 16 #[.agg (stL true hL z64 0), .slice (some ⟨g18, 0, none⟩) 3 3] (by go_simp) (writeB _ (glob_freeze hg rfl hH) g18 bg18) ?_) ?_
                                · rintro e v226 ⟨h', r', n', rfl, hn3, hok, bx⟩
                                  refine ⟨_, rfl, hK.out _ _ (hH.below bx) (fun hH => ?_)⟩
                                  clear hK K
                                  simp only [List.set_cons_zero, List.set_cons_succ]
                                  clear bx hS13 bg18 lg18
                                  have hS12 := hH
                                  refine wpAnyH_ready (rs := [21]) (by kernel_rfl) (by simp) ?_
                                  refine readyCons 11 21 30 rfl rfl (by rfl) (fun K hK => wp_callF 17 #[.agg (stL true h' r' n')] (by go_simp) (sum_n [97, 98, 99] h' r' n' hn3 hok (by omega) _ (glob_freeze hg rfl hH)) ?_) ?_
                                  · rintro e v227 ⟨rfl, bx⟩
                                    refine ⟨_, rfl, hK.out _ _ (hH.below bx) (fun hH => ?_)⟩
                                    clear hK K
                                    simp only [List.set_cons_zero, List.set_cons_succ]
                                    clear bx hS12 hok hn3
                                    have hS11 := hH
                                    refine wpAnyH_ready (rs := [23]) (by kernel_rfl) (by simp) ?_
                                    refine readyCons 10 23 32 rfl rfl (by rfl) (fun K hK => wp_callF 13 #[.agg (va .u8 (sha [97, 98, 99])), .agg (va .u32 dAbc)] (by go_simp) (isv_abc _) ?_) ?_
                                    · rintro e v228 ⟨rfl, bx⟩
                                      refine ⟨_, rfl, hK.out _ _ (hH.below bx) (fun hH => ?_)⟩
                                      clear hK K
                                      simp only [List.set_cons_zero, List.set_cons_succ]
                                      clear bx hS11
                                      refine takeH 9 24 33 (.bool true) rfl rfl (by kernel_rfl) (by kernel_rfl) (by kernel_rfl) (fun _ _ _ h => h) (Or.inl ⟨by rfl, fun w _ => by go_simp⟩) hH ?_
                                      simp only [List.set_cons_zero, List.set_cons_succ]
                                      refine takeH 8 25 34 (.bool true) rfl rfl (by kernel_rfl) (by kernel_rfl) (by kernel_rfl) (fun _ _ _ h => h) (Or.inl ⟨by rfl, fun w _ => by go_simp⟩) hH ?_
                                      simp only [List.set_cons_zero, List.set_cons_succ]
                                      refine takeH 7 30 39 (.agg (va .u32 dLong)) rfl rfl (by kernel_rfl) (by kernel_rfl) (by kernel_rfl) (fun _ _ _ h => h) (yieldsIf_load_blk (by rfl) 23 (.tmp 2) rfl (w.heap.size + 1) rfl 23 (va .u32 dLong) _ (fun _ h => h.c) Tryd.underlying23 rfl (by kernel_rfl)) hH ?_
                                      simp only [List.set_cons_zero, List.set_cons_succ]
                                      have hS7 := hH
                                      refine wpAnyH_ready (rs := [26]) (by kernel_rfl) (by simp) ?_
                                      refine readyRun 6 26 35 (.slice (some ⟨v228.heap.size, 0, none⟩) 56 56) (v228.alloc (.cells (va .u8 mLong) 5)) rfl rfl (by rfl) (exec_bslice 30 56 _ rfl _ (by exact run_long _)) (hH.alloc_ _) (fun hH => ?_) ?_
                                      · simp only [List.set_cons_zero, List.set_cons_succ]
                                        have bg26 : Blk (v228.alloc (.cells (va .u8 mLong) 5)) v228.heap.size 5 (va .u8 mLong) := Blk.new _ _ _
                                        have lg26 : w.heap.size + 1 < v228.heap.size := hS7.c.lt
                                        clear hS7
                                        generalize v228.alloc (.cells (va .u8 mLong) 5) = v229 at *
                                        generalize v228.heap.size = g26 at *
                                        have hS6 := hH
                                        refine wpAnyH_ready (rs := [27]) (by kernel_rfl) (by simp) ?_
                                        refine readyRun 5 27 36 (.slice (some ⟨g26, 0, none⟩) 56 56) (v229.freeze ⟨g26, 56, none⟩ 1) rfl rfl (by rfl) (exec_convW 30 30 _ rfl (.slice (some ⟨g26, 0, none⟩) 56 56) _ rfl (conv_blk bg26 (by rfl))) (hH.freeze_ _ _ lg26) (fun hH => ?_) ?_
                                        · simp only [List.set_cons_zero, List.set_cons_succ]
                                          replace bg26 := bg26.byB.freeze ⟨g26, 56, none⟩ 1
                                          clear hS6
                                          generalize v229.freeze ⟨g26, 56, none⟩ 1 = v230 at *
                                          have hS5 := hH
                                          refine wpAnyH_ready (rs := [28]) (by kernel_rfl) (by simp) ?_
                                          refine readyRun 4 28 37 (.slice (some ⟨v230.heap.size, 0, none⟩) 1 1) (v230.alloc (.cells #[.slice (some ⟨g26, 0, none⟩) 56 56] 30)) rfl rfl (by rfl) (exec_bslice 53 1 _ rfl _ (by exact bs_s1 g26 56 _)) (hH.alloc_ _) (fun hH => ?_) ?_
                                          · simp only [List.set_cons_zero, List.set_cons_succ]
                                            have hq28 : Blk (v230.alloc (.cells #[.slice (some ⟨g26, 0, none⟩) 56 56] 30)) v230.heap.size 30 #[.slice (some ⟨g26, 0, none⟩) 56 56] := Blk.new _ _ _
                                            replace bg26 := bg26.alloc (.cells #[.slice (some ⟨g26, 0, none⟩) 56 56] 30)
                                            clear hS5
                                            generalize v230.alloc (.cells #[.slice (some ⟨g26, 0, none⟩) 56 56] 30) = v231 at *
                                            generalize v230.heap.size = q28 at *
                                            have hS4 := hH
                                            refine wpAnyH_ready (rs := [29]) (by kernel_rfl) (by simp) ?_
                                            refine readyCons 3 29 38 rfl rfl (by rfl) (fun K hK => wp_callF 14 #[.slice (some ⟨q28, 0, none⟩) 1 1] (by go_simp) (ofB mLong 56 rfl (byt_of _ (by decide)) (by omega) _ (glob_freeze hg rfl hH) g26 q28 bg26 hq28) ?_) ?_
                                            · rintro e v232 ⟨rfl, bx⟩
                                              refine ⟨_, rfl, hK.out _ _ (hH.below bx) (fun hH => ?_)⟩
                                              clear hK K
                                              simp only [List.set_cons_zero, List.set_cons_succ]
                                              clear bx hS4 hq28 bg26 lg26
                                              have hS3 := hH
                                              refine wpAnyH_ready (rs := [31]) (by kernel_rfl) (by simp) ?_
                                              refine readyCons 2 31 40 rfl rfl (by rfl) (fun K hK => wp_callF 13 #[.agg (va .u8 (sha mLong)), .agg (va .u32 dLong)] (by go_simp) (isv_long _) ?_) ?_
                                              · rintro e v233 ⟨rfl, bx⟩
                                                refine ⟨_, rfl, hK.out _ _ (hH.below bx) (fun hH => ?_)⟩
                                                clear hK K
                                                simp only [List.set_cons_zero, List.set_cons_succ]
                                                clear bx hS3
                                                refine takeH 1 32 41 (.bool true) rfl rfl (by kernel_rfl) (by kernel_rfl) (by kernel_rfl) (fun _ _ _ h => h) (Or.inl ⟨by rfl, fun w _ => by go_simp⟩) hH ?_
                                                simp only [List.set_cons_zero, List.set_cons_succ]
                                                refine takeH 0 33 0 (.bool true) rfl rfl (by kernel_rfl) (by kernel_rfl) (by kernel_rfl) (fun _ _ _ h => h) (Or.inl ⟨by rfl, fun w _ => by go_simp⟩) hH ?_
                                                simp only [List.set_cons_zero]
                                                refine wpAnyH_done (by kernel_rfl) ?_ _
                                                go_wp2_with fail
                                                go_ret
                                                exact ⟨rfl, hH.bel⟩
                                              exact AllReadyH.nil
                                            exact AllReadyH.nil
                                          exact AllReadyH.nil
                                        exact AllReadyH.nil
                                      exact AllReadyH.nil
                                    exact AllReadyH.nil
                                  exact AllReadyH.nil
                                exact AllReadyH.nil
                              exact AllReadyH.nil
                            exact AllReadyH.nil
                          exact AllReadyH.nil
                        exact AllReadyH.nil
                      exact AllReadyH.nil
                    exact AllReadyH.nil
                  exact AllReadyH.nil
                exact AllReadyH.nil
              exact AllReadyH.nil
            exact AllReadyH.nil
          exact AllReadyH.nil
        exact AllReadyH.nil
      exact AllReadyH.nil
    exact AllReadyH.nil
  exact AllReadyH.nil
end Go.Proofs.YtbjgkolblfpakaaDoor
