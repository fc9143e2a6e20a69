/-
  The walk of the iterator of streams.blocks: it never ends by itself and counts in a cell. (Printed by mkxor07.py.)
-/
import Derived.Test.YtpcdckhabaoieaaStm1
import Derived.Test.YtpcdckhabaoieaaRng
namespace Go.Proofs.Ytpcdckhabaoieaa
open Go.RowKit Sh
theorem sz_sched (l : List Nat) (h : l.length = 176) : (Try.prog.info? 50).map (·.size) = some (va .u8 l).size := by rw [va_size, h]; kernel_rfl
theorem zv_sched (w : World) : (zeroValue 50).run Try.prog w = .ok (.agg (va .u8 (List.replicate 176 0))) w := by kernel_rfl
def ctrIs (w : World) (cB : Nat) : Nat := match w.cell? ⟨cB, 0, none⟩ with | some (.int _ z) => z.toNat | _ => 0
theorem ctr_is {w : World} {g v : Nat} {T : TypeId} (h : Blk w g T #[.int .u32 (v : Int)]) : ctrIs w g = v := by
  unfold ctrIs
  rw [h.cellIs 0 rfl]
  simp
theorem Blk.held {lo g : Nat} {A B : World} {T : TypeId} {cs : Array Value} (h : Blk A g T cs) (hh : Holds lo A B) (hg : lo ≤ g) : Blk B g T cs := hh.cells _ _ hg h rfl

set_option maxRecDepth 8000 in
set_option maxHeartbeats 2000000 in
theorem blocks_ends (key : List Nat) (s c c0 : Nat) (hkl : key.length = 16) (hkb : Byt key) (hs : s < 4294967296) (p1 p2 p3 lo M : Nat) (hM : c0 + M ≤ 4294967296) (w0 : World) (hp1 : Blk w0 p1 22 (va .u8 key)) (hp2 : Blk w0 p2 26 (noV s c))
    (hp3 : Blk w0 p3 23 #[.int .u32 (c0 : Int)]) (hl1 : lo ≤ p1) (hl2 : lo ≤ p2) (hl3 : lo ≤ p3) (n13 : p1 ≠ p3) (n23 : p2 ≠ p3) :
    Endless Try.prog 39 #[.pointer (some ⟨p1, 0, none⟩), .pointer (some ⟨p2, 0, none⟩), .pointer (some ⟨p3, 0, none⟩)] (fun k => .agg (va .u8 (sbl key s c (c0 + k)))) lo p3 M w0 := by
  intro n l N J Jx hNM hJb hJc hY w hH0 h0
  replace hp1 := hp1.held hH0 hl1
  replace hp2 := hp2.held hH0 hl2
  replace hp3 := hp3.held hH0 hl3
  have hlw : lo ≤ w.heap.size := Nat.le_trans hl1 (Nat.le_of_lt hp1.lt)
  have hYq := Lib.hid hY
  have hJbq := Lib.hid hJb
  have hJcq := Lib.hid hJc
  clear hY hJb hJc hH0
  refine callsIn_of_wp Try.func39 rfl trivial ?_
  refine (wpIn_wide (n := n)).2 ?_
  simp only [Try.ntmps39, List.size_toArray, List.length_cons, List.length_nil, Nat.reduceAdd, Nat.reduceSub, Array.replicate_succ, Array.replicate_zero, List.push_toArray, List.append_toArray, List.nil_append, List.cons_append]
  obtain ⟨B0, hB0e⟩ : ∃ b, w.heap.size = b := ⟨_, rfl⟩
  have hW : Below B0 w w := by rw [← hB0e]; exact Below.refl _ _
  have hB0 : B0 ≤ w.heap.size := by omega
  rw [hB0e] at hlw
  have hB0q := Lib.hid hB0e
  clear hB0e
  go_upto_region 0 with fail
  refine wl_lit ?_
  refine runL 6 (.agg (va .u8 (key))) rfl (by rfl) (exec_row 22 (.tmp 1) rfl p1 rfl 22 (va .u8 (key)) _ hp1 (by exact Try.underlying22) rfl (sz__16_uint8 _ (hkl))) ?_
  simp only [List.set_cons_zero, List.set_cons_succ]
  refine callL 7 rfl (by rfl) (fun K hK => wp_callF 18 #[.agg (va .u8 (key))] (by go_simp) (expand_any key hkl hkb _) ?_)
  rintro e w1 ⟨rfl, bx⟩
  replace hp1 := hp1.below bx hp1.lt
  replace hp2 := hp2.below bx hp2.lt
  replace hp3 := hp3.below bx hp3.lt
  replace hW := hW.trans (bx.mono (Nat.le_trans hB0 hW.size))
  clear bx
  refine ⟨_, rfl, hK.out _ _ ?_⟩
  clear hK K
  simp only [List.set_cons_zero, List.set_cons_succ]
  refine runWL 5 (.pointer (some ⟨w1.heap.size, 0, none⟩)) (w1.alloc (.cells (va .u8 (List.replicate 176 0)) 50)) rfl (by rfl) (exec_allocV 50 rfl _ (zv_sched _)) ?_
  simp only [List.set_cons_zero, List.set_cons_succ]
  have lp1_p5 := hp1.lt
  have lp2_p5 := hp2.lt
  have lp3_p5 := hp3.lt
  have lw_p5 := Nat.le_trans hB0 hW.size
  have hp5 : Blk (w1.alloc (.cells (va .u8 (List.replicate 176 0)) 50)) w1.heap.size 50 (va .u8 (List.replicate 176 0)) := Blk.new _ _ _
  replace hp1 := hp1.alloc (.cells (va .u8 (List.replicate 176 0)) 50)
  replace hp2 := hp2.alloc (.cells (va .u8 (List.replicate 176 0)) 50)
  replace hp3 := hp3.alloc (.cells (va .u8 (List.replicate 176 0)) 50)
  replace hW := hW.alloc (Nat.le_trans hB0 hW.size) (.cells (va .u8 (List.replicate 176 0)) 50)
  generalize w1.alloc (.cells (va .u8 (List.replicate 176 0)) 50) = w2 at *
  generalize w1.heap.size = p5 at hp5 lw_p5 lp1_p5 lp2_p5 lp3_p5 ⊢
  refine runSL (w2.setRow p5 (va .u8 (Ci.exL key))) rfl (by rfl) (exec_storeRow 50 (.tmp 5) (.tmp 7) rfl p5 rfl (va .u8 (Ci.exL key)) rfl 50 (va .u8 (List.replicate 176 0)) hp5 (sz_eq (sz_sched _ (List.length_replicate)) (sz_sched _ (Ci.exL_len key))) (sz_sched _ (Ci.exL_len key)) (va_ones .u8 _)) ?_
  replace hp1 := hp1.rowFar (show p5 ≠ p1 from (by omega)) (va .u8 (Ci.exL key))
  replace hp2 := hp2.rowFar (show p5 ≠ p2 from (by omega)) (va .u8 (Ci.exL key))
  replace hp3 := hp3.rowFar (show p5 ≠ p3 from (by omega)) (va .u8 (Ci.exL key))
  replace hp5 := hp5.row (va .u8 (Ci.exL key))
  replace hW := below_setRow hW lw_p5 (va .u8 (Ci.exL key))
  generalize w2.setRow p5 (va .u8 (Ci.exL key)) = w3 at *
  refine nilL ?_
  have hl5 : lo ≤ p5 := Nat.le_trans hlw lw_p5
  have n53 : p5 ≠ p3 := by omega
  clear lw_p5 lp1_p5 lp2_p5 lp3_p5
  have hj := hJbq.out 0 _ _ h0 (by rw [hB0q.out]; exact hW)
  clear h0
  go_wp2
  go_loopw [15] (fun _ wr => ∃ k : Nat, J k wr ∧ Blk wr p1 22 (va .u8 key) ∧ Blk wr p2 26 (noV s c) ∧ Blk wr p3 23 #[.int .u32 ((c0 + k : Nat) : Int)] ∧ Blk wr p5 50 (va .u8 (Ci.exL key))) (fun _ wr => c0 + N - ctrIs wr p3)
  case atStart => exact ⟨0, hj, hp1, hp2, hp3, hp5⟩
  case round =>
    clear hp1 hp2 hp3 hp5 hW hj
    obtain ⟨k, hj, hp1, hp2, hp3, hp5⟩ := hrel
    obtain ⟨hkN, -⟩ := hYq.out k _ hj
    have hck : c0 + k < 4294967296 := by omega
    have hlr : lo ≤ wr.heap.size := Nat.le_trans hl1 (Nat.le_of_lt hp1.lt)
    generalize wr = w at *
    have hm0 := Lib.hid (ctr_is hp3)
    obtain ⟨B0, hB0e⟩ : ∃ b, w.heap.size = b := ⟨_, rfl⟩
    have hW : Below B0 w w := by rw [← hB0e]; exact Below.refl _ _
    have hB0 : B0 ≤ w.heap.size := by omega
    have hB0q := Lib.hid hB0e
    clear hB0e
    go_upto_region 1 with fail
    refine region_last (n := n) (S := fun wr => Blk wr p1 22 (va .u8 (key)) ∧ Blk wr p2 26 (noV s c) ∧ Blk wr p3 23 (#[.int .u32 ((c0 + k : Nat) : Int)]) ∧ Blk wr p5 50 (va .u8 (Ci.exL key)) ∧ Below B0 w wr) 6 _ (by kernel_rfl) rfl rfl (by kernel_rfl) (by kernel_rfl) (by rintro ⟨_, _, ⟨_, h⟩, _⟩; cases h) ⟨hp1.drew, hp2.drew, hp3.drew, hp5.drew, below_drewN hW 1⟩ (fun hH => ?_)
    simp only [List.take_succ_cons, List.take_zero]
    clear hp1 hp2 hp3 hp5 hW
    obtain ⟨hp1, hp2, hp3, hp5, hW⟩ := hH
    generalize w.drew = w4 at *
    refine takeH 5 0 8 (.func (.yield l) #[] #[]) rfl rfl (by kernel_rfl) (by kernel_rfl) (by kernel_rfl) (fun _ _ _ h => h) (Or.inl ⟨by rfl, fun w _ => by go_simp⟩) ⟨hp1, hp2, hp3, hp5, hW⟩ ?_
    simp only [List.set_cons_zero, List.set_cons_succ]
    refine takeH 4 1 9 (.agg (va .u8 (Ci.exL key))) rfl rfl (by kernel_rfl) (by kernel_rfl) (by kernel_rfl) (fun _ _ _ h => h) (Or.inl ⟨by rfl, fun _ h => exec_row 50 (.tmp 5) rfl p5 rfl 50 (va .u8 (Ci.exL key)) _ h.2.2.2.1 (by exact Try.underlying50) rfl (sz_sched _ (Ci.exL_len key))⟩) ⟨hp1, hp2, hp3, hp5, hW⟩ ?_
    simp only [List.set_cons_zero, List.set_cons_succ]
    refine takeH 3 2 10 (.agg (noV s c)) rfl rfl (by kernel_rfl) (by kernel_rfl) (by kernel_rfl) (fun _ _ _ h => h) (Or.inl ⟨by rfl, fun _ h => exec_row 26 (.tmp 2) rfl p2 rfl 26 (noV s c) _ h.2.1 (by exact Try.underlying26) rfl (noV_sz _ _)⟩) ⟨hp1, hp2, hp3, hp5, hW⟩ ?_
    simp only [List.set_cons_zero, List.set_cons_succ]
    refine takeH 2 3 11 (.int .u32 (((c0 + k : Nat) : Int))) rfl rfl (by kernel_rfl) (by kernel_rfl) (by kernel_rfl) (fun _ _ _ h => h) (Or.inl ⟨by rfl, fun _ h => exec_cell 23 (.tmp 3) rfl p3 0 rfl (.int .u32 (((c0 + k : Nat) : Int))) _ Try.underlying23 rfl (h.2.2.1.cellIs 0 rfl)⟩) ⟨hp1, hp2, hp3, hp5, hW⟩ ?_
    simp only [List.set_cons_zero, List.set_cons_succ]
    refine wpAnyH_ready (by kernel_rfl) (by simp) (readyCons 1 4 12 rfl rfl (by rfl) (fun K hK => wp_callF 20 #[.agg (noV s c), .int .u32 (((c0 + k : Nat) : Int))] (by go_simp) (counter_any s c (c0 + k) hs hck _) ?_) AllReadyH.nil)
    rintro e w5 ⟨rfl, bx⟩
    replace hp1 := hp1.below bx hp1.lt
    replace hp2 := hp2.below bx hp2.lt
    replace hp3 := hp3.below bx hp3.lt
    replace hp5 := hp5.below bx hp5.lt
    replace hW := hW.trans (bx.mono (Nat.le_trans hB0 hW.size))
    clear bx
    refine ⟨_, rfl, hK.out _ _ ⟨hp1, hp2, hp3, hp5, hW⟩ (fun _ => ?_)⟩
    clear hK K
    simp only [List.set_cons_zero, List.set_cons_succ]
    refine wpAnyH_ready (by kernel_rfl) (by simp) (readyCons 0 5 13 rfl rfl (by rfl) (fun K hK => wp_callF 19 #[.agg (va .u8 (Ci.exL key)), .agg (va .u8 (cbl s c (c0 + k)))] (by go_simp) (encrypt_any (Ci.exL key) (cbl s c (c0 + k)) (Ci.exL_len key) (cbl_len _ _ _) (Ci.exL_byt hkb) (cbl_byt _ _ _) _) ?_) AllReadyH.nil)
    rintro e w6 ⟨rfl, bx⟩
    replace hp1 := hp1.below bx hp1.lt
    replace hp2 := hp2.below bx hp2.lt
    replace hp3 := hp3.below bx hp3.lt
    replace hp5 := hp5.below bx hp5.lt
    replace hW := hW.trans (bx.mono (Nat.le_trans hB0 hW.size))
    clear bx
    refine ⟨_, rfl, hK.out _ _ ⟨hp1, hp2, hp3, hp5, hW⟩ (fun _ => ?_)⟩
    clear hK K
    simp only [List.set_cons_zero, List.set_cons_succ]
    refine wpAnyH_done (by kernel_rfl) ?_ _
    have hj6 := hJbq.out k _ _ hj (by rw [hB0q.out]; exact hW)
    obtain ⟨-, fn, tmps, assign, body, hy, hR⟩ := hYq.out k _ hj6
    refine ⟨fun _ _ => trivial, ?_⟩
    clear hj hj6
    simp only [sbl] at hy
    go_simp
    refine ⟨by simp [Fence.wide], hR.mono ?_⟩
    clear hR hy
    rintro e w9 (⟨rfl, hj, hh⟩ | ⟨rfl, hx⟩)
    · replace hp1 := hp1.held hh hl1
      replace hp2 := hp2.held hh hl2
      replace hp3 := hp3.held hh hl3
      replace hp5 := hp5.held hh hl5
      obtain ⟨hkN2, -⟩ := hYq.out (k + 1) _ hj
      have hc3 := hp3.cellIs 0 rfl
      have hf3 := hp3.frozen 0
      have hcI : IntKind.u32.wrap (((c0 + k : Nat) : Int) + 1) = ((c0 + (k + 1) : Nat) : Int) := by simp [IntKind.wrap, IntKind.bits, IntKind.signed]; omega
      have hjc := hJcq.out (k + 1) _ (.int .u32 ((c0 + (k + 1) : Nat) : Int)) hj
      have h1 := hp1.far (p := ⟨p3, 0, none⟩) n13 (.int .u32 ((c0 + (k + 1) : Nat) : Int))
      have h2 := hp2.far (p := ⟨p3, 0, none⟩) n23 (.int .u32 ((c0 + (k + 1) : Nat) : Int))
      have h5 := hp5.far (p := ⟨p3, 0, none⟩) n53 (.int .u32 ((c0 + (k + 1) : Nat) : Int))
      have h3 := hp3.set_ 0 (.int .u32 ((c0 + (k + 1) : Nat) : Int))
      have qs := Lib.hid (And.intro hjc (And.intro h1 (And.intro h2 (And.intro h3 h5))))
      clear hjc h1 h2 h3 h5 hp1 hp2 hp5 hj
      go_wp2
      go_roundw
      case rel => exact ⟨k + 1, qs.out.1, qs.out.2.1, qs.out.2.2.1, qs.out.2.2.2.1, qs.out.2.2.2.2⟩
      case measure =>
        have e := ctr_is (v := c0 + (k + 1)) qs.out.2.2.2.1
        refine Nat.lt_of_le_of_lt (Nat.le_of_eq (congrArg (c0 + N - ·) e)) ?_
        have e0 := hm0.out
        show c0 + N - (c0 + (k + 1)) < c0 + N - ctrIs w p3
        rw [e0]
        omega
    · go_wp2
      go_end0
      exact ⟨⟨_, rfl⟩, hx⟩

set_option maxRecDepth 8000 in
set_option maxHeartbeats 2000000 in
theorem blocks_any (key : List Nat) (s c c0 : Nat) (hkl : key.length = 16) (w : World) :
    Calls Try.prog 26 #[.agg (va .u8 key), .agg (noV s c), .int .u32 (c0 : Int)] w fun e w' => ∃ p1 p2 p3, e = .returned (.func (.func 39) #[] #[.pointer (some ⟨p1, 0, none⟩), .pointer (some ⟨p2, 0, none⟩), .pointer (some ⟨p3, 0, none⟩)]) ∧
      Blk w' p1 22 (va .u8 key) ∧ Blk w' p2 26 (noV s c) ∧ Blk w' p3 23 #[.int .u32 (c0 : Int)] ∧ w.heap.size ≤ p1 ∧ w.heap.size ≤ p2 ∧ w.heap.size ≤ p3 ∧ Below w.heap.size w w' := by
  obtain ⟨B0, hB0e⟩ : ∃ b, w.heap.size = b := ⟨_, rfl⟩
  rw [hB0e]
  have hW : Below B0 w w := by rw [← hB0e]; exact Below.refl _ _
  have hB0 : B0 ≤ w.heap.size := by omega
  have hB0q := Lib.hid hB0e
  clear hB0e
  go_enter Try.func26, Try.ntmps26
  go_upto_region 0 with fail
  refine wl_lit ?_
  refine runWL 3 (.pointer (some ⟨w.heap.size, 0, none⟩)) (w.alloc (.cells (va .u8 (key)) 22)) rfl (by rfl) (exec_box 22 (.tmp 0) rfl (.agg (va .u8 (key))) rfl) ?_
  simp only [List.set_cons_zero, List.set_cons_succ]
  have lw_p3 := Nat.le_trans hB0 hW.size
  have hp3 : Blk (w.alloc (.cells (va .u8 (key)) 22)) w.heap.size 22 (va .u8 (key)) := Blk.new _ _ _
  replace hW := hW.alloc (Nat.le_trans hB0 hW.size) (.cells (va .u8 (key)) 22)
  generalize w.alloc (.cells (va .u8 (key)) 22) = w1 at *
  generalize w.heap.size = p3 at hp3 lw_p3  ⊢
  refine runWL 4 (.pointer (some ⟨w1.heap.size, 0, none⟩)) (w1.alloc (.cells (noV s c) 26)) rfl (by rfl) (exec_box 26 (.tmp 1) rfl (.agg (noV s c)) rfl) ?_
  simp only [List.set_cons_zero, List.set_cons_succ]
  have lp3_p4 := hp3.lt
  have lw_p4 := Nat.le_trans hB0 hW.size
  have hp4 : Blk (w1.alloc (.cells (noV s c) 26)) w1.heap.size 26 (noV s c) := Blk.new _ _ _
  replace hp3 := hp3.alloc (.cells (noV s c) 26)
  replace hW := hW.alloc (Nat.le_trans hB0 hW.size) (.cells (noV s c) 26)
  generalize w1.alloc (.cells (noV s c) 26) = w2 at *
  generalize w1.heap.size = p4 at hp4 lw_p4 lp3_p4 ⊢
  refine runWL 5 (.pointer (some ⟨w2.heap.size, 0, none⟩)) (w2.alloc (.cells (#[.int .u32 ((c0 : Nat) : Int)]) 23)) rfl (by rfl) (exec_box 23 (.tmp 2) rfl (.int .u32 ((c0 : Nat) : Int)) rfl) ?_
  simp only [List.set_cons_zero, List.set_cons_succ]
  have lp3_p5 := hp3.lt
  have lp4_p5 := hp4.lt
  have lw_p5 := Nat.le_trans hB0 hW.size
  have hp5 : Blk (w2.alloc (.cells (#[.int .u32 ((c0 : Nat) : Int)]) 23)) w2.heap.size 23 (#[.int .u32 ((c0 : Nat) : Int)]) := Blk.new _ _ _
  replace hp3 := hp3.alloc (.cells (#[.int .u32 ((c0 : Nat) : Int)]) 23)
  replace hp4 := hp4.alloc (.cells (#[.int .u32 ((c0 : Nat) : Int)]) 23)
  replace hW := hW.alloc (Nat.le_trans hB0 hW.size) (.cells (#[.int .u32 ((c0 : Nat) : Int)]) 23)
  generalize w2.alloc (.cells (#[.int .u32 ((c0 : Nat) : Int)]) 23) = w3 at *
  generalize w2.heap.size = p5 at hp5 lw_p5 lp3_p5 lp4_p5 ⊢
  refine runL 6 (.nilFunc) rfl (by rfl) (by go_simp) ?_
  simp only [List.set_cons_zero, List.set_cons_succ]
  refine nilL ?_
  go_upto_region 1 with fail
  refine wl_lit ?_
  refine runL 7 (.func (.func 39) #[] #[.pointer (some ⟨p3, 0, none⟩), .pointer (some ⟨p4, 0, none⟩), .pointer (some ⟨p5, 0, none⟩)]) rfl (by rfl) (by go_simp) ?_
  simp only [List.set_cons_zero, List.set_cons_succ]
  refine runL 6 (.func (.func 39) #[] #[.pointer (some ⟨p3, 0, none⟩), .pointer (some ⟨p4, 0, none⟩), .pointer (some ⟨p5, 0, none⟩)]) rfl (by rfl) (by go_simp) ?_
  simp only [List.set_cons_zero, List.set_cons_succ]
  refine nilL ?_
  go_wp2_with fail
  go_ret
  exact ⟨_, _, _, rfl, hp3, hp4, hp5, lw_p3, lw_p4, lw_p5, hW⟩
end Go.Proofs.Ytpcdckhabaoieaa
