/-
  The plain law of derived keys; the walks of derives.parts and of its iterator. (Printed by mkdrv04.py.)
-/
import Derived.Test.YtcdmbknmmnaocaaDoorRngX
import Derived.Test.YtcdmbknmmnaocaaDoorHwIn
import Derived.Test.YtcdmbknmmnaocaaDoorMac2
import Derived.Test.YtcdmbknmmnaocaaDoorJoin
import Derived.Test.YtcdmbknmmnaocaaDoorRsum
namespace Go.Proofs.YtcdmbknmmnaocaaDoor
open Go.RowKit Sh
section
variable {P : Program} {n : Nat}
/-- a region in order outside of rounds: its head in the plain calculus, the rest in the fenced one -/
theorem listIn_pre {ops : Array Oper} {Q : Exit → Act → World → Prop} (l2 : List Oper) : ∀ (l1 : List Oper) (a : Act) (w : World),
    wpList P ops (Exit.then (fun a w => wpListIn Fence.wide n P ops Q l2 a w) (fun _ _ _ => False)) l1 a w → wpListIn Fence.wide n P ops Q (l1 ++ l2) a w
  | [], _, _, h => h
  | o :: l, a, w, h => by
    unfold wpList at h
    rw [List.cons_append]
    unfold wpListIn
    by_cases hw : Region.wanted o (yielded ops a.tmps) = true
    · rw [if_pos hw] at h ⊢
      rcases h with h | h
      · exact opIn_of_op (fun a w hh => listIn_pre l2 l a w hh) (fun _ _ _ hh => hh.elim) (fun ⟨a, w, hh⟩ => hh.elim) h
      · obtain ⟨a, w, hh⟩ := h.2
        exact hh.elim
    · rw [if_neg hw] at h ⊢
      exact ⟨fun _ _ => trivial, listIn_pre l2 l _ w h⟩
theorem wl_split (k : Nat) {id : Nat} {l : List Oper} {Q : Exit → Act → World → Prop} {a : Act} {w : World} (h : WL P l.toArray (Exit.then (fun a w => wpListIn Fence.wide n P l.toArray Q (l.drop k) a w) (fun _ _ _ => False)) (l.take k) a w) :
    (Code.region id l.toArray false).wp P Q a w :=
  (wpIn_wide (n := n)).1 (wpIn_region_lit (by
    have := listIn_pre (l.drop k) (l.take k) a w h.out
    rwa [List.take_append_drop] at this))
theorem listIn_all {ops : Array Oper} {Q : Exit → Act → World → Prop} (l : List Oper) (a : Act) (w : World) (h : WL P ops (Exit.then (fun a w => Q .normal a w) (fun _ _ _ => False)) l a w) : wpListIn Fence.wide n P ops Q l a w := by
  have := listIn_pre (n := n) (P := P) (ops := ops) (Q := Q) [] l a w h.out
  rwa [List.append_nil] at this
end
/-- the k-th part, the 0th is empty -/
def tk (key info : List Nat) : Nat → List Nat
  | 0 => []
  | k + 1 => hm key (tk key info k ++ (info ++ [k + 1]))
theorem tk_byt (key info : List Nat) (k : Nat) : Byt (tk key info k) := by
  cases k with
  | zero => exact Byt.nil
  | succ k => exact hm_byt _ _
theorem tk_len (key info : List Nat) (k : Nat) : (tk key info (k + 1)).length = 32 := hm_len _ _
theorem tk_le (key info : List Nat) (k : Nat) : (tk key info k).length ≤ 32 := by
  cases k with
  | zero => simp [tk]
  | succ k => rw [tk_len]; exact Nat.le_refl _
/-- the slice reads the bytes l; its block, if it has one, is a digest's from lo on -/
def LastIs (W : World) (lo : Nat) (A : Option Addr) (n : Nat) (l : List Nat) : Prop :=
  (A = none ∧ n = 0 ∧ l = []) ∨ ∃ g, A = some ⟨g, 0, none⟩ ∧ lo ≤ g ∧ n = 32 ∧ l.length = 32 ∧ Blk W g 25 (va .u8 l)
theorem LastIs.reads {W : World} {lo n : Nat} {A : Option Addr} {l : List Nat} (h : LastIs W lo A n l) : Reads W W.heap.size 1 A n (nv .u8 l) := by
  rcases h with ⟨rfl, rfl, rfl⟩ | ⟨g, rfl, _, rfl, hl, hb⟩
  · exact Reads.none_
  · exact hb.readsAll hb.lt hl
theorem LastIs.le {W : World} {lo n : Nat} {A : Option Addr} {l : List Nat} (h : LastIs W lo A n l) : n ≤ 32 := by
  rcases h with ⟨rfl, rfl, rfl⟩ | ⟨g, rfl, _, rfl, hl, hb⟩ <;> omega
theorem Blk.heldD {lo g : Nat} {A B : World} {T : TypeId} {cs : Array Value} (h : Blk A g T cs) (hh : Holds lo A B) (hg : lo ≤ g) : Blk B g T cs := hh.cells _ _ hg h rfl
theorem macof_to (key : List Nat) (A : Option Addr) (n c B : Nat) (ms : List (List Nat)) (t : List Nat) (ht : hm key ms.flatten = t) (A2 : Option Addr) (n2 c2 B2 : Nat) (hk : Byt key) (hnc : n ≤ c) (hn : n < 100000) (hn2 : n2 < 1000) (hlen : ms.flatten.length < 100000) (w : World) (hg : Glob w)
    (hr : Reads w B 1 A n (nv .u8 key)) (hB : B ≤ w.heap.size) (hp : Parts w B2 A2 n2 ms) (hB2 : B2 ≤ w.heap.size) :
    Calls Tryd.prog 17 #[.slice A n c, .slice A2 n2 c2] w fun e w' => e = .returned (.agg (va .u8 t)) ∧ Below w.heap.size w w' := by
  subst ht; exact macof_any key A n c B ms A2 n2 c2 B2 hk hnc hn hn2 hlen w hg hr hB hp hB2

set_option maxRecDepth 8000 in
set_option maxHeartbeats 4000000 in
theorem parts_ends (key info : List Nat) (A : Option Addr) (n c B : Nat) (A2 : Option Addr) (n2 c2 B2 : Nat) (hk : Byt key) (hi : Byt info) (hnc : n ≤ c) (hn : n < 1000) (hnc2 : n2 ≤ c2) (hn2 : n2 < 1000) (v : World) (B00 : Nat)
    (rv : Hid (∀ W, Below B00 v W → Reads W B 1 A n (nv .u8 key))) (rv2 : Hid (∀ W, Below B00 v W → Reads W B2 1 A2 n2 (nv .u8 info))) (gv : Hid (∀ W, Below B00 v W → Glob W)) (hB : B ≤ B00) (hB2 : B2 ≤ B00) (hBv : B00 ≤ v.heap.size)
    (p1 p2 lo : Nat) (w0 : World) (hp1 : Blk w0 p1 22 #[.slice A n c]) (hp2 : Blk w0 p2 22 #[.slice A2 n2 c2]) (hl1 : lo ≤ p1) (hl2 : lo ≤ p2) :
    EndlessG Tryd.prog 31 #[.pointer (some ⟨p1, 0, none⟩), .pointer (some ⟨p2, 0, none⟩)] (fun k => .agg (va .u8 (tk key info (k + 1)))) lo 255 (fun W => Below B00 v W) w0 := by
  intro m l N J Jx hNM hJb hG hY w hH0 h0
  have hl2n := (rv2.out v (Below.refl _ _)).len
  replace hp1 := hp1.heldD hH0 hl1
  replace hp2 := hp2.heldD hH0 hl2
  have hlw : lo ≤ w.heap.size := Nat.le_trans hl1 (Nat.le_of_lt hp1.lt)
  have hYq := Lib.hid hY
  have hJbq := Lib.hid hJb
  have hGq := Lib.hid hG
  clear hY hJb hG hH0
  refine callsIn_of_wp Tryd.func31 rfl trivial ?_
  refine (wpIn_wide (n := m)).2 ?_
  simp only [Tryd.ntmps31, List.size_toArray, List.length_cons, List.length_nil, Nat.reduceAdd, Nat.reduceSub, Array.replicate_succ, Array.replicate_zero, List.push_toArray, List.append_toArray, List.nil_append, List.cons_append]
  go_upto_region 0 with fail
  refine wl_lit ?_
  refine runL 4 (.slice none 0 0) rfl (by rfl) (by go_simp) ?_
  simp only [List.set_cons_zero, List.set_cons_succ]
  refine nilL ?_
  go_upto_region 1 with fail
  refine wl_lit ?_
  refine runL 5 (.int .i64 1) rfl (by rfl) (by go_simp) ?_
  simp only [List.set_cons_zero, List.set_cons_succ]
  refine nilL ?_
  go_wp2
  go_loopw [4, 5] (fun x y wr => ∃ (k : Nat) (Al : Option Addr) (nl : Nat), J k wr ∧ k ≤ 255 ∧ y = .int .i64 ((k + 1 : Nat) : Int) ∧ x = .slice Al nl nl ∧ LastIs wr lo Al nl (tk key info k) ∧ Blk wr p1 22 #[.slice A n c] ∧ Blk wr p2 22 #[.slice A2 n2 c2]) (fun _ y _ => 256 - (intOf y).toNat)
  case atStart => exact ⟨0, none, 0, h0, by omega, rfl, rfl, .inl ⟨rfl, rfl, rfl⟩, hp1, hp2⟩
  case round =>
    clear hp1 hp2 h0 hlw
    obtain ⟨k, Al, nl, hj, -, rfl, rfl, hla, hp1, hp2⟩ := hrel
    obtain ⟨hkN, -⟩ := hYq.out k _ hj
    have hbel := hGq.out k _ hj
    have hlw : lo ≤ wr.heap.size := Nat.le_trans hl1 (Nat.le_of_lt hp1.lt)
    generalize wr = w at *
    obtain ⟨i, hik⟩ : ∃ i, k + 1 = i := ⟨_, rfl⟩
    have hi256 : i < 256 := by omega
    have hiI : (i : Int) < 256 := by omega
    have hw8 : IntKind.u8.wrap (i : Int) = (i : Int) := by simp [IntKind.wrap, IntKind.bits, IntKind.signed]; omega
    have hwi : IntKind.i64.wrap ((i : Int) + 1) = ((i + 1 : Nat) : Int) := by rw [IntWalk.i64_in _ (by omega)]; omega
    obtain ⟨t, ht⟩ : ∃ t, tk key info i = t := ⟨_, rfl⟩
    have htl : t.length = 32 := by rw [← ht, ← hik]; exact tk_len _ _ _
    have htb : Byt t := by rw [← ht]; exact tk_byt _ _ _
    have hne : hm key ([tk key info k, info, [i]].flatten) = t := by rw [← ht, ← hik, tk]; simp
    obtain ⟨la, hlae⟩ : ∃ x, tk key info k = x := ⟨_, rfl⟩
    have hlb : Byt la := by rw [← hlae]; exact tk_byt _ _ _
    have hll : la.length ≤ 32 := by rw [← hlae]; exact tk_le _ _ _
    rw [hlae] at hne hla
    have hneq := Lib.hid hne
    have htq := Lib.hid ht
    have hkq := Lib.hid hik
    obtain ⟨B0, hB0e⟩ : ∃ b, w.heap.size = b := ⟨_, rfl⟩
    have hW : Below B0 w w := by rw [← hB0e]; exact Below.refl _ _
    have hB0 : B0 ≤ w.heap.size := by omega
    have hBB0 : B00 ≤ B0 := by rw [← hB0e]; exact Nat.le_trans hBv hbel.size
    have hBB : B ≤ B0 := Nat.le_trans hB hBB0
    have hBB2 : B2 ≤ B0 := Nat.le_trans hB2 hBB0
    have rd := reads_of (rv.out _ hbel) hBB
    have rd2 := reads_of (rv2.out _ hbel) hBB2
    have gl := glob_of (gv.out _ hbel) hB0e
    have rl := reads_of (B0 := B0) hla.reads (by omega)
    have hnl := hla.le
    have hlaB : w.heap.size ≤ B0 := by omega
    rw [hB0e] at rl hlw
    have hB0q := Lib.hid hB0e
    rw [hik]
    clear hB0e hne ht hik hlae hla hbel
    go_upto_region 4 with fail
    refine wl_lit ?_
    refine runL 11 (.slice (A) n c) rfl (by rfl) (exec_cell 22 (.tmp 1) rfl p1 0 rfl (.slice (A) n c) _ Tryd.underlying22 rfl (hp1.cellIs 0 rfl)) ?_
    simp only [List.set_cons_zero, List.set_cons_succ]
    refine runL 12 (.slice (Al) nl nl) rfl (by rfl) (by go_simp) ?_
    simp only [List.set_cons_zero, List.set_cons_succ]
    refine runL 13 (.slice (A2) n2 c2) rfl (by rfl) (exec_cell 22 (.tmp 2) rfl p2 0 rfl (.slice (A2) n2 c2) _ Tryd.underlying22 rfl (hp2.cellIs 0 rfl)) ?_
    simp only [List.set_cons_zero, List.set_cons_succ]
    refine runL 14 (.int .i64 (i : Int)) rfl (by rfl) (by go_simp) ?_
    simp only [List.set_cons_zero, List.set_cons_succ]
    refine runL 15 (.int .u8 ((i : Nat) : Int)) rfl (by rfl) (by go_simp) ?_
    simp only [List.set_cons_zero, List.set_cons_succ]
    refine runWL 16 (.slice (some ⟨w.heap.size, 0, none⟩) 1 1) (w.alloc (.cells (va .u8 ([i])) 5)) rfl (by rfl) (exec_bslice 22 1 _ rfl _ (by exact bs_b1 i _)) ?_
    simp only [List.set_cons_zero, List.set_cons_succ]
    have lp1_q1 := hp1.lt
    have lp2_q1 := hp2.lt
    have lw_q1 := Nat.le_trans hB0 hW.size
    have hq1 : Blk (w.alloc (.cells (va .u8 ([i])) 5)) w.heap.size 5 (va .u8 ([i])) := Blk.new _ _ _
    replace hp1 := hp1.alloc (.cells (va .u8 ([i])) 5)
    replace hp2 := hp2.alloc (.cells (va .u8 ([i])) 5)
    replace hW := hW.alloc (Nat.le_trans hB0 hW.size) (.cells (va .u8 ([i])) 5)
    generalize w.alloc (.cells (va .u8 ([i])) 5) = w1 at *
    generalize w.heap.size = q1 at hq1 lw_q1 lp1_q1 lp2_q1 ⊢
    refine runWL 17 (.slice (some ⟨w1.heap.size, 0, none⟩) 3 3) (w1.alloc (.cells (#[.slice (Al) nl nl, .slice (A2) n2 c2, .slice (some ⟨q1, 0, none⟩) 1 1]) 22)) rfl (by rfl) (exec_bslice 52 3 _ rfl _ (by exact bs_3 (Al) nl nl (A2) n2 c2 (some ⟨q1, 0, none⟩) 1 1 _)) ?_
    simp only [List.set_cons_zero, List.set_cons_succ]
    have lp1_q2 := hp1.lt
    have lp2_q2 := hp2.lt
    have lq1_q2 := hq1.lt
    have lw_q2 := Nat.le_trans hB0 hW.size
    have hq2 : Blk (w1.alloc (.cells (#[.slice (Al) nl nl, .slice (A2) n2 c2, .slice (some ⟨q1, 0, none⟩) 1 1]) 22)) w1.heap.size 22 (#[.slice (Al) nl nl, .slice (A2) n2 c2, .slice (some ⟨q1, 0, none⟩) 1 1]) := Blk.new _ _ _
    replace hp1 := hp1.alloc (.cells (#[.slice (Al) nl nl, .slice (A2) n2 c2, .slice (some ⟨q1, 0, none⟩) 1 1]) 22)
    replace hp2 := hp2.alloc (.cells (#[.slice (Al) nl nl, .slice (A2) n2 c2, .slice (some ⟨q1, 0, none⟩) 1 1]) 22)
    replace hq1 := hq1.alloc (.cells (#[.slice (Al) nl nl, .slice (A2) n2 c2, .slice (some ⟨q1, 0, none⟩) 1 1]) 22)
    replace hW := hW.alloc (Nat.le_trans hB0 hW.size) (.cells (#[.slice (Al) nl nl, .slice (A2) n2 c2, .slice (some ⟨q1, 0, none⟩) 1 1]) 22)
    generalize w1.alloc (.cells (#[.slice (Al) nl nl, .slice (A2) n2 c2, .slice (some ⟨q1, 0, none⟩) 1 1]) 22) = w2 at *
    generalize w1.heap.size = q2 at hq2 lw_q2 lp1_q2 lp2_q2 lq1_q2 ⊢
    refine callL 18 rfl (by rfl) (fun K hK => wp_callF 17 #[.slice (A) n c, .slice (some ⟨q2, 0, none⟩) 3 3] (by go_simp) (macof_to key A n c _ [la, info, [i]] t hneq.out _ 3 3 _ hk hnc (by omega) (by omega) (by simp; omega) _ (gl.out _ hW) (rd.out _ hW) (Nat.le_trans hBB (Nat.le_trans hB0 hW.size)) (parts_three (Nat.le_trans (Nat.le_refl B0) (Nat.le_trans hB0 hW.size)) (Nat.le_trans hBB2 (Nat.le_trans hB0 hW.size)) hq1.lt hq2 (rl.out _ hW) (Nat.le_refl _) hlb (rd2.out _ hW) hnc2 hi (hq1.readsAll (Nat.lt_succ_self _) (rfl)) (Nat.le_refl _) (byt_one' _ (by omega))) (Nat.le_refl _)) ?_)
    rintro e w3 ⟨rfl, bx⟩
    replace hp1 := hp1.below bx hp1.lt
    replace hp2 := hp2.below bx hp2.lt
    replace hq1 := hq1.below bx hq1.lt
    replace hq2 := hq2.below bx hq2.lt
    replace hW := hW.trans (bx.mono (Nat.le_trans hB0 hW.size))
    clear bx
    refine ⟨_, rfl, hK.out _ _ ?_⟩
    clear hK K
    simp only [List.set_cons_zero, List.set_cons_succ]
    refine runWL 6 (.pointer (some ⟨w3.heap.size, 0, none⟩)) (w3.alloc (.cells (va .u8 (List.replicate 32 0)) 25)) rfl (by rfl) (exec_allocV 25 rfl _ (zv_api_Digest _)) ?_
    simp only [List.set_cons_zero, List.set_cons_succ]
    have lp1_p6 := hp1.lt
    have lp2_p6 := hp2.lt
    have lq1_p6 := hq1.lt
    have lq2_p6 := hq2.lt
    have lw_p6 := Nat.le_trans hB0 hW.size
    have hp6 : Blk (w3.alloc (.cells (va .u8 (List.replicate 32 0)) 25)) w3.heap.size 25 (va .u8 (List.replicate 32 0)) := Blk.new _ _ _
    replace hp1 := hp1.alloc (.cells (va .u8 (List.replicate 32 0)) 25)
    replace hp2 := hp2.alloc (.cells (va .u8 (List.replicate 32 0)) 25)
    replace hq1 := hq1.alloc (.cells (va .u8 (List.replicate 32 0)) 25)
    replace hq2 := hq2.alloc (.cells (va .u8 (List.replicate 32 0)) 25)
    replace hW := hW.alloc (Nat.le_trans hB0 hW.size) (.cells (va .u8 (List.replicate 32 0)) 25)
    generalize w3.alloc (.cells (va .u8 (List.replicate 32 0)) 25) = w4 at *
    generalize w3.heap.size = p6 at hp6 lw_p6 lp1_p6 lp2_p6 lq1_p6 lq2_p6 ⊢
    refine runSL (w4.setRow p6 (va .u8 (t))) rfl (by rfl) (exec_storeRow 25 (.tmp 6) (.tmp 18) rfl p6 rfl (va .u8 (t)) rfl 25 (va .u8 (List.replicate 32 0)) hp6 (sz_eq (sz_api_Digest _ (List.length_replicate)) (sz_api_Digest _ (htl))) (sz_api_Digest _ (htl)) (va_ones .u8 _)) ?_
    replace hp1 := hp1.rowFar (show p6 ≠ p1 from (by omega)) (va .u8 (t))
    replace hp2 := hp2.rowFar (show p6 ≠ p2 from (by omega)) (va .u8 (t))
    replace hq1 := hq1.rowFar (show p6 ≠ q1 from (by omega)) (va .u8 (t))
    replace hq2 := hq2.rowFar (show p6 ≠ q2 from (by omega)) (va .u8 (t))
    replace hp6 := hp6.row (va .u8 (t))
    replace hW := below_setRow hW lw_p6 (va .u8 (t))
    generalize w4.setRow p6 (va .u8 (t)) = w5 at *
    refine nilL ?_
    have hl6 : lo ≤ p6 := Nat.le_trans hlw lw_p6
    have hj6 := hJbq.out k _ _ hj (by rw [hB0q.out]; exact hW)
    obtain ⟨-, fn, tmps, assign, body, hy, hR⟩ := hYq.out k _ hj6
    simp only [hkq.out, htq.out] at hy
    clear hj hj6
    go_upto_region 5 with fail
    refine wl_split (n := m) 2 ?_
    simp only [List.take_succ_cons, List.take_zero]
    refine runL 19 (.func (.yield l) #[] #[]) rfl (by rfl) (by go_simp) ?_
    simp only [List.set_cons_zero, List.set_cons_succ]
    refine runL 20 (.agg (va .u8 (t))) rfl (by rfl) (exec_row 25 (.tmp 6) rfl p6 rfl 25 (va .u8 (t)) _ hp6 (by exact Tryd.underlying25) rfl (sz_api_Digest _ (htl))) ?_
    simp only [List.set_cons_zero, List.set_cons_succ]
    refine nilL ?_
    simp only [Exit.then, List.drop_succ_cons, List.drop_zero]
    unfold wpListIn
    rw [if_pos (by rfl)]
    refine ⟨fun _ _ => trivial, ?_⟩
    go_simp
    refine ⟨by simp [Fence.wide], hR.mono ?_⟩
    clear hR hy
    rintro e w9 (⟨rfl, hj, hh⟩ | ⟨rfl, hx⟩)
    · replace hp1 := hp1.heldD hh hl1
      replace hp2 := hp2.heldD hh hl2
      replace hp6 := hp6.heldD hh hl6
      have hjq := Lib.hid hj
      clear hj
      refine listIn_all _ _ _ ?_
      refine runL 22 (.bool false) rfl (by rfl) (by go_simp) ?_
      simp only [List.set_cons_zero, List.set_cons_succ]
      refine nilL ?_
      simp only [Exit.then]
      go_upto_region 6 with fail
      refine wl_lit ?_
      refine runL 23 (.slice (some ⟨p6, 0, none⟩) 32 32) rfl (by rfl) (by go_simp) ?_
      simp only [List.set_cons_zero, List.set_cons_succ]
      refine runL 4 (.slice (some ⟨p6, 0, none⟩) 32 32) rfl (by rfl) (by go_simp) ?_
      simp only [List.set_cons_zero, List.set_cons_succ]
      refine nilL ?_
      go_wp2
      go_roundw
      case rel => exact ⟨k + 1, some ⟨p6, 0, none⟩, 32, hjq.out, by omega, (by rw [hkq.out]; simp), rfl, .inr ⟨p6, rfl, hl6, rfl, (by rw [hkq.out, htq.out]; exact htl), (by rw [hkq.out, htq.out]; exact hp6)⟩, hp1, hp2⟩
      case measure => simp [intOf]; omega
    · refine listIn_all _ _ _ ?_
      refine runL 22 (.bool true) rfl (by rfl) (by go_simp) ?_
      simp only [List.set_cons_zero, List.set_cons_succ]
      refine nilL ?_
      simp only [Exit.then]
      go_wp2
    
      refine bodyPost_ret (results_none rfl _ _ _) rfl ?_
      exact ⟨⟨_, rfl⟩, hx⟩
end Go.Proofs.YtcdmbknmmnaocaaDoor
