/-
  The plain law of derived keys; the walks of derives.parts and of its iterator. (Printed by mkdrv04.py.)
-/
import Derived.Test.YtcfddmplnoknlaaDoorY12
import Derived.Shelf.Abstract
namespace Go.Proofs.YtcfddmplnoknlaaDoor
set_option maxRecDepth 16384
open Go.RowKit Sh
section
variable {P : Program} {n : Nat}
theorem listIn_pre {ops : Array Oper} {Q : Exit → Act → World → Prop} (l2 : List Oper) : ∀ (l1 : List Oper) (a : Act) (w : World),
    wpList P ops (Exit.then (fun a w => wpListIn Fence.wide n P ops Q l2 a w) (fun _ _ _ => False)) l1 a w → wpListIn Fence.wide n P ops Q (l1 ++ l2) a w
  | [], _, _, h => h
  | o :: l, a, w, h => by
    unfold wpList at h
    rw [List.cons_append]
    unfold wpListIn
    by_cases hw : Region.wanted o (yielded ops a.tmps) = true
    · rw [if_pos hw] at h ⊢
      rcases h with h | h
      · exact opIn_of_op (fun a w hh => listIn_pre l2 l a w hh) (fun _ _ _ hh => hh.elim) (fun ⟨a, w, hh⟩ => hh.elim) h
      · obtain ⟨a, w, hh⟩ := h.2
        exact hh.elim
    · rw [if_neg hw] at h ⊢
      exact ⟨fun _ _ => trivial, listIn_pre l2 l _ w h⟩
theorem wl_split (k : Nat) {id : Nat} {l : List Oper} {Q : Exit → Act → World → Prop} {a : Act} {w : World} (h : WL P l.toArray (Exit.then (fun a w => wpListIn Fence.wide n P l.toArray Q (l.drop k) a w) (fun _ _ _ => False)) (l.take k) a w) :
  (Code.region id l.toArray false).wp P Q a w :=
 (wpIn_wide (n := n)).1 (wpIn_region_lit (by
  have := listIn_pre (l.drop k) (l.take k) a w h.out
  rwa [List.take_append_drop] at this))
theorem listIn_all {ops : Array Oper} {Q : Exit → Act → World → Prop} (l : List Oper) (a : Act) (w : World) (h : WL P ops (Exit.then (fun a w => Q .normal a w) (fun _ _ _ => False)) l a w) : wpListIn Fence.wide n P ops Q l a w := by
 have := listIn_pre (n := n) (P := P) (ops := ops) (Q := Q) [] l a w h.out
 rwa [List.append_nil] at this
end
def tk (key info : List Nat) : Nat → List Nat
 | 0 => []
 | k + 1 => hm key (tk key info k ++ (info ++ [k + 1]))
theorem tk_byt (key info : List Nat) (k : Nat) : Byt (tk key info k) := by
 cases k with
 | zero => exact Byt.nil
 | succ k => exact hm_byt _ _
theorem tk_len (key info : List Nat) (k : Nat) : (tk key info (k + 1)).length = 32 := hm_len _ _
theorem tk_le (key info : List Nat) (k : Nat) : (tk key info k).length ≤ 32 := by
 cases k with
 | zero => simp [tk]
 | succ k => rw [tk_len]; exact Nat.le_refl _
def LastIs (W : World) (lo : Nat) (A : Option Addr) (n : Nat) (l : List Nat) : Prop :=
 (A = none ∧ n = 0 ∧ l = []) ∨ ∃ g, A = some ⟨g, 0, none⟩ ∧ lo ≤ g ∧ n = 32 ∧ l.length = 32 ∧ Blk W g 45 (va .u8 l)
theorem LastIs.reads {W : World} {lo n : Nat} {A : Option Addr} {l : List Nat} (h : LastIs W lo A n l) : Reads W W.heap.size 1 A n (nv .u8 l) := by
  rcases h with ⟨rfl, rfl, rfl⟩ | ⟨g, rfl, _, rfl, hl, hb⟩
  · exact Reads.none_
  · exact hb.readsAll hb.lt hl
theorem LastIs.le {W : World} {lo n : Nat} {A : Option Addr} {l : List Nat} (h : LastIs W lo A n l) : n ≤ 32 := by
 rcases h with ⟨rfl, rfl, rfl⟩ | ⟨g, rfl, _, rfl, hl, hb⟩ <;> omega
theorem Blk.heldD {lo g : Nat} {A B : World} {T : TypeId} {cs : Array Value} (h : Blk A g T cs) (hh : Holds lo A B) (hg : lo ≤ g) : Blk B g T cs := hh.cells _ _ hg h rfl
theorem macof_to (key : List Nat) (A : Option Addr) (n c B : Nat) (ms : List (List Nat)) (t : List Nat) (ht : hm key ms.flatten = t) (A2 : Option Addr) (n2 c2 B2 : Nat) (hk : Byt key) (hnc : n ≤ c) (hn : n < 100000) (hn2 : n2 < 1000) (hlen : ms.flatten.length < 100000) (w : World) (hg : Glob w)
  (hr : Reads w B 1 A n (nv .u8 key)) (hB : B ≤ w.heap.size) (hp : Parts w B2 A2 n2 ms) (hB2 : B2 ≤ w.heap.size) :
  Calls Tryd.prog 31 #[.slice A n c, .slice A2 n2 c2] w fun e w' => e = .returned (.agg (va .u8 t)) ∧ Below w.heap.size w w' := by
 subst ht; exact macof_any key A n c B ms A2 n2 c2 B2 hk hnc hn hn2 hlen w hg hr hB hp hB2

set_option maxRecDepth 8000 in
set_option maxHeartbeats 4000000 in
theorem parts_ends (key info : List Nat) (A : Option Addr) (n c B : Nat) (A2 : Option Addr) (n2 c2 B2 : Nat) (hk : Byt key) (hi : Byt info) (hnc : n ≤ c) (hn : n < 1000) (hnc2 : n2 ≤ c2) (hn2 : n2 < 1000) (v : World) (B00 : Nat)
    (rv : Hid (∀ W, Below B00 v W → Reads W B 1 A n (nv .u8 key))) (rv2 : Hid (∀ W, Below B00 v W → Reads W B2 1 A2 n2 (nv .u8 info))) (gv : Hid (∀ W, Below B00 v W → Glob W)) (hB : B ≤ B00) (hB2 : B2 ≤ B00) (hBv : B00 ≤ v.heap.size)
    (p1 p2 lo : Nat) (w0 : World) (hp1 : Blk w0 p1 34 #[.slice A n c]) (hp2 : Blk w0 p2 34 #[.slice A2 n2 c2]) (hl1 : lo ≤ p1) (hl2 : lo ≤ p2) :
    EndlessG Tryd.prog 75 #[.pointer (some ⟨p1, 0, none⟩), .pointer (some ⟨p2, 0, none⟩)] (fun k => .agg (va .u8 (tk key info (k + 1)))) lo 255 (fun W => Below B00 v W) w0 := by
  intro m l N J Jx hNM hJb hG hY w hH0 h0
  have hl2n := (rv2.out v (Below.refl _ _)).len
  replace hp1 := hp1.heldD hH0 hl1
  replace hp2 := hp2.heldD hH0 hl2
  have hlw : lo ≤ w.heap.size := Nat.le_trans hl1 (Nat.le_of_lt hp1.lt)
  have hYq := Lib.hid hY
  have hJbq := Lib.hid hJb
  have hGq := Lib.hid hG
  clear hY hJb hG hH0
  refine callsIn_of_wp Tryd.func75 rfl trivial ?_
  refine (wpIn_wide (n := m)).2 ?_
  simp only [Tryd.ntmps75, List.size_toArray, List.length_cons, List.length_nil, Nat.reduceAdd, Nat.reduceSub, Array.replicate_succ, Array.replicate_zero, List.push_toArray, List.append_toArray, List.nil_append, List.cons_append]
  go_upto_region 0 with fail
  refine wl_lit ?_
  refine runL 4 (.slice none 0 0) rfl (by rfl) (by go_simp) ?_
  simp only [Ls]
  refine nilL ?_
  go_upto_region 1 with fail
  refine wl_lit ?_
  refine runL 5 (.int .i64 1) rfl (by rfl) (by go_simp) ?_
  simp only [Ls]
  refine nilL ?_
  go_wp2
  go_loopw [4, 5] (fun x y wr => ∃ (k : Nat) (Al : Option Addr) (nl : Nat), J k wr ∧ k ≤ 255 ∧ y = .int .i64 ((k + 1 : Nat) : Int) ∧ x = .slice Al nl nl ∧ LastIs wr lo Al nl (tk key info k) ∧ Blk wr p1 34 #[.slice A n c] ∧ Blk wr p2 34 #[.slice A2 n2 c2]) (fun _ y _ => 256 - (intOf y).toNat)
  case atStart => exact ⟨0, none, 0, h0, by omega, rfl, rfl, .inl ⟨rfl, rfl, rfl⟩, hp1, hp2⟩
  case round =>
    clear hp1 hp2 h0 hlw
    obtain ⟨k, Al, nl, hj, -, rfl, rfl, hla, hp1, hp2⟩ := hrel
    obtain ⟨hkN, -⟩ := hYq.out k _ hj
    have hbel := hGq.out k _ hj
    have hlw : lo ≤ wr.heap.size := Nat.le_trans hl1 (Nat.le_of_lt hp1.lt)
    generalize wr = w at *
    obtain ⟨i, hik⟩ : ∃ i, k + 1 = i := ⟨_, rfl⟩
    have hi256 : i < 256 := by omega
    have hiI : (i : Int) < 256 := by omega
    have hw8 : IntKind.u8.wrap (i : Int) = (i : Int) := by simp [IntKind.wrap, IntKind.bits, IntKind.signed]; omega
    have hwi : IntKind.i64.wrap ((i : Int) + 1) = ((i + 1 : Nat) : Int) := by rw [IntWalk.i64_in _ (by omega)]; omega
    obtain ⟨t, ht⟩ : ∃ t, tk key info i = t := ⟨_, rfl⟩
    have htl : t.length = 32 := by rw [← ht, ← hik]; exact tk_len _ _ _
    have htb : Byt t := by rw [← ht]; exact tk_byt _ _ _
    have hne : hm key ([tk key info k, info, [i]].flatten) = t := by rw [← ht, ← hik, tk]; simp
    obtain ⟨la, hlae⟩ : ∃ x, tk key info k = x := ⟨_, rfl⟩
    have hlb : Byt la := by rw [← hlae]; exact tk_byt _ _ _
    have hll : la.length ≤ 32 := by rw [← hlae]; exact tk_le _ _ _
    rw [hlae] at hne hla
    have hneq := Lib.hid hne
    have htq := Lib.hid ht
    have hkq := Lib.hid hik
    obtain ⟨B0, hB0e⟩ : ∃ b, w.heap.size = b := ⟨_, rfl⟩
    have hW : Below B0 w w := by rw [← hB0e]; exact Below.refl _ _
    have hB0 : B0 ≤ w.heap.size := by omega
    have hBB0 : B00 ≤ B0 := by rw [← hB0e]; exact Nat.le_trans hBv hbel.size
    have hBB : B ≤ B0 := Nat.le_trans hB hBB0
    have hBB2 : B2 ≤ B0 := Nat.le_trans hB2 hBB0
    have rd := reads_of (rv.out _ hbel) hBB
    have rd2 := reads_of (rv2.out _ hbel) hBB2
    have gl := glob_of (gv.out _ hbel) hB0e
    have rl := reads_of (B0 := B0) hla.reads (by omega)
    have hnl := hla.le
    have hlaB : w.heap.size ≤ B0 := by omega
    rw [hB0e] at rl hlw
    have hB0q := Lib.hid hB0e
    rw [hik]
    clear hB0e hne ht hik hlae hla hbel
    go_upto_region 4 with fail
    refine wl_lit ?_
    refine runL 11 (.slice A n c) rfl (by rfl) (exec_cell 34 (.tmp 1) rfl p1 0 rfl (.slice A n c) _ Tryd.underlying34 rfl (hp1.cellIs 0 rfl)) ?_
    refine runL 12 (.slice Al nl nl) rfl (by rfl) (by go_simp) ?_
    refine runL 13 (.slice A2 n2 c2) rfl (by rfl) (exec_cell 34 (.tmp 2) rfl p2 0 rfl (.slice A2 n2 c2) _ Tryd.underlying34 rfl (hp2.cellIs 0 rfl)) ?_
    refine runL 14 (.int .i64 (i : Int)) rfl (by rfl) (by go_simp) ?_
    refine runL 15 (.int .u8 ((i : Nat) : Int)) rfl (by rfl) (by go_simp) ?_
    simp only [Ls]
    refine runWL 16 (.slice (some ⟨w.heap.size, 0, none⟩) 1 1) (w.alloc (.cells (va .u8 ([i])) 5)) rfl (by rfl) (exec_bslice 34 1 _ rfl _ (by exact bs_b1 i _)) ?_
    simp only [Ls]
    have lp1_q1 := hp1.lt
    have lp2_q1 := hp2.lt
    have lw_q1 := Nat.le_trans hB0 hW.size
    have hq1 : Blk (w.alloc (.cells (va .u8 ([i])) 5)) w.heap.size 5 (va .u8 ([i])) := Blk.new _ _ _
    have bx := bAl w (.cells (va .u8 ([i])) 5)
    replace hp1 := blB hp1 bx
    replace hp2 := blB hp2 bx
    replace hW := trB hW hB0 bx
    clear bx
    generalize w.alloc (.cells (va .u8 ([i])) 5) = w1 at *
    generalize w.heap.size = q1 at hq1 lw_q1 lp1_q1 lp2_q1 ⊢
    refine runWL 17 (.slice (some ⟨w1.heap.size, 0, none⟩) 3 3) (w1.alloc (.cells (#[.slice Al nl nl, .slice A2 n2 c2, .slice (some ⟨q1, 0, none⟩) 1 1]) 34)) rfl (by rfl) (exec_bslice 90 3 _ rfl _ (by exact bs_3 Al nl nl A2 n2 c2 (some ⟨q1, 0, none⟩) 1 1 _)) ?_
    simp only [Ls]
    have lp1_q2 := hp1.lt
    have lp2_q2 := hp2.lt
    have lq1_q2 := hq1.lt
    have lw_q2 := Nat.le_trans hB0 hW.size
    have hq2 : Blk (w1.alloc (.cells (#[.slice Al nl nl, .slice A2 n2 c2, .slice (some ⟨q1, 0, none⟩) 1 1]) 34)) w1.heap.size 34 (#[.slice Al nl nl, .slice A2 n2 c2, .slice (some ⟨q1, 0, none⟩) 1 1]) := Blk.new _ _ _
    have bx := bAl w1 (.cells (#[.slice Al nl nl, .slice A2 n2 c2, .slice (some ⟨q1, 0, none⟩) 1 1]) 34)
    replace hp1 := blB hp1 bx
    replace hp2 := blB hp2 bx
    clear bx
    replace hq1 := hq1.alloc (.cells (#[.slice Al nl nl, .slice A2 n2 c2, .slice (some ⟨q1, 0, none⟩) 1 1]) 34)
    replace hW := alB hW hB0 (.cells (#[.slice Al nl nl, .slice A2 n2 c2, .slice (some ⟨q1, 0, none⟩) 1 1]) 34)
    generalize w1.alloc (.cells (#[.slice Al nl nl, .slice A2 n2 c2, .slice (some ⟨q1, 0, none⟩) 1 1]) 34) = w2 at *
    generalize w1.heap.size = q2 at hq2 lw_q2 lp1_q2 lp2_q2 lq1_q2 ⊢
    refine callL 18 rfl (by rfl) (fun K hK => wp_callF 31 #[.slice A n c, .slice (some ⟨q2, 0, none⟩) 3 3] (by go_simp) (macof_to key A n c _ [la, info, [i]] t hneq.out _ 3 3 _ hk hnc (by omega) (by omega) (by simp; omega) _ (gl.out _ hW) (rd.out _ hW) (Nat.le_trans hBB (Nat.le_trans hB0 hW.size)) (parts_three (Nat.le_trans (Nat.le_refl B0) (Nat.le_trans hB0 hW.size)) (Nat.le_trans hBB2 (Nat.le_trans hB0 hW.size)) hq1.lt hq2 (rl.out _ hW) (Nat.le_refl _) hlb (rd2.out _ hW) hnc2 hi (hq1.readsAll (Nat.lt_succ_self _) rfl) (Nat.le_refl _) (byt_one' _ (by omega))) (Nat.le_refl _)) ?_)
    rintro e w3 ⟨rfl, bx⟩
    replace hp1 := blB hp1 bx
    replace hp2 := blB hp2 bx
    replace hq1 := blB hq1 bx
    replace hq2 := blB hq2 bx
    replace hW := trB hW hB0 bx
    clear bx
    refine ⟨_, rfl, hK.out _ _ ?_⟩
    clear hK K
    simp only [Ls]
    refine runWL 6 (.pointer (some ⟨w3.heap.size, 0, none⟩)) (w3.alloc (.cells (va .u8 (List.replicate 32 0)) 45)) rfl (by rfl) (exec_allocV 45 rfl _ (zv_api_Digest _)) ?_
    simp only [Ls]
    have lp1_p6 := hp1.lt
    have lp2_p6 := hp2.lt
    have lq1_p6 := hq1.lt
    have lq2_p6 := hq2.lt
    have lw_p6 := Nat.le_trans hB0 hW.size
    have hp6 := Blk.new w3 45 (va .u8 (List.replicate 32 0))
    have bx := bAl w3 (.cells (va .u8 (List.replicate 32 0)) 45)
    replace hp1 := blB hp1 bx
    replace hp2 := blB hp2 bx
    clear bx
    replace hq1 := hq1.alloc (.cells (va .u8 (List.replicate 32 0)) 45)
    replace hq2 := hq2.alloc (.cells (va .u8 (List.replicate 32 0)) 45)
    replace hW := alB hW hB0 (.cells (va .u8 (List.replicate 32 0)) 45)
    generalize w3.alloc (.cells (va .u8 (List.replicate 32 0)) 45) = w4 at *
    generalize w3.heap.size = p6 at hp6 lw_p6 lp1_p6 lp2_p6 lq1_p6 lq2_p6 ⊢
    refine runSL (w4.setRow p6 (va .u8 t)) rfl (by rfl) (exec_storeRow 45 (.tmp 6) (.tmp 18) rfl p6 rfl (va .u8 t) rfl 45 (va .u8 (List.replicate 32 0)) hp6 (sz_eq (sz_api_Digest _ (List.length_replicate)) (sz_api_Digest _ htl)) (sz_api_Digest _ htl) (va_ones .u8 _)) ?_
    replace hp1 := hp1.rowFar (show p6 ≠ p1 from (by omega)) (va .u8 t)
    replace hp2 := hp2.rowFar (show p6 ≠ p2 from (by omega)) (va .u8 t)
    replace hq1 := hq1.rowFar (show p6 ≠ q1 from (by omega)) (va .u8 t)
    replace hq2 := hq2.rowFar (show p6 ≠ q2 from (by omega)) (va .u8 t)
    replace hp6 := hp6.row (va .u8 t)
    replace hW := below_setRow hW lw_p6 (va .u8 t)
    generalize w4.setRow p6 (va .u8 t) = w5 at *
    refine nilL ?_
    have hl6 : lo ≤ p6 := Nat.le_trans hlw lw_p6
    have hj6 := hJbq.out k _ _ hj (by rw [hB0q.out]; exact hW)
    obtain ⟨-, fn, tmps, assign, body, hy, hR⟩ := hYq.out k _ hj6
    simp only [hkq.out, htq.out] at hy
    clear hj hj6
    go_upto_region 5 with fail
    refine wl_split (n := m) 2 ?_
    simp only [List.take_succ_cons, List.take_zero]
    refine runL 19 (.func (.yield l) #[] #[]) rfl (by rfl) (by go_simp) ?_
    refine runL 20 (.agg (va .u8 t)) rfl (by rfl) (exec_row 45 (.tmp 6) rfl p6 rfl 45 (va .u8 t) _ hp6 (by exact Tryd.underlying45) rfl (sz_api_Digest _ htl)) ?_
    simp only [Ls]
    refine nilL ?_
    simp only [Exit.then, List.drop_succ_cons, List.drop_zero]
    unfold wpListIn
    rw [if_pos (by rfl)]
    refine ⟨fun _ _ => trivial, ?_⟩
    go_simp
    refine ⟨by simp [Fence.wide], hR.mono ?_⟩
    clear hR hy
    rintro e w9 (⟨rfl, hj, hh⟩ | ⟨rfl, hx⟩)
    · replace hp1 := hp1.heldD hh hl1
      replace hp2 := hp2.heldD hh hl2
      replace hp6 := hp6.heldD hh hl6
      have hjq := Lib.hid hj
      clear hj
      refine listIn_all _ _ _ ?_
      refine runL 22 (.bool false) rfl (by rfl) (by go_simp) ?_
      simp only [Ls]
      refine nilL ?_
      simp only [Exit.then]
      go_upto_region 6 with fail
      refine wl_lit ?_
      refine runL 23 (.slice (some ⟨p6, 0, none⟩) 32 32) rfl (by rfl) (by go_simp) ?_
      refine runL 4 (.slice (some ⟨p6, 0, none⟩) 32 32) rfl (by rfl) (by go_simp) ?_
      simp only [Ls]
      refine nilL ?_
      go_wp2
      go_roundw
      case rel => exact ⟨k + 1, some ⟨p6, 0, none⟩, 32, hjq.out, by omega, (by rw [hkq.out]; simp), rfl, .inr ⟨p6, rfl, hl6, rfl, (by rw [hkq.out, htq.out]; exact htl), (by rw [hkq.out, htq.out]; exact hp6)⟩, hp1, hp2⟩
      case measure => simp [intOf]; omega
    · refine listIn_all _ _ _ ?_
      refine runL 22 (.bool true) rfl (by rfl) (by go_simp) ?_
      simp only [Ls]
      refine nilL ?_
      simp only [Exit.then]
      go_wp2
    
      refine bodyPost_ret (results_none rfl _ _ _) rfl ?_
      exact ⟨⟨_, rfl⟩, hx⟩
end Go.Proofs.YtcfddmplnoknlaaDoor
namespace Go.Proofs.YtcfddmplnoknlaaDoor
set_option maxRecDepth 16384
open Go.RowKit Sh
attribute [local go_sem] Oper.semAt_some
theorem zv_bsD (w : World) : (zeroValue 34).run Tryd.prog w = .ok (.slice none 0 0) w := by kernel_rfl
section
variable {A B W : World} {lo : Nat}
theorem Blk.putObjX {g l : Nat} {T : TypeId} {cs : Array Value} {o : Obj} (o' : Obj) (h : Blk A g T cs) (hl : A.heap[l]? = some o) (ho : o.isCells = false) : Blk (A.putObj l o') g T cs :=
 Blk.heldD (lo := 0) h (Holds.put o' hl ho) (Nat.zero_le _)
theorem below_putObjX {B0 l : Nat} (h : Below B0 A B) (hl : B0 ≤ l) (o : Obj) : Below B0 A (B.putObj l o) :=
 h.trans ⟨rfl, rfl, rfl, by simp, fun k hk => World.putObj_heap_other (by omega)⟩
theorem Own.putObj {B0 n c l : Nat} {Ad : Option Addr} {m : List Nat} {o : Obj} (o' : Obj) (h : Own A B0 Ad n c m) (hl : A.heap[l]? = some o) (ho : o.isCells = false) : Own (A.putObj l o') B0 Ad n c m := by
  refine h.kept (row := some l) ⟨rfl, rfl, rfl, by simp, fun k _ hne => World.putObj_heap_other (fun e => hne (by rw [e]))⟩ (fun a ha e => ?_)
  have e2 : a.block = l := Option.some.inj e
  rcases h.2 with ⟨e0, h0⟩ | ⟨g, cap, cur, e0, hb, hh, _⟩
  · injection e0 with e1 _ _
    rw [ha] at e1; cases e1
  · injection e0 with e1 _ _
    rw [ha] at e1
    cases e1
    have e3 : g = l := e2
    rw [e3, hl] at hh
    cases hh
    cases ho
theorem ByB.take {g : Nat} {l : List Nat} (h : ByB W g l) (n : Nat) : ByB W g (l.take n) := ⟨h.lt, fun j v hv => by
  rw [← nv_take, List.getElem?_take] at hv
  split at hv
  · exact h.c j v hv
  · cases hv⟩
def Offk (lo : Nat) (A : World) (g : Nat) : Prop := g < lo ∨ A.heap.size ≤ g
structure KH (lo : Nat) (A B : World) : Prop where
 ko : KeepsOthers A B
 h : Holds lo A B
theorem KH.refl (lo : Nat) (A : World) : KH lo A A := ⟨KeepsOthers.refl _, Holds.refl _ _⟩
theorem KH.new_off (h : KH lo A B) : Offk lo A B.heap.size := .inr h.h.size
theorem KH.off_ge {x : Nat} (h : KH lo A B) (hx : B.heap.size ≤ x) : Offk lo A x := .inr (Nat.le_trans h.h.size hx)
theorem KH.below {C : World} (h : KH lo A B) (bx : Below B.heap.size B C) : KH lo A C :=
 ⟨h.ko.trans ⟨bx.size, fun k _o hk _ => (bx.block k (Array.getElem?_eq_some_iff.1 hk).1).trans hk⟩, h.h.trans (Holds.below bx)⟩
theorem KH.alloc (h : KH lo A B) (o : Obj) : KH lo A (B.alloc o) := h.below ((Below.refl _ B).alloc (Nat.le_refl _) o)
theorem KH.drew_ (h : KH lo A B) : KH lo A B.drew := h.below (below_drewN (Below.refl _ B) 1)
theorem Holds.setAny {p : Addr} (h : Holds lo A B) (hp : Offk lo A p.block) (v : Value) : Holds lo A (B.setCell p v) :=
 ⟨Nat.le_trans h.size (by simp [World.setCell]), fun b o hb ho hc => (Below.heap_setCell B p v b (by
  have := (Array.getElem?_eq_some_iff.1 ho).1
  rcases hp with h1 | h1 <;> omega)).trans (h.cells b o hb ho hc)⟩
theorem KH.far {p : Addr} (h : KH lo A B) (hp : Offk lo A p.block) (v : Value) : KH lo A (B.setCell p v) :=
 ⟨h.ko.trans (KeepsOthers.setCell B p v), h.h.setAny hp v⟩
end
set_option maxRecDepth 8000 in
set_option maxHeartbeats 2000000 in
theorem extract_any (key m : List Nat) (A : Option Addr) (n c B : Nat) (A2 : Option Addr) (n2 c2 B2 : Nat) (hk : Byt key) (hmb : Byt m) (hnc : n ≤ c) (hn : n < 1000) (hnc2 : n2 ≤ c2) (hn2 : n2 < 1000) (w : World) (hg : Glob w) (hr : Reads w B 1 A n (nv .u8 key)) (hB : B ≤ w.heap.size)
  (hr2 : Reads w B2 1 A2 n2 (nv .u8 m)) (hB2 : B2 ≤ w.heap.size) :
  Calls Tryd.prog 37 #[.slice A n c, .slice A2 n2 c2] w fun e w' => e = .returned (.agg (va .u8 (hm key m))) ∧ Below w.heap.size w w' := by
 obtain ⟨B0, hB0e, hW, hB0⟩ := stB w
 rw [hB0e]
 have gl := glob_of hg hB0e
 have hl2n := hr2.len
 have hBB : B ≤ B0 := by omega
 have hBB2 : B2 ≤ B0 := by omega
 have rd := reads_of hr hBB
 have rd2 := reads_of hr2 hBB2
 have e1 : hm key ([m].flatten) = hm key m := by simp
 clear hr hB hr2 hB2 hg
 have hB0q := Lib.hid hB0e
 clear hB0e
 go_enter Tryd.func37, Tryd.ntmps37
 go_upto_region 0 with fail
 refine wl_lit ?_
 refine runWL 4 (.pointer (some ⟨w.heap.size, 0, none⟩)) (w.alloc (.cells (va .u8 (List.replicate 32 0)) 45)) rfl (by rfl) (exec_allocV 45 rfl _ (zv_api_Digest _)) ?_
 simp only [Ls]
 have lw_p4 := Nat.le_trans hB0 hW.size
 have hp4 := Blk.new w 45 (va .u8 (List.replicate 32 0))
 replace hW := alB hW hB0 (.cells (va .u8 (List.replicate 32 0)) 45)
 generalize w.alloc (.cells (va .u8 (List.replicate 32 0)) 45) = w1 at *
 generalize w.heap.size = p4 at hp4 lw_p4  ⊢
 refine nilL ?_
 go_upto_region 1 with fail
 refine wl_lit ?_
 refine runL 5 (.slice A n c) rfl (by rfl) (by go_simp) ?_
 refine runL 6 (.slice A2 n2 c2) rfl (by rfl) (by go_simp) ?_
 simp only [Ls]
 refine runWL 7 (.slice (some ⟨w1.heap.size, 0, none⟩) 1 1) (w1.alloc (.cells (#[.slice A2 n2 c2]) 34)) rfl (by rfl) (exec_bslice 90 1 _ rfl _ (by exact bs_1 A2 n2 c2 _)) ?_
 simp only [Ls]
 have lp4_q1 := hp4.lt
 have lw_q1 := Nat.le_trans hB0 hW.size
 have hq1 : Blk (w1.alloc (.cells (#[.slice A2 n2 c2]) 34)) w1.heap.size 34 (#[.slice A2 n2 c2]) := Blk.new _ _ _
 have bx := bAl w1 (.cells (#[.slice A2 n2 c2]) 34)
 replace hp4 := blB hp4 bx
 replace hW := trB hW hB0 bx
 clear bx
 generalize w1.alloc (.cells (#[.slice A2 n2 c2]) 34) = w2 at *
 generalize w1.heap.size = q1 at hq1 lw_q1 lp4_q1 ⊢
 refine callL 8 rfl (by rfl) (fun K hK => wp_callF 31 #[.slice A n c, .slice (some ⟨q1, 0, none⟩) 1 1] (by go_simp) (macof_to key A n c _ [m] _ e1 _ 1 1 _ hk hnc (by omega) (by omega) (by simp; omega) _ (gl.out _ hW) (rd.out _ hW) (Nat.le_trans hBB (Nat.le_trans hB0 hW.size)) (parts_one (Nat.le_trans hBB2 (Nat.le_trans hB0 hW.size)) hq1 (rd2.out _ hW) hnc2 hmb) (Nat.le_refl _)) ?_)
 rintro e w3 ⟨rfl, bx⟩
 replace hp4 := blB hp4 bx
 replace hq1 := blB hq1 bx
 replace hW := trB hW hB0 bx
 clear bx
 refine ⟨_, rfl, hK.out _ _ ?_⟩
 clear hK K
 simp only [Ls]
 refine runSL (w3.setRow p4 (va .u8 (hm key m))) rfl (by rfl) (exec_storeRow 45 (.tmp 4) (.tmp 8) rfl p4 rfl (va .u8 (hm key m)) rfl 45 (va .u8 (List.replicate 32 0)) hp4 (sz_eq (sz_api_Digest _ (List.length_replicate)) (sz_api_Digest _ (hm_len _ _))) (sz_api_Digest _ (hm_len _ _)) (va_ones .u8 _)) ?_
 replace hq1 := hq1.rowFar (show p4 ≠ q1 from (by omega)) (va .u8 (hm key m))
 replace hp4 := hp4.row (va .u8 (hm key m))
 replace hW := below_setRow hW lw_p4 (va .u8 (hm key m))
 generalize w3.setRow p4 (va .u8 (hm key m)) = w4 at *
 refine nilL ?_
 go_wp2_with fail
 exact bodyPost_ret (results_cell_row rfl _ _ p4 45 (va .u8 (hm key m)) (0, 0) _ rfl hp4 (by exact Tryd.underlying45) rfl (sz_api_Digest _ (hm_len _ _))) rfl ⟨rfl, hW⟩

set_option maxRecDepth 8000 in
set_option maxHeartbeats 2000000 in
theorem parts_any (A : Option Addr) (n c : Nat) (A2 : Option Addr) (n2 c2 : Nat) (w : World) :
  Calls Tryd.prog 58 #[.slice A n c, .slice A2 n2 c2] w fun e w' => ∃ p1 p2, e = .returned (.func (.func 75) #[] #[.pointer (some ⟨p1, 0, none⟩), .pointer (some ⟨p2, 0, none⟩)]) ∧
   Blk w' p1 34 #[.slice A n c] ∧ Blk w' p2 34 #[.slice A2 n2 c2] ∧ w.heap.size ≤ p1 ∧ w.heap.size ≤ p2 ∧ Below w.heap.size w w' := by
 obtain ⟨B0, hB0e, hW, hB0⟩ := stB w
 rw [hB0e]
 have hB0q := Lib.hid hB0e
 clear hB0e
 go_enter Tryd.func58, Tryd.ntmps58
 go_upto_region 0 with fail
 refine wl_lit ?_
 refine runWL 2 (.pointer (some ⟨w.heap.size, 0, none⟩)) (w.alloc (.cells (#[.slice A n c]) 34)) rfl (by rfl) (exec_box 34 (.tmp 0) rfl (.slice A n c) rfl) ?_
 simp only [Ls]
 have lw_p2 := Nat.le_trans hB0 hW.size
 have hp2 := Blk.new w 34 (#[.slice A n c])
 replace hW := alB hW hB0 (.cells (#[.slice A n c]) 34)
 generalize w.alloc (.cells (#[.slice A n c]) 34) = w1 at *
 generalize w.heap.size = p2 at hp2 lw_p2  ⊢
 refine runWL 3 (.pointer (some ⟨w1.heap.size, 0, none⟩)) (w1.alloc (.cells (#[.slice A2 n2 c2]) 34)) rfl (by rfl) (exec_box 34 (.tmp 1) rfl (.slice A2 n2 c2) rfl) ?_
 simp only [Ls]
 have lp2_p3 := hp2.lt
 have lw_p3 := Nat.le_trans hB0 hW.size
 have hp3 := Blk.new w1 34 (#[.slice A2 n2 c2])
 have bx := bAl w1 (.cells (#[.slice A2 n2 c2]) 34)
 replace hp2 := blB hp2 bx
 replace hW := trB hW hB0 bx
 clear bx
 generalize w1.alloc (.cells (#[.slice A2 n2 c2]) 34) = w2 at *
 generalize w1.heap.size = p3 at hp3 lw_p3 lp2_p3 ⊢
 refine runL 4 (.nilFunc) rfl (by rfl) (by go_simp) ?_
 simp only [Ls]
 refine nilL ?_
 go_upto_region 1 with fail
 refine wl_lit ?_
 refine runL 5 (.func (.func 75) #[] #[.pointer (some ⟨p2, 0, none⟩), .pointer (some ⟨p3, 0, none⟩)]) rfl (by rfl) (by go_simp) ?_
 refine runL 4 (.func (.func 75) #[] #[.pointer (some ⟨p2, 0, none⟩), .pointer (some ⟨p3, 0, none⟩)]) rfl (by rfl) (by go_simp) ?_
 simp only [Ls]
 refine nilL ?_
 go_wp2_with fail
 go_ret
 exact ⟨_, _, rfl, hp2, hp3, lw_p2, lw_p3, hW⟩

def ol (key info : List Nat) : Nat → List Nat
 | 0 => []
 | k + 1 => ol key info k ++ tk key info (k + 1)
theorem ol_len (key info : List Nat) (k : Nat) : (ol key info k).length = 32 * k := by
 induction k with
 | zero => rfl
 | succ k ih => rw [ol, List.length_append, ih, tk_len]; omega
theorem ol_byt (key info : List Nat) (k : Nat) : Byt (ol key info k) := by
 induction k with
 | zero => exact Byt.nil
 | succ k ih => exact ih.app (tk_byt _ _ _)
theorem ol_take (key info : List Nat) (a b n : Nat) (hab : a ≤ b) (hn : n ≤ 32 * a) : (ol key info b).take n = (ol key info a).take n := by
  induction b with
  | zero => obtain rfl : a = 0 := by omega
            rfl
  | succ b ih =>
    by_cases e : a = b + 1
    · rw [e]
    · rw [ol, List.take_append_of_le_length (by rw [ol_len]; omega), ih (by omega)]
def ex (key info : List Nat) (n : Nat) : List Nat := (ol key info 255).take n
theorem ex_len (key info : List Nat) (n : Nat) (h : n ≤ 8160) : (ex key info n).length = n := by rw [ex, List.length_take, ol_len]; omega
theorem ex_byt (key info : List Nat) (n : Nat) : Byt (ex key info n) := (ol_byt _ _ _).take _
theorem ex_of (key info : List Nat) (k n : Nat) (hk : k ≤ 255) (h : n ≤ 32 * k) : (ol key info k).take n = ex key info n := (ol_take key info k 255 n hk h).symm
set_option maxRecDepth 8000 in
set_option maxHeartbeats 2000000 in
/-- what is refused, and nothing -/
theorem dexp_none (z e : Int) (he : (z < 0 ∧ e = 1) ∨ (8160 < z ∧ e = 3) ∨ (z = 0 ∧ e = 0)) (hz : -9223372036854775808 ≤ z ∧ z ≤ 9223372036854775807) (A : Option Addr) (n c : Nat) (A2 : Option Addr) (n2 c2 : Nat) (w : World) :
  Calls Tryd.prog 38 #[.slice A n c, .slice A2 n2 c2, .int .i64 z] w fun e' w' => e' = .returned (.tuple #[.slice none 0 0, .int .i64 e]) ∧ Below w.heap.size w w' := by
 obtain ⟨B0, hB0e, hW, hB0⟩ := stB w
 rw [hB0e]
 have hB0q := Lib.hid hB0e
 clear hB0e
 rcases he with ⟨h1, rfl⟩ | ⟨h1, rfl⟩ | ⟨rfl, rfl⟩
 ·
  go_enter Tryd.func38, Tryd.ntmps38
  go_upto_region 0 with fail
  refine wl_lit ?_
  refine runWL 5 (.pointer (some ⟨w.heap.size, 0, none⟩)) (w.alloc (.cells (#[.int .i64 z]) 3)) rfl (by rfl) (exec_box 3 (.tmp 2) rfl (.int .i64 z) rfl) ?_
  simp only [Ls]
  have lw_p5 := Nat.le_trans hB0 hW.size
  have hp5 := Blk.new w 3 (#[.int .i64 z])
  replace hW := alB hW hB0 (.cells (#[.int .i64 z]) 3)
  generalize w.alloc (.cells (#[.int .i64 z]) 3) = w1 at *
  generalize w.heap.size = p5 at hp5 lw_p5  ⊢
  refine runL 6 (.slice none 0 0) rfl (by rfl) (by go_simp) ?_
  refine runL 7 (.int .i64 0) rfl (by rfl) (by go_simp) ?_
  simp only [Ls]
  refine nilL ?_
  go_upto_region 1 with fail
  refine wl_lit ?_
  refine runL 11 (.int .i64 z) rfl (by rfl) (exec_cell 3 (.tmp 5) rfl p5 0 rfl (.int .i64 z) _ Tryd.underlying3 rfl (hp5.cellIs 0 rfl)) ?_
  refine runL 12 (.bool true) rfl (by rfl) (by go_simp) ?_
  refine runL 10 (.bool true) rfl (by rfl) (by go_simp) ?_
  simp only [Ls]
  refine nilL ?_
  go_upto_region 2 with fail
  refine wl_lit ?_
  refine runL 6 (.slice none 0 0) rfl (by rfl) (by go_simp) ?_
  refine runL 7 (.int .i64 1) rfl (by rfl) (by go_simp) ?_
  simp only [Ls]
  refine nilL ?_
  go_wp2_with fail
  go_ret2
  exact ⟨rfl, hW⟩
 ·
  have h0 : ¬ z < 0 := by omega
  go_enter Tryd.func38, Tryd.ntmps38
  go_upto_region 0 with fail
  refine wl_lit ?_
  refine runWL 5 (.pointer (some ⟨w.heap.size, 0, none⟩)) (w.alloc (.cells (#[.int .i64 z]) 3)) rfl (by rfl) (exec_box 3 (.tmp 2) rfl (.int .i64 z) rfl) ?_
  simp only [Ls]
  have lw_p5 := Nat.le_trans hB0 hW.size
  have hp5 := Blk.new w 3 (#[.int .i64 z])
  replace hW := alB hW hB0 (.cells (#[.int .i64 z]) 3)
  generalize w.alloc (.cells (#[.int .i64 z]) 3) = w2 at *
  generalize w.heap.size = p5 at hp5 lw_p5  ⊢
  refine runL 6 (.slice none 0 0) rfl (by rfl) (by go_simp) ?_
  refine runL 7 (.int .i64 0) rfl (by rfl) (by go_simp) ?_
  simp only [Ls]
  refine nilL ?_
  go_upto_region 1 with fail
  refine wl_lit ?_
  refine runL 11 (.int .i64 z) rfl (by rfl) (exec_cell 3 (.tmp 5) rfl p5 0 rfl (.int .i64 z) _ Tryd.underlying3 rfl (hp5.cellIs 0 rfl)) ?_
  refine runL 12 (.bool false) rfl (by rfl) (by go_simp) ?_
  refine runL 10 (.bool false) rfl (by rfl) (by go_simp) ?_
  simp only [Ls]
  refine nilL ?_
  go_upto_region 3 with fail
  refine wl_lit ?_
  refine runL 14 (.int .i64 z) rfl (by rfl) (exec_cell 3 (.tmp 5) rfl p5 0 rfl (.int .i64 z) _ Tryd.underlying3 rfl (hp5.cellIs 0 rfl)) ?_
  refine runL 15 (.bool true) rfl (by rfl) (by go_simp) ?_
  refine runL 13 (.bool true) rfl (by rfl) (by go_simp) ?_
  simp only [Ls]
  refine nilL ?_
  go_upto_region 4 with fail
  refine wl_lit ?_
  refine runL 6 (.slice none 0 0) rfl (by rfl) (by go_simp) ?_
  refine runL 7 (.int .i64 3) rfl (by rfl) (by go_simp) ?_
  simp only [Ls]
  refine nilL ?_
  go_wp2_with fail
  go_ret2
  exact ⟨rfl, hW⟩
 ·
  go_enter Tryd.func38, Tryd.ntmps38
  go_upto_region 0 with fail
  refine wl_lit ?_
  refine runWL 5 (.pointer (some ⟨w.heap.size, 0, none⟩)) (w.alloc (.cells (#[.int .i64 0]) 3)) rfl (by rfl) (exec_box 3 (.tmp 2) rfl (.int .i64 0) rfl) ?_
  simp only [Ls]
  have lw_p5 := Nat.le_trans hB0 hW.size
  have hp5 := Blk.new w 3 (#[.int .i64 0])
  replace hW := alB hW hB0 (.cells (#[.int .i64 0]) 3)
  generalize w.alloc (.cells (#[.int .i64 0]) 3) = w3 at *
  generalize w.heap.size = p5 at hp5 lw_p5  ⊢
  refine runL 6 (.slice none 0 0) rfl (by rfl) (by go_simp) ?_
  refine runL 7 (.int .i64 0) rfl (by rfl) (by go_simp) ?_
  simp only [Ls]
  refine nilL ?_
  go_upto_region 1 with fail
  refine wl_lit ?_
  refine runL 11 (.int .i64 0) rfl (by rfl) (exec_cell 3 (.tmp 5) rfl p5 0 rfl (.int .i64 0) _ Tryd.underlying3 rfl (hp5.cellIs 0 rfl)) ?_
  refine runL 12 (.bool false) rfl (by rfl) (by go_simp) ?_
  refine runL 10 (.bool false) rfl (by rfl) (by go_simp) ?_
  simp only [Ls]
  refine nilL ?_
  go_upto_region 3 with fail
  refine wl_lit ?_
  refine runL 14 (.int .i64 0) rfl (by rfl) (exec_cell 3 (.tmp 5) rfl p5 0 rfl (.int .i64 0) _ Tryd.underlying3 rfl (hp5.cellIs 0 rfl)) ?_
  refine runL 15 (.bool false) rfl (by rfl) (by go_simp) ?_
  refine runL 13 (.bool false) rfl (by rfl) (by go_simp) ?_
  simp only [Ls]
  refine nilL ?_
  go_upto_region 5 with fail
  refine wl_lit ?_
  refine runL 17 (.int .i64 0) rfl (by rfl) (exec_cell 3 (.tmp 5) rfl p5 0 rfl (.int .i64 0) _ Tryd.underlying3 rfl (hp5.cellIs 0 rfl)) ?_
  refine runL 18 (.bool true) rfl (by rfl) (by go_simp) ?_
  refine runL 16 (.bool true) rfl (by rfl) (by go_simp) ?_
  simp only [Ls]
  refine nilL ?_
  go_upto_region 6 with fail
  refine wl_lit ?_
  refine runL 6 (.slice none 0 0) rfl (by rfl) (by go_simp) ?_
  refine runL 7 (.int .i64 0) rfl (by rfl) (by go_simp) ?_
  simp only [Ls]
  refine nilL ?_
  go_wp2_with fail
  go_ret2
  exact ⟨rfl, hW⟩
end Go.Proofs.YtcfddmplnoknlaaDoor
namespace Go.Proofs.YtcfddmplnoknlaaDoor
set_option maxRecDepth 16384
open Go.RowKit Sh
attribute [local go_sem] Oper.semAt_some
structure DI (key info : List Nat) (z : Nat) (v : World) (B0 L0 p5 p8 k : Nat) (W : World) : Prop where
 lt : 32 * k < z
 lo : L0 ≤ W.heap.size
 nb : Blk W p5 3 #[.int .i64 (z : Int)]
 o : ∃ A m, Blk W p8 34 #[.slice A m m] ∧ Own W L0 A m m (ol key info k)
 bel : Below B0 v W
structure DX (key info : List Nat) (z : Nat) (v : World) (B0 L0 p5 p8 : Nat) (W : World) : Prop where
 nb : Blk W p5 3 #[.int .i64 (z : Int)]
 o : ∃ g m k, L0 ≤ g ∧ z ≤ 32 * k ∧ k ≤ 255 ∧ m = 32 * k ∧ Blk W p8 34 #[.slice (some ⟨g, 0, none⟩) m m] ∧ Blk W g 5 (va .u8 (ol key info k))
 bel : Below B0 v W
section
variable {key info : List Nat} {z : Nat} {v : World} {B0 L0 p5 p8 k : Nat} {A B : World}
theorem DI.turn (h : DI key info z v B0 L0 p5 p8 k A) (hs : A.heap.size ≤ B.heap.size) (hb : ∀ g T cs, Blk A g T cs → Blk B g T cs) (ho : ∀ Ad m l, Own A L0 Ad m m l → Own B L0 Ad m m l) (hw : Below B0 v B) :
  DI key info z v B0 L0 p5 p8 k B := by
 obtain ⟨Ad, m, h1, h2⟩ := h.o
 exact ⟨h.lt, Nat.le_trans h.lo hs, hb _ _ _ h.nb, ⟨Ad, m, hb _ _ _ h1, ho _ _ _ h2⟩, hw⟩
theorem DX.put {l : Nat} {o : Obj} (h : DX key info z v B0 L0 p5 p8 A) (o' : Obj) (hl : A.heap[l]? = some o) (hc : o.isCells = false) (hB : B0 ≤ l) : DX key info z v B0 L0 p5 p8 (A.putObj l o') := by
 obtain ⟨g, m, k, h1, h2, h3, h4, h5, h6⟩ := h.o
 exact ⟨h.nb.putObjX o' hl hc, ⟨g, m, k, h1, h2, h3, h4, h5.putObjX o' hl hc, h6.putObjX o' hl hc⟩, below_putObjX h.bel hB o'⟩
end

set_option maxRecDepth 8000 in
set_option maxHeartbeats 4000000 in
/-- what is done -/
theorem dexp_ok (key info : List Nat) (z : Nat) (hz0 : 0 < z) (hz : z ≤ 8160) (A : Option Addr) (n c B : Nat) (A2 : Option Addr) (n2 c2 B2 : Nat) (hk : Byt key) (hi : Byt info) (hnc : n ≤ c) (hn : n < 1000) (hnc2 : n2 ≤ c2) (hn2 : n2 < 1000) (w : World) (hg : Glob w)
  (hr : Reads w B 1 A n (nv .u8 key)) (hB : B ≤ w.heap.size) (hr2 : Reads w B2 1 A2 n2 (nv .u8 info)) (hB2 : B2 ≤ w.heap.size) :
  Calls Tryd.prog 38 #[.slice A n c, .slice A2 n2 c2, .int .i64 (z : Int)] w fun e' w' => ∃ g, e' = .returned (.tuple #[.slice (some ⟨g, 0, none⟩) z z, .int .i64 0]) ∧ ByB w' g (ex key info z) ∧ w.heap.size ≤ g ∧ Below w.heap.size w w' := by
 obtain ⟨B0, hB0e, hW, hB0⟩ := stB w
 rw [hB0e]
 have gl := glob_of hg hB0e
 have hl2n := hr2.len
 have hBB : B ≤ B0 := by omega
 have hBB2 : B2 ≤ B0 := by omega
 have rd := reads_of hr hBB
 have rd2 := reads_of hr2 hBB2
 have hBw : B0 ≤ w.heap.size := by omega
 clear hr hB hr2 hB2 hg
 have hB0q := Lib.hid hB0e
 clear hB0e
 have hz1 : ¬ (z : Int) < 0 := by omega
 have hz2 : ¬ 8160 < (z : Int) := by omega
 have hz3 : ¬ (z : Int) = 0 := by omega
 have hz3N : ¬ z = 0 := by omega
 refine callsIn_wide.1 (callsIn_of_wp_marks (n := 5) Tryd.func38 rfl trivial ?_)
 refine (wpIn_wide (n := 5)).2 ?_
 simp only [Tryd.ntmps38, List.size_toArray, List.length_cons, List.length_nil, Nat.reduceAdd, Nat.reduceSub, Array.replicate_succ, Array.replicate_zero, List.push_toArray, List.append_toArray, List.nil_append, List.cons_append]
 go_upto_region 0 with fail
 refine wl_lit ?_
 refine runWL 5 (.pointer (some ⟨w.heap.size, 0, none⟩)) (w.alloc (.cells (#[.int .i64 (z : Int)]) 3)) rfl (by rfl) (exec_box 3 (.tmp 2) rfl (.int .i64 (z : Int)) rfl) ?_
 simp only [Ls]
 have lw_p5 := Nat.le_trans hB0 hW.size
 have hp5 := Blk.new w 3 (#[.int .i64 (z : Int)])
 replace hW := alB hW hB0 (.cells (#[.int .i64 (z : Int)]) 3)
 generalize w.alloc (.cells (#[.int .i64 (z : Int)]) 3) = w1 at *
 generalize w.heap.size = p5 at hp5 lw_p5  ⊢
 refine runL 6 (.slice none 0 0) rfl (by rfl) (by go_simp) ?_
 refine runL 7 (.int .i64 0) rfl (by rfl) (by go_simp) ?_
 simp only [Ls]
 refine nilL ?_
 go_upto_region 1 with fail
 refine wl_lit ?_
 refine runL 11 (.int .i64 (z : Int)) rfl (by rfl) (exec_cell 3 (.tmp 5) rfl p5 0 rfl (.int .i64 (z : Int)) _ Tryd.underlying3 rfl (hp5.cellIs 0 rfl)) ?_
 refine runL 12 (.bool false) rfl (by rfl) (by go_simp) ?_
 refine runL 10 (.bool false) rfl (by rfl) (by go_simp) ?_
 simp only [Ls]
 refine nilL ?_
 go_upto_region 3 with fail
 refine wl_lit ?_
 refine runL 14 (.int .i64 (z : Int)) rfl (by rfl) (exec_cell 3 (.tmp 5) rfl p5 0 rfl (.int .i64 (z : Int)) _ Tryd.underlying3 rfl (hp5.cellIs 0 rfl)) ?_
 refine runL 15 (.bool false) rfl (by rfl) (by go_simp) ?_
 refine runL 13 (.bool false) rfl (by rfl) (by go_simp) ?_
 simp only [Ls]
 refine nilL ?_
 go_upto_region 5 with fail
 refine wl_lit ?_
 refine runL 17 (.int .i64 (z : Int)) rfl (by rfl) (exec_cell 3 (.tmp 5) rfl p5 0 rfl (.int .i64 (z : Int)) _ Tryd.underlying3 rfl (hp5.cellIs 0 rfl)) ?_
 refine runL 18 (.bool false) rfl (by rfl) (by go_simp) ?_
 refine runL 16 (.bool false) rfl (by rfl) (by go_simp) ?_
 simp only [Ls]
 refine nilL ?_
 go_upto_region 7 with fail
 refine wl_lit ?_
 refine runWL 8 (.pointer (some ⟨w1.heap.size, 0, none⟩)) (w1.alloc (.cells (#[.slice none 0 0]) 34)) rfl (by rfl) (exec_allocV 34 rfl _ (zv_bsD _)) ?_
 simp only [Ls]
 have lp5_p8 := hp5.lt
 have lw_p8 := Nat.le_trans hB0 hW.size
 have hp8 := Blk.new w1 34 (#[.slice none 0 0])
 have bx := bAl w1 (.cells (#[.slice none 0 0]) 34)
 replace hp5 := blB hp5 bx
 replace hW := trB hW hB0 bx
 clear bx
 generalize w1.alloc (.cells (#[.slice none 0 0]) 34) = w2 at *
 generalize w1.heap.size = p8 at hp8 lw_p8 lp5_p8 ⊢
 refine nilL ?_
 obtain ⟨L0, hL0⟩ : ∃ L, w2.heap.size = L := ⟨_, rfl⟩
 have bp5 : p5 < L0 := by rw [← hL0]; exact hp5.lt
 have bp8 : p8 < L0 := by rw [← hL0]; exact hp8.lt
 have hBL : B0 ≤ L0 := by rw [← hL0]; exact Nat.le_trans hB0 hW.size
 have hLq := Lib.hid hL0
 clear hL0
 go_upto_region 8 with fail
 refine wl_lit ?_
 refine runL 19 (.slice A n c) rfl (by rfl) (by go_simp) ?_
 refine runL 20 (.slice A2 n2 c2) rfl (by rfl) (by go_simp) ?_
 simp only [Ls]
 refine callL 21 rfl (by rfl) (fun K hK => wp_callF 58 #[.slice A n c, .slice A2 n2 c2] (by go_simp) (parts_any A n c A2 n2 c2 _) ?_)
 rintro e w3 ⟨c1, c3, rfl, hc1, hc3, hg1, hg3, bx⟩
 have hL1 : L0 ≤ c1 := by rw [← hLq.out]; exact hg1
 have hL3 : L0 ≤ c3 := by rw [← hLq.out]; exact hg3
 have lp5_c1 : p5 < c1 := Nat.lt_of_lt_of_le hp5.lt hg1
 have lp8_c1 : p8 < c1 := Nat.lt_of_lt_of_le hp8.lt hg1
 have lw_c1 : B0 ≤ c1 := Nat.le_trans (Nat.le_trans hB0 hW.size) hg1
 have lp5_c3 : p5 < c3 := Nat.lt_of_lt_of_le hp5.lt hg3
 have lp8_c3 : p8 < c3 := Nat.lt_of_lt_of_le hp8.lt hg3
 have lw_c3 : B0 ≤ c3 := Nat.le_trans (Nat.le_trans hB0 hW.size) hg3
 replace hp5 := blB hp5 bx
 replace hp8 := blB hp8 bx
 replace hW := trB hW hB0 bx
 clear hg1 hg3
 clear bx
 refine ⟨_, rfl, hK.out _ _ ?_⟩
 clear hK K
 simp only [Ls]
 refine nilL ?_
 go_wp2_with fail
 have hws : L0 ≤ w3.heap.size := Nat.le_trans hL1 (Nat.le_of_lt hc1.lt)
 refine (wpIn_wide (n := 5)).1 (wp_rangeBreak (gf := 75) (lb := #[.pointer (some ⟨c1, 0, none⟩), .pointer (some ⟨c3, 0, none⟩)]) (id := 1) rfl (enters_of Tryd.func75 (by kernel_rfl) rfl)
  (parts_ends key info A n c B A2 n2 c2 B2 hk hi hnc hn hnc2 hn2 w B0 rd rd2 gl hBB hBB2 hBw c1 c3 L0 _ hc1 hc3 hL1 hL3)
  (fun k W => DI key info z w B0 L0 p5 p8 k W) (fun W => DX key info z w B0 L0 p5 p8 W) 255 (by omega)
  (fun k a₁ W => ∃ bb, L0 ≤ bb ∧ Blk W bb 45 (va .u8 (tk key info (k + 1))) ∧ a₁ = { tmps := #[.slice A n c, .slice A2 n2 c2, .int .i64 (z : Int), undef, undef, .pointer (some ⟨p5, 0, none⟩), .slice none 0 0, .int .i64 0, .pointer (some ⟨p8, 0, none⟩), .pointer (some ⟨bb, 0, none⟩), .bool false, .int .i64 (z : Int), .bool false, .bool false, .int .i64 (z : Int), .bool false, .bool false, .int .i64 (z : Int), .bool false, .slice A n c, .slice A2 n2 c2, .func (.func 75) #[] #[.pointer (some ⟨c1, 0, none⟩), .pointer (some ⟨c3, 0, none⟩)], .agg (va .u8 (tk key info (k + 1))), undef, undef, undef, undef, undef, undef, undef, undef, undef, undef, undef, undef], defers := [] } ∧ DI key info z w B0 L0 p5 p8 k W)
  ?hIb ?hIc ?hIp ?hXp ?hAp ?h0 ?hN ?assign ?body ?stop)
 case hIb => exact fun k A B h bx => h.turn bx.size (fun g T cs hb => hb.below bx hb.lt) (fun Ad m l ho => ho.below bx) (h.bel.trans (bx.mono (Nat.le_trans hBL h.lo)))
 case hIc => exact fun k A h => h.bel
 case hIp => exact fun k A l o o' hl h ho hc => h.turn (by simp) (fun g T cs hb => hb.putObjX o' ho hc) (fun Ad m l2 hw2 => hw2.putObj o' ho hc) (below_putObjX h.bel (by omega) o')
 case hXp => exact fun A l o o' hl h ho hc => h.put o' ho hc (by omega)
 case hAp =>
  rintro k a₁ A l o o' hl ⟨bb, hb1, hb2, rfl, h⟩ ho hc
  exact ⟨bb, hb1, hb2.putObjX o' ho hc, rfl, h.turn (by simp) (fun g T cs hb => hb.putObjX o' ho hc) (fun Ad m l2 hw2 => hw2.putObj o' ho hc) (below_putObjX h.bel (by omega) o')⟩
 case h0 => exact ⟨by omega, hws, hp5, ⟨none, 0, hp8, Own.nil _ _⟩, hW⟩
 case hN =>
  intro k W h
  have := h.lt
  omega
 case assign =>
  intro m l k W K hI hK
  simp only [List.setIfInBounds_toArray, List.set_cons_zero, List.set_cons_succ]
  refine wl_litIn (by kernel_rfl) notOut_false ?_
  refine runWL 9 (.pointer (some ⟨W.heap.size, 0, none⟩)) (W.alloc (.cells (va .u8 (List.replicate 32 0)) 45)) rfl (by rfl) (exec_allocV 45 rfl _ (zv_api_Digest _)) ?_
  simp only [Ls]
  have hbb := Blk.new W 45 (va .u8 (List.replicate 32 0))
  refine runSL ((W.alloc (.cells (va .u8 (List.replicate 32 0)) 45)).setRow W.heap.size (va .u8 (tk key info (k + 1)))) rfl (by rfl) (exec_storeRow 45 (.tmp 9) (.tmp 22) rfl W.heap.size rfl (va .u8 (tk key info (k + 1))) rfl 45 _ hbb (sz_eq (sz_api_Digest _ List.length_replicate) (sz_api_Digest _ (tk_len _ _ _))) (sz_api_Digest _ (tk_len _ _ _)) (va_ones .u8 _)) ?_
  refine nilL ?_
  have bx : Below W.heap.size W ((W.alloc (.cells (va .u8 (List.replicate 32 0)) 45)).setRow W.heap.size (va .u8 (tk key info (k + 1)))) := below_setRow ((Below.refl _ W).alloc (Nat.le_refl _) _) (Nat.le_refl _) _
  exact hK _ _ bx ⟨W.heap.size, hI.lo, hbb.row _, rfl, hI.turn bx.size (fun g T cs hb => hb.below bx hb.lt) (fun Ad m l ho => ho.below bx) (hI.bel.trans (bx.mono (Nat.le_trans hBL hI.lo)))⟩
 case stop =>
  clear hp5 hp8 hc1 hc3 hW
  intro D W hD h hK
  obtain ⟨hp5, ⟨g, m, k, hgL, hzk, hk255, rfl, hp8, hgb⟩, hW⟩ := h
  obtain ⟨m, hm⟩ : ∃ m, 32 * k = m := ⟨_, rfl⟩
  rw [hm] at hp8
  have hzm : (z : Int) ≤ (m : Int) := by omega
  have hzmN : z ≤ m := by omega
  have hDB : B0 ≤ D := by omega
  go_upto_region 12 with fail
  refine wl_lit ?_
  refine runL 31 (.slice (some ⟨g, 0, none⟩) m m) rfl (by rfl) (exec_cell 34 (.tmp 8) rfl p8 0 rfl (.slice (some ⟨g, 0, none⟩) m m) _ Tryd.underlying34 rfl (hp8.cellIs 0 rfl)) ?_
  refine runL 32 (.int .i64 (z : Int)) rfl (by rfl) (exec_cell 3 (.tmp 5) rfl p5 0 rfl (.int .i64 (z : Int)) _ Tryd.underlying3 rfl (hp5.cellIs 0 rfl)) ?_
  refine runL 33 (.int .i64 (z : Int)) rfl (by rfl) (exec_cell 3 (.tmp 5) rfl p5 0 rfl (.int .i64 (z : Int)) _ Tryd.underlying3 rfl (hp5.cellIs 0 rfl)) ?_
  refine runL 34 (.slice (some ⟨g, 0, none⟩) z z) rfl (by rfl) (by go_simp) ?_
  refine runL 6 (.slice (some ⟨g, 0, none⟩) z z) rfl (by rfl) (by go_simp) ?_
  refine runL 7 (.int .i64 0) rfl (by rfl) (by go_simp) ?_
  simp only [Ls]
  refine nilL ?_
  go_wp2_with fail
  refine ⟨by simp, .inl ⟨_, _, rfl, run_takeDeferred hK, ?_⟩⟩
  exact ⟨_, results_tmp2 rfl _ _ _, g, rfl, (by have hx := (hgb.putObjX (.deferred none) hK rfl).byB.take z; rwa [ex_of key info k z hk255 hzk] at hx), Nat.le_trans hBL hgL, below_putObjX hW hDB _⟩
 case body =>
  clear hp5 hp8 hc1 hc3 hW
  rintro m l k a₁ W ⟨bb, hbL, hbb, rfl, hI⟩
  obtain ⟨hlt, hlo, hp5, ⟨Ao, mo, hp8, hoo⟩, hW⟩ := hI
  have hB0 : B0 ≤ w.heap.size := hBw
  have hol := hoo.len
  rw [ol_len] at hol
  obtain ⟨m2, hm2⟩ : ∃ x, mo + 32 = x := ⟨_, rfl⟩
  have htl := tk_len key info k
  have htb := tk_byt key info (k + 1)
  obtain ⟨t, ht⟩ : ∃ t, tk key info (k + 1) = t := ⟨_, rfl⟩
  obtain ⟨ok, hok⟩ : ∃ t, ol key info k = t := ⟨_, rfl⟩
  obtain ⟨ok2, hok2⟩ : ∃ t, ol key info (k + 1) = t := ⟨_, rfl⟩
  have hob : Byt ok := by rw [← hok]; exact ol_byt _ _ _
  have ho2l : ok2.length = m2 := by rw [← hok2, ol_len]; omega
  have ho2b : Byt ok2 := by rw [← hok2]; exact ol_byt _ _ _
  have hjo : [ok, t].flatten = ok2 := by rw [← hok2, ol, hok, ht]; simp
  rw [ht] at hbb htl htb
  rw [hok] at hoo
  have hkh := KH.refl L0 W
  have nhoo_p5 : Off Ao p5 := fun a ha e => by have := (hoo.lt ha).1; omega
  have nhoo_p8 : Off Ao p8 := fun a ha e => by have := (hoo.lt ha).1; omega
  replace hoo := hoo.mono hBL
  have noo_p8 := nhoo_p8
  have noo_p5 := nhoo_p5
  have nkh_p8 : Offk L0 W p8 := .inl bp8
  have lp5_p8 : p5 < p8 := lp5_p8
  have hjoq := Lib.hid hjo
  have ho2q := Lib.hid hok2
  clear hjo hok hok2 ht nhoo_p5 nhoo_p8
  repeat gi_step
  replace hp8 := hp8.drew
  refine wl_anyRound (S := fun wr => Blk wr p5 3 (#[.int .i64 (z : Int)]) ∧ Blk wr bb 45 (va .u8 t) ∧ Own wr B0 Ao mo mo ok ∧ KH L0 W wr ∧ Below B0 w wr) (by kernel_rfl) (by kernel_rfl) ⟨hp5.drew, hbb.drew, hoo.drew_, hkh.drew_, below_drewN hW 1⟩ (fun hH => ?_)
  clear hp5 hbb hoo hkh hW
  obtain ⟨hp5, hbb, hoo, hkh, hW⟩ := hH
  generalize W.drew = w4 at *
  refine takeH 4 1 24 (.slice (some ⟨bb, 0, none⟩) 32 32) rfl rfl (by kernel_rfl) (by kernel_rfl) (by kernel_rfl) (fun _ _ _ h => h) (Or.inl ⟨by rfl, fun w _ => by go_simp⟩) ⟨hp5, hbb, hoo, hkh, hW⟩ ?_
  simp only [Ls]
  refine wpAnyH_ready (by kernel_rfl) (by simp) (readyRun 3 0 23 (.slice Ao mo mo) w4 rfl rfl (by rfl) (exec_cell 34 (.tmp 8) rfl p8 0 rfl (.slice Ao mo mo) _ Tryd.underlying34 rfl (hp8.cellIs 0 rfl)) ⟨hp5, hbb, hoo, hkh, hW⟩ (fun _ => ?_) AllReadyH.nil)
  simp only [Ls]
  refine wpAnyH_ready (by kernel_rfl) (by simp) (readyRun 2 2 25 (.slice (some ⟨w4.heap.size, 0, none⟩) 2 2) (w4.alloc (.cells (#[.slice Ao mo mo, .slice (some ⟨bb, 0, none⟩) 32 32]) 34)) rfl rfl (by rfl) (exec_bslice 90 2 _ rfl _ (by exact bs_2 Ao mo mo (some ⟨bb, 0, none⟩) 32 32 _)) ⟨hp5.alloc _, hbb.alloc _, hoo.alloc _, hkh.alloc _, hW.alloc (Nat.le_trans hB0 hW.size) _⟩ (fun _ => ?_) AllReadyH.nil)
  simp only [Ls]
  have lp5_q1 := hp5.lt
  have lp8_q1 := hp8.lt
  have lbb_q1 := hbb.lt
  have noo_q1 := hoo.new_off
  have nkh_q1 := hkh.new_off
  have lw_q1 := Nat.le_trans hB0 hW.size
  have hq1 : Blk (w4.alloc (.cells (#[.slice Ao mo mo, .slice (some ⟨bb, 0, none⟩) 32 32]) 34)) w4.heap.size 34 (#[.slice Ao mo mo, .slice (some ⟨bb, 0, none⟩) 32 32]) := Blk.new _ _ _
  have bx := bAl w4 (.cells (#[.slice Ao mo mo, .slice (some ⟨bb, 0, none⟩) 32 32]) 34)
  replace hp5 := blB hp5 bx
  replace hp8 := blB hp8 bx
  clear bx
  replace hbb := hbb.alloc (.cells (#[.slice Ao mo mo, .slice (some ⟨bb, 0, none⟩) 32 32]) 34)
  replace hoo := hoo.alloc (.cells (#[.slice Ao mo mo, .slice (some ⟨bb, 0, none⟩) 32 32]) 34)
  replace hkh := hkh.alloc (.cells (#[.slice Ao mo mo, .slice (some ⟨bb, 0, none⟩) 32 32]) 34)
  replace hW := alB hW hB0 (.cells (#[.slice Ao mo mo, .slice (some ⟨bb, 0, none⟩) 32 32]) 34)
  generalize w4.alloc (.cells (#[.slice Ao mo mo, .slice (some ⟨bb, 0, none⟩) 32 32]) 34) = w5 at *
  generalize w4.heap.size = q1 at hq1 lw_q1 lp5_q1 lp8_q1 lbb_q1 noo_q1 nkh_q1 ⊢
  refine wpAnyH_ready (by kernel_rfl) (by simp) (readyCons 1 3 26 rfl rfl (by rfl) (fun K hK => wp_callF 42 #[.slice (some ⟨q1, 0, none⟩) 2 2] (by go_simp) (join_to [ok, t] ok2 2 2 _ m2 _ _ (parts_two (Nat.le_refl _) hbb.lt hq1 hoo.reads (Nat.le_refl _) hob (hbb.readsAll (Nat.lt_succ_self _) htl) (Nat.le_refl _) htb) hjoq.out (by omega) (Nat.le_refl _) ho2l (by omega)) ?_) AllReadyH.nil)
  rintro e w6 ⟨g1, rfl, hg1, hgg, bx⟩
  have hLg : L0 ≤ g1 := Nat.le_trans (Nat.le_trans hlo hkh.h.size) hgg
  have lp5_g1 : p5 < g1 := Nat.lt_of_lt_of_le hp5.lt hgg
  have lp8_g1 : p8 < g1 := Nat.lt_of_lt_of_le hp8.lt hgg
  have lbb_g1 : bb < g1 := Nat.lt_of_lt_of_le hbb.lt hgg
  have noo_g1 := hoo.off_ge hgg
  have nkh_g1 := hkh.off_ge hgg
  have lq1_g1 : q1 < g1 := Nat.lt_of_lt_of_le hq1.lt hgg
  have lw_g1 : B0 ≤ g1 := Nat.le_trans (Nat.le_trans hB0 hW.size) hgg
  replace hp5 := blB hp5 bx
  replace hp8 := blB hp8 bx
  replace hbb := blB hbb bx
  replace hoo := hoo.below bx
  replace hkh := hkh.below bx
  replace hq1 := blB hq1 bx
  replace hW := trB hW hB0 bx
  clear hgg
  clear bx
  refine ⟨_, rfl, hK.out _ _ ⟨hp5, hbb, hoo, hkh, hW⟩ (fun _ => ?_)⟩
  clear hK K
  simp only [Ls]
  refine wpAnyH_ready (by kernel_rfl) (by simp) (readyRunS 0 4 (w6.setCell ⟨p8, 0, none⟩ (.slice (some ⟨g1, 0, none⟩) m2 m2)) rfl rfl (by rfl) (exec_storeCell 34 (.tmp 8) (.tmp 26) rfl p8 0 rfl (.slice (some ⟨g1, 0, none⟩) m2 m2) rfl rfl rfl 34 (#[.slice Ao mo mo]) hp8 (show 0 < 1 by decide) (by kernel_rfl)) ⟨hp5.far (p := ⟨p8, 0, none⟩) (show p5 ≠ p8 from (by omega)) _, hbb.far (p := ⟨p8, 0, none⟩) (show bb ≠ p8 from (by omega)) _, hoo.far (p := ⟨p8, 0, none⟩) noo_p8 _, hkh.far (p := ⟨p8, 0, none⟩) nkh_p8 _, hW.setCell (p := ⟨p8, 0, none⟩) lw_p8 _⟩ (fun _ => ?_) AllReadyH.nil)
  replace hp5 := hp5.far (p := ⟨p8, 0, none⟩) (show p5 ≠ p8 from (by omega)) (.slice (some ⟨g1, 0, none⟩) m2 m2)
  replace hbb := hbb.far (p := ⟨p8, 0, none⟩) (show bb ≠ p8 from (by omega)) (.slice (some ⟨g1, 0, none⟩) m2 m2)
  replace hoo := hoo.far (p := ⟨p8, 0, none⟩) noo_p8 (.slice (some ⟨g1, 0, none⟩) m2 m2)
  replace hkh := hkh.far (p := ⟨p8, 0, none⟩) nkh_p8 (.slice (some ⟨g1, 0, none⟩) m2 m2)
  replace hq1 := hq1.far (p := ⟨p8, 0, none⟩) (show q1 ≠ p8 from (by omega)) (.slice (some ⟨g1, 0, none⟩) m2 m2)
  replace hg1 := hg1.far (p := ⟨p8, 0, none⟩) (show g1 ≠ p8 from (by omega)) (.slice (some ⟨g1, 0, none⟩) m2 m2)
  replace hp8 : Blk (w6.setCell ⟨p8, 0, none⟩ (.slice (some ⟨g1, 0, none⟩) m2 m2)) p8 34 (#[.slice (some ⟨g1, 0, none⟩) m2 m2]) := hp8.set_ 0 (.slice (some ⟨g1, 0, none⟩) m2 m2)
  replace hW := hW.setCell (p := ⟨p8, 0, none⟩) lw_p8 (.slice (some ⟨g1, 0, none⟩) m2 m2)
  generalize w6.setCell ⟨p8, 0, none⟩ (.slice (some ⟨g1, 0, none⟩) m2 m2) = w7 at *
  refine wpAnyH_done (by kernel_rfl) ?_ _
  by_cases hdone : z ≤ m2
  ·
   have hdI : (z : Int) ≤ (m2 : Int) := by omega
   repeat (first | (refine wl_round ?hnd ?_; (case hnd => kernel_rfl)) | gi_step)
   refine runL 27 (.slice (some ⟨g1, 0, none⟩) m2 m2) rfl (by rfl) (exec_cell 34 (.tmp 8) rfl p8 0 rfl (.slice (some ⟨g1, 0, none⟩) m2 m2) _ Tryd.underlying34 rfl (hp8.cellIs 0 rfl)) ?_
   refine runL 28 (.int .i64 m2) rfl (by rfl) (by go_simp) ?_
   refine runL 29 (.int .i64 (z : Int)) rfl (by rfl) (exec_cell 3 (.tmp 5) rfl p5 0 rfl (.int .i64 (z : Int)) _ Tryd.underlying3 rfl (hp5.cellIs 0 rfl)) ?_
   refine runL 30 (.bool true) rfl (by rfl) (by go_simp) ?_
   simp only [Ls]
   refine nilL ?_
   iterate 8 (try gi_step)
   exact ⟨rfl, hkh.ko, hp5, ⟨g1, m2, k + 1, hLg, by omega, by omega, by omega, hp8, by rw [ho2q.out]; exact hg1⟩, hW⟩
  ·
   have hdI : ¬ (z : Int) ≤ (m2 : Int) := by omega
   repeat (first | (refine wl_round ?hnd ?_; (case hnd => kernel_rfl)) | gi_step)
   refine runL 27 (.slice (some ⟨g1, 0, none⟩) m2 m2) rfl (by rfl) (exec_cell 34 (.tmp 8) rfl p8 0 rfl (.slice (some ⟨g1, 0, none⟩) m2 m2) _ Tryd.underlying34 rfl (hp8.cellIs 0 rfl)) ?_
   refine runL 28 (.int .i64 m2) rfl (by rfl) (by go_simp) ?_
   refine runL 29 (.int .i64 (z : Int)) rfl (by rfl) (exec_cell 3 (.tmp 5) rfl p5 0 rfl (.int .i64 (z : Int)) _ Tryd.underlying3 rfl (hp5.cellIs 0 rfl)) ?_
   refine runL 30 (.bool false) rfl (by rfl) (by go_simp) ?_
   simp only [Ls]
   refine nilL ?_
   iterate 8 (try gi_step)
   exact ⟨hkh.ko, hkh.h, by omega, Nat.le_trans hlo hkh.h.size, hp5, ⟨_, _, hp8, by rw [ho2q.out]; exact hg1.owned ho2l hLg (by unfold maxLen; omega)⟩, hW⟩
end Go.Proofs.YtcfddmplnoknlaaDoor
