/-
  The walk of NoncesBytes.
-/
import Derived.Test.YtaaldjmopifcjaaNByA
namespace Go.Proofs.Ytaaldjmopifcjaa
open Go.RowKit Sh

set_option maxRecDepth 8000 in
set_option maxHeartbeats 4000000 in
theorem bytes_any (s1 c1 s2 c2 n cp B : Nat) (A : Option Addr) (l : List Nat) (hs1 : s1 < 4294967296) (hc1 : c1 < 18446744073709551616) (hs2 : s2 < 4294967296) (hc2 : c2 < 18446744073709551616) (hlb : Byt l) (hcp : n ≤ cp)
    (w : World) (hr : Reads w B 1 A n (nv .u8 l)) (hB : B ≤ w.heap.size) :
    Calls Try.prog 6 #[.agg (noV s1 c1), .agg (noV s2 c2), .slice A n cp] w fun e w' => e = .returned (.bool true) ∧ Below w.heap.size w w' := by
  have hm : NyMem w.heap.size B s1 c1 s2 c2 n A l w ((w.alloc (.cells (noV s1 c1) 35)).alloc (.cells (noV s2 c2) 35)) :=
    ⟨(Blk.new _ _ _).alloc _, Blk.newAt (by simp), (hr.alloc hB _).alloc (by simp; omega) _, hB, ((Below.refl _ _).alloc (Nat.le_refl _) _).alloc (by simp) _⟩
  have hmm := Lib.hid hm
  obtain ⟨x, hx⟩ : ∃ x, noB s1 c1 = x := ⟨_, rfl⟩
  obtain ⟨y, hy⟩ : ∃ y, noB s2 c2 = y := ⟨_, rfl⟩
  have hxl : x.length = 12 := hx ▸ noB_len _ _
  have hyl : y.length = 12 := hy ▸ noB_len _ _
  have hxb : Byt x := hx ▸ noB_byt _ _
  have hyb : Byt y := hy ▸ noB_byt _ _
  have hx4 : beV (x.take 4) = s1 := by rw [← hx, noB_take, beV_beB4 s1 hs1]
  have hx8 : beV (x.drop 4) = c1 := by rw [← hx, noB_drop, beV_beB8 c1 hc1]
  have hvx : beV x = s1 * 18446744073709551616 + c1 := by rw [← hx]; exact noB_val s1 c1 hs1 hc1
  have hvy : beV y = s2 * 18446744073709551616 + c2 := by rw [← hy]; exact noB_val s2 c2 hs2 hc2
  have hd1 : cmpNo s1 c1 s2 c2 = cmpN (beV x) (beV y) := by rw [hvx, hvy]; exact cmpNo_val s1 c1 s2 c2 hc1 hc2
  have hd2 : cmpNo s2 c2 s1 c1 = -cmpN (beV x) (beV y) := by rw [hvx, hvy, cmpNo_val s2 c2 s1 c1 hc2 hc1, cmpN_neg]
  have hgt := bst_gtr x y (by omega) hxb hyb (fun e => by
    rw [hvx, hvy] at e
    obtain ⟨e1, e2⟩ : s1 = s2 ∧ c1 = c2 := by omega
    rw [← hx, ← hy, e1, e2])
  have hl1 := bst_less x y (by omega) hxb hyb
  have hl2 := bst_less y x (by omega) hyb hxb
  have hxq := Lib.hid hx
  have hyq := Lib.hid hy
  have hlbq := Lib.hid hlb
  have hx4q := Lib.hid hx4
  have hx8q := Lib.hid hx8
  have hxbq := Lib.hid hxb
  have hrq := Lib.hid hr
  obtain ⟨vx, hvxe⟩ : ∃ v, beV x = v := ⟨_, rfl⟩
  obtain ⟨vy, hvye⟩ : ∃ v, beV y = v := ⟨_, rfl⟩
  rw [hvxe, hvye] at hd1 hd2 hl1 hl2 hgt
  have hgtq := Lib.hid hgt
  have hd1h := Lib.hid hd1
  have hd2h := Lib.hid hd2
  have hl1q := Lib.hid hl1
  have hl2q := Lib.hid hl2
  clear hm hx hy hlb hx4 hx8 hxb hyb hvx hvy hd1 hd2 hl1 hl2 hvxe hvye hr hgt
  by_cases hn20 : 20 < n
  · have hnI : (20 : Int) < (n : Int) := by omega
    go_enter Try.func6, Try.ntmps6
    go_wp2_with fail
    refine (lives08 _).mono ?_
    rintro e w1 ⟨rfl, b1⟩
    have hbel := Lib.hid ((hmm.out.below b1).bel)
    clear b1
    go_wp2_with fail
    go_ret
    exact ⟨rfl, hbel.out⟩
  · have hnI : ¬ (20 : Int) < (n : Int) := by omega
    go_enter Try.func6, Try.ntmps6
    go_upto_region 3 with fail
    refine wp_region_held_drew (S := NyMem w.heap.size B s1 c1 s2 c2 n A l w) (by kernel_rfl) hmm.out.drew_ (fun hH => ?_)
    refine takeH 5 0 18 (.agg (noV s1 c1)) rfl rfl (by kernel_rfl) (by kernel_rfl) (by kernel_rfl) (fun _ _ _ h => h) (yieldsIf_load_blk (by rfl) 35 (.tmp 3) rfl w.heap.size rfl 35 (noV s1 c1) _ (fun _ h => h.a) Try.underlying35 rfl (noV_info _ _)) hH ?_
    simp only [List.set_cons_zero, List.set_cons_succ]
    refine takeH 4 2 20 (.agg (noV s2 c2)) rfl rfl (by kernel_rfl) (by kernel_rfl) (by kernel_rfl) (fun _ _ _ h => h) (yieldsIf_load_blk (by rfl) 35 (.tmp 4) rfl (w.heap.size + 1) rfl 35 (noV s2 c2) _ (fun _ h => h.b) Try.underlying35 rfl (noV_info _ _)) hH ?_
    simp only [List.set_cons_zero, List.set_cons_succ]
    refine callH 3 1 19 rfl rfl (by rfl) (by kernel_rfl) (fun K hK => ?_)
    go_simp
    refine (nput_to s1 c1 x hxq.out hs1 _).mono ?_
    rintro e w' ⟨g1, rfl, hg1, hle1, bK⟩
    dsimp only
    refine hK.out _ _ (hH.below bK) (fun hH => ?_)
    clear hK K
    clear bK
    simp only [List.set_cons_zero, List.set_cons_succ]
    refine callH 2 3 21 rfl rfl (by rfl) (by kernel_rfl) (fun K hK => ?_)
    go_simp
    refine (nput_to s2 c2 y hyq.out hs2 _).mono ?_
    rintro e w' ⟨g2, rfl, hg2, hle2, bK⟩
    dsimp only
    refine hK.out _ _ (hH.below bK) (fun hH => ?_)
    clear hK K
    replace hg1 := hg1.below bK hg1.lt
    clear bK
    simp only [List.set_cons_zero, List.set_cons_succ]
    refine takeH 1 4 7 (.slice (some ⟨g1, 0, none⟩) 12 12) rfl rfl (by kernel_rfl) (by kernel_rfl) (by kernel_rfl) (fun _ _ _ h => h) (Or.inl ⟨by rfl, fun w _ => by go_simp⟩) hH ?_
    simp only [List.set_cons_zero, List.set_cons_succ]
    refine takeH 0 5 8 (.slice (some ⟨g2, 0, none⟩) 12 12) rfl rfl (by kernel_rfl) (by kernel_rfl) (by kernel_rfl) (fun _ _ _ h => h) (Or.inl ⟨by rfl, fun w _ => by go_simp⟩) hH ?_
    simp only [List.set_cons_zero, List.set_cons_succ]
    refine wpAnyH_done (by kernel_rfl) ?_ _
    have hnm := Lib.hid hH
    have hg1q := Lib.hid hg1
    have hg2q := Lib.hid hg2
    clear hH hg1 hg2 hle1 hle2
    go_wp2_with fail
    refine (nget_ok (some ⟨g1, 0, none⟩) 12 w'.heap.size s1 c1 (by omega) x hxbq.out hx4q.out hx8q.out _ (hg1q.out.readsAll hg1q.out.lt hxl) (Nat.le_refl _)).mono ?_
    rintro e w4 ⟨rfl, b4⟩
    have hny := Lib.hid (hnm.out.below b4)
    replace hg1q := Lib.hid (hg1q.out.below b4 hg1q.out.lt)
    replace hg2q := Lib.hid (hg2q.out.below b4 hg2q.out.lt)
    clear b4 hnm
    simp only [noV]
    go_upto_region 6 with fail
    have hz : NzMem w.heap.size B s1 c1 s2 c2 n g1 w4.heap.size A l x w (w4.alloc (.cells #[.int .u32 (s1 : Int), .int .u64 (c1 : Int)] 35)) := ⟨hny.out.alloc_, hg1q.out.alloc _, hxl, Blk.newAt rfl⟩
    have hg2z := hg2q.out.alloc (.cells #[.int .u32 (s1 : Int), .int .u64 (c1 : Int)] 35)
    generalize w4.alloc (.cells #[.int .u32 (s1 : Int), .int .u64 (c1 : Int)] 35) = w5 at *
    generalize w4.heap.size = K at *
    have hcx := hz.str
    have hcy : (convert 47 9 (.slice (some ⟨g2, 0, none⟩) 12 12)).run Try.prog w5 = .ok (.string (bst y)) w5 := str_of hg2z hyl
    have hl1 := hl1q.out
    have hl2 := hl2q.out
    have hmz := Lib.hid hz
    clear hz hg2z hny hg1q hg2q
    go_cut [31] (fun v wx => v = .bool (decide (vx < vy)) ∧ wx = w5)
    case first =>
      go_wp2
      go_meet
      exact ⟨rfl, rfl⟩
    case rest =>
      obtain ⟨hv31, hwx⟩ := hcut
      subst hwx
      rename_i aK
      refine aK _ _ ?_
      clear aK
      go_cut [11] (fun v wx => v = .int .i64 (if vx < vy then -1 else 0) ∧ wx = wc)
      case first =>
        by_cases hlt : vx < vy
        · rw [decide_eq_true hlt] at hv31
          subst hv31
          go_wp2
          go_meet
          exact ⟨by rw [if_pos hlt], rfl⟩
        · rw [decide_eq_false hlt] at hv31
          subst hv31
          go_wp2
          go_meet
          exact ⟨by rw [if_neg hlt], rfl⟩
      case rest =>
        clear hv31
        obtain ⟨hv11, hwx⟩ := hcut
        subst hwx
        obtain ⟨d0, hd0⟩ : ∃ d, (if vx < vy then -1 else 0 : Int) = d := ⟨_, rfl⟩
        rw [hd0] at hv11
        have hd0h := Lib.hid hd0
        subst hv11
        clear hd0
        go_upto_region 8 with fail
        go_cut [36] (fun v wx => v = .bool (decide (vy < vx)) ∧ wx = wc)
        case first =>
          go_wp2
          go_meet
          exact ⟨congrArg Value.bool hgtq.out, rfl⟩
        case rest =>
          obtain ⟨hv36, hwx⟩ := hcut
          subst hwx
          rename_i aK
          refine aK _ _ ?_
          clear aK
          go_cut [11] (fun v wx => v = .int .i64 (cmpN vx vy) ∧ wx = wc)
          case first =>
            by_cases hlt : vy < vx
            · rw [decide_eq_true hlt] at hv36
              subst hv36
              go_wp2
              go_meet
              exact ⟨by unfold cmpN; rw [if_neg (by omega), if_pos hlt], rfl⟩
            · rw [decide_eq_false hlt] at hv36
              subst hv36
              go_wp2
              go_meet
              exact ⟨by unfold cmpN; rw [if_neg hlt, hd0h.out], rfl⟩
          case rest =>
            clear hv36 hcx hcy hl1 hl2 hl1q hl2q
            obtain ⟨hv11, hwx⟩ := hcut
            subst hwx
            obtain ⟨d, hd⟩ : ∃ d, cmpN vx vy = d := ⟨_, rfl⟩
            rw [hd] at hd1h hd2h hv11
            have hdb : -1 ≤ d ∧ d ≤ 1 := by rw [← hd]; exact cmpN_bd _ _
            have hneg : IntKind.i64.wrap (-d) = -d := IntWalk.i64_in _ (by omega)
            subst hv11
            clear hd
            go_upto_region 10 with fail
            have heq := eqNo s1 c1
            refine wp_region_held_drew (S := NzMem w.heap.size B s1 c1 s2 c2 n g1 K A l x w) (by kernel_rfl) hmz.out.drew_ (fun hH => ?_)
            refine takeH 36 0 37 (.slice (some ⟨g1, 0, none⟩) 12 12) rfl rfl (by kernel_rfl) (by kernel_rfl) (by kernel_rfl) (fun _ _ _ h => h) (Or.inl ⟨by rfl, fun w _ => by go_simp⟩) hH ?_
            simp only [List.set_cons_zero, List.set_cons_succ]
            refine takeH 35 1 38 (.string (bst x)) rfl rfl (by kernel_rfl) (by kernel_rfl) (by kernel_rfl) (fun _ _ _ h => h) (yieldsIf_conv (by rfl) 47 9 _ rfl (.slice (some ⟨g1, 0, none⟩) 12 12) (.string (bst x)) rfl (fun _ h => h.str)) hH ?_
            simp only [List.set_cons_zero, List.set_cons_succ]
            refine takeH 34 2 39 (.agg (noV s1 c1)) rfl rfl (by kernel_rfl) (by kernel_rfl) (by kernel_rfl) (fun _ _ _ h => h) (yieldsIf_load_blk (by rfl) 35 (.tmp 3) rfl w.heap.size rfl 35 (noV s1 c1) _ (fun _ h => h.y.a) Try.underlying35 rfl (noV_info _ _)) hH ?_
            simp only [List.set_cons_zero, List.set_cons_succ]
            refine callH 33 3 40 rfl rfl (by rfl) (by kernel_rfl) (fun K hK => ?_)
            go_simp
            refine (rnput_to s1 c1 x hxq.out hs1 hc1 _).mono ?_
            rintro e w' ⟨g3, cap3, rfl, ho3, bK⟩
            dsimp only
            refine hK.out _ _ (hH.below bK) (fun hH => ?_)
            clear hK K
            clear bK
            simp only [List.set_cons_zero, List.set_cons_succ]
            refine stepH 32 4 41 (.string (bst x)) rfl rfl (by rfl) (by kernel_rfl) (exec_conv 47 9 _ rfl (.slice (some ⟨g3, 0, none⟩) 12 cap3) (.string (bst x)) rfl (own_string ho3)) hH ?_
            simp only [List.set_cons_zero, List.set_cons_succ]
            refine takeH 31 5 42 (.bool false) rfl rfl (by kernel_rfl) (by kernel_rfl) (by kernel_rfl) (fun _ _ _ h => h) (Or.inl ⟨by rfl, fun w _ => by go_simp⟩) hH ?_
            simp only [List.set_cons_zero, List.set_cons_succ]
            refine takeH 30 6 43 (.bool false) rfl rfl (by kernel_rfl) (by kernel_rfl) (by kernel_rfl) (fun _ _ _ h => h) (Or.inl ⟨by rfl, fun w _ => by go_simp⟩) hH ?_
            simp only [List.set_cons_zero, List.set_cons_succ]
            refine takeH 29 7 44 (.slice (some ⟨g1, 0, none⟩) 12 12) rfl rfl (by kernel_rfl) (by kernel_rfl) (by kernel_rfl) (fun _ _ _ h => h) (Or.inl ⟨by rfl, fun w _ => by go_simp⟩) hH ?_
            simp only [List.set_cons_zero, List.set_cons_succ]
            refine takeH 28 8 45 (.int .i64 12) rfl rfl (by kernel_rfl) (by kernel_rfl) (by kernel_rfl) (fun _ _ _ h => h) (Or.inl ⟨by rfl, fun w _ => by go_simp⟩) hH ?_
            simp only [List.set_cons_zero, List.set_cons_succ]
            refine takeH 27 9 46 (.slice (some ⟨g1, 0, none⟩) 12 12) rfl rfl (by kernel_rfl) (by kernel_rfl) (by kernel_rfl) (fun _ _ _ h => h) (Or.inl ⟨by rfl, fun w _ => by go_simp⟩) hH ?_
            simp only [List.set_cons_zero, List.set_cons_succ]
            refine takeH 26 10 47 (.int .i64 12) rfl rfl (by kernel_rfl) (by kernel_rfl) (by kernel_rfl) (fun _ _ _ h => h) (Or.inl ⟨by rfl, fun w _ => by go_simp⟩) hH ?_
            simp only [List.set_cons_zero, List.set_cons_succ]
            refine takeH 25 11 48 (.bool false) rfl rfl (by kernel_rfl) (by kernel_rfl) (by kernel_rfl) (fun _ _ _ h => h) (Or.inl ⟨by rfl, fun w _ => by go_simp⟩) hH ?_
            simp only [List.set_cons_zero, List.set_cons_succ]
            refine takeH 24 12 49 (.bool false) rfl rfl (by kernel_rfl) (by kernel_rfl) (by kernel_rfl) (fun _ _ _ h => h) (Or.inl ⟨by rfl, fun w _ => by go_simp⟩) hH ?_
            simp only [List.set_cons_zero, List.set_cons_succ]
            refine takeH 23 13 50 (.bool false) rfl rfl (by kernel_rfl) (by kernel_rfl) (by kernel_rfl) (fun _ _ _ h => h) (Or.inl ⟨by rfl, fun w _ => by go_simp⟩) hH ?_
            simp only [List.set_cons_zero, List.set_cons_succ]
            refine takeH 22 14 51 (.agg (noV s1 c1)) rfl rfl (by kernel_rfl) (by kernel_rfl) (by kernel_rfl) (fun _ _ _ h => h) (yieldsIf_load_blk (by rfl) 35 (.tmp 9) rfl K rfl 35 (noV s1 c1) _ (fun _ h => h.k) Try.underlying35 rfl (noV_info _ _)) hH ?_
            simp only [List.set_cons_zero, List.set_cons_succ]
            refine takeH 21 15 52 (.agg (noV s1 c1)) rfl rfl (by kernel_rfl) (by kernel_rfl) (by kernel_rfl) (fun _ _ _ h => h) (yieldsIf_load_blk (by rfl) 35 (.tmp 3) rfl w.heap.size rfl 35 (noV s1 c1) _ (fun _ h => h.y.a) Try.underlying35 rfl (noV_info _ _)) hH ?_
            simp only [List.set_cons_zero, List.set_cons_succ]
            refine takeH 20 16 53 (.bool false) rfl rfl (by kernel_rfl) (by kernel_rfl) (by kernel_rfl) (fun _ _ _ h => h) (Or.inl ⟨by rfl, fun w _ => by go_simp⟩) hH ?_
            simp only [List.set_cons_zero, List.set_cons_succ]
            refine takeH 19 17 54 (.bool false) rfl rfl (by kernel_rfl) (by kernel_rfl) (by kernel_rfl) (fun _ _ _ h => h) (Or.inl ⟨by rfl, fun w _ => by go_simp⟩) hH ?_
            simp only [List.set_cons_zero, List.set_cons_succ]
            refine takeH 18 18 55 (.bool false) rfl rfl (by kernel_rfl) (by kernel_rfl) (by kernel_rfl) (fun _ _ _ h => h) (Or.inl ⟨by rfl, fun w _ => by go_simp⟩) hH ?_
            simp only [List.set_cons_zero, List.set_cons_succ]
            refine takeH 17 19 56 (.int .i64 0) rfl rfl (by kernel_rfl) (by kernel_rfl) (by kernel_rfl) (fun _ _ _ h => h) (Or.inl ⟨by rfl, fun w _ => by go_simp⟩) hH ?_
            simp only [List.set_cons_zero, List.set_cons_succ]
            refine takeH 16 20 57 (.bool false) rfl rfl (by kernel_rfl) (by kernel_rfl) (by kernel_rfl) (fun _ _ _ h => h) (Or.inl ⟨by rfl, fun w _ => by go_simp⟩) hH ?_
            simp only [List.set_cons_zero, List.set_cons_succ]
            refine takeH 15 21 58 (.bool false) rfl rfl (by kernel_rfl) (by kernel_rfl) (by kernel_rfl) (fun _ _ _ h => h) (Or.inl ⟨by rfl, fun w _ => by go_simp⟩) hH ?_
            simp only [List.set_cons_zero, List.set_cons_succ]
            refine takeH 14 22 59 (.bool false) rfl rfl (by kernel_rfl) (by kernel_rfl) (by kernel_rfl) (fun _ _ _ h => h) (Or.inl ⟨by rfl, fun w _ => by go_simp⟩) hH ?_
            simp only [List.set_cons_zero, List.set_cons_succ]
            refine takeH 13 23 60 (.agg (noV s1 c1)) rfl rfl (by kernel_rfl) (by kernel_rfl) (by kernel_rfl) (fun _ _ _ h => h) (yieldsIf_load_blk (by rfl) 35 (.tmp 3) rfl w.heap.size rfl 35 (noV s1 c1) _ (fun _ h => h.y.a) Try.underlying35 rfl (noV_info _ _)) hH ?_
            simp only [List.set_cons_zero, List.set_cons_succ]
            refine takeH 12 24 61 (.agg (noV s2 c2)) rfl rfl (by kernel_rfl) (by kernel_rfl) (by kernel_rfl) (fun _ _ _ h => h) (yieldsIf_load_blk (by rfl) 35 (.tmp 4) rfl (w.heap.size + 1) rfl 35 (noV s2 c2) _ (fun _ h => h.y.b) Try.underlying35 rfl (noV_info _ _)) hH ?_
            simp only [List.set_cons_zero, List.set_cons_succ]
            refine takeH 11 26 63 (.int .i64 d) rfl rfl (by kernel_rfl) (by kernel_rfl) (by kernel_rfl) (fun _ _ _ h => h) (Or.inl ⟨by rfl, fun w _ => by go_simp⟩) hH ?_
            simp only [List.set_cons_zero, List.set_cons_succ]
            refine callH 10 25 62 rfl rfl (by rfl) (by kernel_rfl) (fun K hK => ?_)
            go_simp
            refine (ncompare_to s1 c1 s2 c2 d hd1h.out _).mono ?_
            rintro e w' ⟨rfl, bK⟩
            dsimp only
            refine hK.out _ _ (hH.below bK) (fun hH => ?_)
            clear hK K
            clear bK
            simp only [List.set_cons_zero, List.set_cons_succ]
            refine takeH 9 27 64 (.bool false) rfl rfl (by kernel_rfl) (by kernel_rfl) (by kernel_rfl) (fun _ _ _ h => h) (Or.inl ⟨by rfl, fun w _ => by go_simp⟩) hH ?_
            simp only [List.set_cons_zero, List.set_cons_succ]
            refine takeH 8 28 65 (.bool false) rfl rfl (by kernel_rfl) (by kernel_rfl) (by kernel_rfl) (fun _ _ _ h => h) (Or.inl ⟨by rfl, fun w _ => by go_simp⟩) hH ?_
            simp only [List.set_cons_zero, List.set_cons_succ]
            refine takeH 7 29 66 (.bool false) rfl rfl (by kernel_rfl) (by kernel_rfl) (by kernel_rfl) (fun _ _ _ h => h) (Or.inl ⟨by rfl, fun w _ => by go_simp⟩) hH ?_
            simp only [List.set_cons_zero, List.set_cons_succ]
            refine takeH 6 30 67 (.agg (noV s2 c2)) rfl rfl (by kernel_rfl) (by kernel_rfl) (by kernel_rfl) (fun _ _ _ h => h) (yieldsIf_load_blk (by rfl) 35 (.tmp 4) rfl (w.heap.size + 1) rfl 35 (noV s2 c2) _ (fun _ h => h.y.b) Try.underlying35 rfl (noV_info _ _)) hH ?_
            simp only [List.set_cons_zero, List.set_cons_succ]
            refine takeH 5 31 68 (.agg (noV s1 c1)) rfl rfl (by kernel_rfl) (by kernel_rfl) (by kernel_rfl) (fun _ _ _ h => h) (yieldsIf_load_blk (by rfl) 35 (.tmp 3) rfl w.heap.size rfl 35 (noV s1 c1) _ (fun _ h => h.y.a) Try.underlying35 rfl (noV_info _ _)) hH ?_
            simp only [List.set_cons_zero, List.set_cons_succ]
            refine takeH 4 33 70 (.int .i64 d) rfl rfl (by kernel_rfl) (by kernel_rfl) (by kernel_rfl) (fun _ _ _ h => h) (Or.inl ⟨by rfl, fun w _ => by go_simp⟩) hH ?_
            simp only [List.set_cons_zero, List.set_cons_succ]
            refine takeH 3 34 71 (.int .i64 (-d)) rfl rfl (by kernel_rfl) (by kernel_rfl) (by kernel_rfl) (fun _ _ _ h => h) (Or.inl ⟨by rfl, fun w _ => by go_simp⟩) hH ?_
            simp only [List.set_cons_zero, List.set_cons_succ]
            refine callH 2 32 69 rfl rfl (by rfl) (by kernel_rfl) (fun K hK => ?_)
            go_simp
            refine (ncompare_to s2 c2 s1 c1 (-d) hd2h.out _).mono ?_
            rintro e w' ⟨rfl, bK⟩
            dsimp only
            refine hK.out _ _ (hH.below bK) (fun hH => ?_)
            clear hK K
            clear bK
            simp only [List.set_cons_zero, List.set_cons_succ]
            refine takeH 1 35 72 (.bool false) rfl rfl (by kernel_rfl) (by kernel_rfl) (by kernel_rfl) (fun _ _ _ h => h) (Or.inl ⟨by rfl, fun w _ => by go_simp⟩) hH ?_
            simp only [List.set_cons_zero, List.set_cons_succ]
            refine takeH 0 36 73 (.bool false) rfl rfl (by kernel_rfl) (by kernel_rfl) (by kernel_rfl) (fun _ _ _ h => h) (Or.inl ⟨by rfl, fun w _ => by go_simp⟩) hH ?_
            simp only [List.set_cons_zero, List.set_cons_succ]
            refine wpAnyH_done (by kernel_rfl) ?_ _
            have hny := Lib.hid hH.y
            clear hH heq hmz hneg
            rcases Nat.lt_trichotomy n 12 with h12 | h12 | h12
            · have hI : (n : Int) < 12 := by omega
              go_wp2_with fail
              refine (nget_bad A n cp 6 (Or.inl ⟨h12, rfl⟩) _).mono ?_
              rintro e w7 ⟨rfl, b7⟩
              have hw7 := Lib.hid (hny.out.below b7).bel
              clear b7
              simp only [noV]
              go_wp2_with fail
              refine (lives08 _).mono ?_
              rintro e w8 ⟨rfl, b8⟩
              have hw8 := Lib.hid ((hw7.out.alloc hw7.out.size _).trans (b8.mono (hw7.out.alloc hw7.out.size _).size))
              clear b8
              go_wp2_with fail
              go_ret
              exact ⟨rfl, hw8.out⟩
            · subst h12
              obtain ⟨ad, hA, _, _⟩ := hrq.out.2 (by omega)
              subst hA
              have hl12 := hrq.out.len
              obtain ⟨zs, hzs0⟩ : ∃ v, beV (l.take 4) = v := ⟨_, rfl⟩
              obtain ⟨zc, hzc0⟩ : ∃ v, beV (l.drop 4) = v := ⟨_, rfl⟩
              have hzs : zs < 4294967296 := by
                rw [← hzs0]
                have := beV_lt256 (l.take 4) (fun a ha => hlbq.out a (List.mem_of_mem_take ha))
                rw [List.length_take, hl12] at this
                exact this
              have hzl : noB zs zc = l := by
                unfold noB
                rw [← hzs0, ← hzc0, beB_beV4 _ (by rw [List.length_take, hl12]; rfl) (fun a ha => hlbq.out a (List.mem_of_mem_take ha)), beB_beV8 _ (by rw [List.length_drop, hl12]) (fun a ha => hlbq.out a (List.mem_of_mem_drop ha)), List.take_append_drop]
              have hzlq := Lib.hid hzl
              have hzs0q := Lib.hid hzs0
              have hzc0q := Lib.hid hzc0
              clear hzl hzs0 hzc0
              go_wp2_with fail
              refine (nget_ok (some ad) cp B zs zc hcp l hlbq.out hzs0q.out hzc0q.out _ hny.out.r (by have := hny.out.a.lt; have := hny.out.hB; omega)).mono ?_
              rintro e w7 ⟨rfl, b7⟩
              have hw7 := hny.out.below b7
              have hwm : NwMem w.heap.size B 12 w7.heap.size zs zc (some ad) l w (w7.alloc (.cells #[.int .u32 (zs : Int), .int .u64 (zc : Int)] 35)) :=
                ⟨hw7.alloc_.r, hw7.hB, Blk.newAt rfl, hw7.bel.size, hw7.alloc_.bel⟩
              have hmw := Lib.hid hwm
              clear b7 hw7 hwm hny
              simp only [noV]
              go_upto_region 17 with fail
              generalize w7.alloc (.cells #[.int .u32 (zs : Int), .int .u64 (zc : Int)] 35) = w8 at *
              generalize w7.heap.size = J at *
              refine wp_region_held_drew (S := NwMem w.heap.size B 12 J zs zc (some ad) l w) (by kernel_rfl) hmw.out.drew_ (fun hH => ?_)
              refine takeH 13 0 107 (.int .i64 0) rfl rfl (by kernel_rfl) (by kernel_rfl) (by kernel_rfl) (fun _ _ _ h => h) (Or.inl ⟨by rfl, fun w _ => by go_simp⟩) hH ?_
              simp only [List.set_cons_zero, List.set_cons_succ]
              refine takeH 12 1 108 (.bool true) rfl rfl (by kernel_rfl) (by kernel_rfl) (by kernel_rfl) (fun _ _ _ h => h) (Or.inl ⟨by rfl, fun w _ => by go_simp⟩) hH ?_
              simp only [List.set_cons_zero, List.set_cons_succ]
              refine takeH 11 2 109 (.bool true) rfl rfl (by kernel_rfl) (by kernel_rfl) (by kernel_rfl) (fun _ _ _ h => h) (Or.inl ⟨by rfl, fun w _ => by go_simp⟩) hH ?_
              simp only [List.set_cons_zero, List.set_cons_succ]
              refine takeH 10 3 110 (.agg (noV zs zc)) rfl rfl (by kernel_rfl) (by kernel_rfl) (by kernel_rfl) (fun _ _ _ h => h) (yieldsIf_load_blk (by rfl) 35 (.tmp 12) rfl J rfl 35 (noV zs zc) _ (fun _ h => h.j) Try.underlying35 rfl (noV_info _ _)) hH ?_
              simp only [List.set_cons_zero, List.set_cons_succ]
              refine takeH 9 6 113 (.slice (some ad) 12 cp) rfl rfl (by kernel_rfl) (by kernel_rfl) (by kernel_rfl) (fun _ _ _ h => h) (Or.inl ⟨by rfl, fun w _ => by go_simp⟩) hH ?_
              simp only [List.set_cons_zero, List.set_cons_succ]
              refine takeH 8 7 114 (.string (bst l)) rfl rfl (by kernel_rfl) (by kernel_rfl) (by kernel_rfl) (fun _ _ _ h => h) (yieldsIf_conv (by rfl) 47 9 _ rfl (.slice (some ad) 12 cp) (.string (bst l)) rfl (fun _ h => h.str hl12)) hH ?_
              simp only [List.set_cons_zero, List.set_cons_succ]
              refine callH 7 4 111 rfl rfl (by rfl) (by kernel_rfl) (fun K hK => ?_)
              go_simp
              refine (nput_to zs zc l hzlq.out hzs _).mono ?_
              rintro e w' ⟨g4, rfl, hg4, hle4, bK⟩
              dsimp only
              refine hK.out _ _ (hH.below bK) (fun hH => ?_)
              clear hK K
              clear bK
              simp only [List.set_cons_zero, List.set_cons_succ]
              refine stepH 6 5 112 (.string (bst l)) rfl rfl (by rfl) (by kernel_rfl) (exec_conv 47 9 _ rfl (.slice (some ⟨g4, 0, none⟩) 12 12) (.string (bst l)) rfl (run_string_ad 47 9 Try.underlying47 Try.underlying9 ⟨g4, 0, none⟩ 12 12 l hl12 (fun j v hv => by have := hg4.part 0 12 j v (by rw [List.drop_zero, List.take_of_length_le (by omega)]; exact hv); rw [add_none]; exact this))) hH ?_
              simp only [List.set_cons_zero, List.set_cons_succ]
              refine takeH 5 8 115 (.bool true) rfl rfl (by kernel_rfl) (by kernel_rfl) (by kernel_rfl) (fun _ _ _ h => h) (Or.inl ⟨by rfl, fun w _ => by go_simp⟩) hH ?_
              simp only [List.set_cons_zero, List.set_cons_succ]
              refine takeH 4 9 116 (.bool true) rfl rfl (by kernel_rfl) (by kernel_rfl) (by kernel_rfl) (fun _ _ _ h => h) (Or.inl ⟨by rfl, fun w _ => by go_simp⟩) hH ?_
              simp only [List.set_cons_zero, List.set_cons_succ]
              refine takeH 3 10 117 (.bool true) rfl rfl (by kernel_rfl) (by kernel_rfl) (by kernel_rfl) (fun _ _ _ h => h) (Or.inl ⟨by rfl, fun w _ => by go_simp⟩) hH ?_
              simp only [List.set_cons_zero, List.set_cons_succ]
              refine callH 2 11 118 rfl rfl (by rfl) (by kernel_rfl) (fun K hK => ?_)
              go_simp
              refine (lives08 _).mono ?_
              rintro e w' ⟨rfl, bK⟩
              dsimp only
              refine hK.out _ _ (hH.below bK) (fun hH => ?_)
              clear hK K
              clear bK
              simp only [List.set_cons_zero, List.set_cons_succ]
              refine takeH 1 12 119 (.bool true) rfl rfl (by kernel_rfl) (by kernel_rfl) (by kernel_rfl) (fun _ _ _ h => h) (Or.inl ⟨by rfl, fun w _ => by go_simp⟩) hH ?_
              simp only [List.set_cons_zero, List.set_cons_succ]
              refine takeH 0 13 6 (.bool true) rfl rfl (by kernel_rfl) (by kernel_rfl) (by kernel_rfl) (fun _ _ _ h => h) (Or.inl ⟨by rfl, fun w _ => by go_simp⟩) hH ?_
              simp only [List.set_cons_zero, List.set_cons_succ]
              refine wpAnyH_done (by kernel_rfl) ?_ _
              go_wp2_with fail
              go_ret
              exact ⟨rfl, hH.bel⟩
            · have hI : (12 : Int) < (n : Int) := by omega
              go_wp2_with fail
              refine (nget_bad A n cp 5 (Or.inr ⟨h12, rfl⟩) _).mono ?_
              rintro e w7 ⟨rfl, b7⟩
              have hw7 := Lib.hid (hny.out.below b7).bel
              clear b7
              simp only [noV]
              go_wp2_with fail
              refine (lives08 _).mono ?_
              rintro e w8 ⟨rfl, b8⟩
              have hw8 := Lib.hid ((hw7.out.alloc hw7.out.size _).trans (b8.mono (hw7.out.alloc hw7.out.size _).size))
              clear b8
              go_wp2_with fail
              go_ret
              exact ⟨rfl, hw8.out⟩
end Go.Proofs.Ytaaldjmopifcjaa
