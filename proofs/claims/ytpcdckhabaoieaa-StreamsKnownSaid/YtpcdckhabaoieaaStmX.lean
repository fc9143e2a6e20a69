/-
  The walks of caissonlaw07.StreamsXor, StreamsParts. (Printed by mkxor07e.py.)
-/
import Derived.Test.YtpcdckhabaoieaaXorW
import Derived.Test.YtpcdckhabaoieaaXorR
import Derived.Test.YtpcdckhabaoieaaStmC
import Derived.Test.YtpcdckhabaoieaaStm6
namespace Go.Proofs.Ytpcdckhabaoieaa
open Go.RowKit Sh
theorem kxor_app {key : List Nat} {s c f : Nat} {a b : List Nat} : kxor key s c f (a ++ b) = kxor key s c f a ++ kxor key s c (f + a.length) b := by
  apply List.ext_getElem (by simp [kxor])
  intro i h1 h2
  simp only [kxor, List.length_map, List.length_range, List.length_append] at h1
  by_cases hi : i < a.length
  · rw [List.getElem_append_left (by simpa [kxor] using hi)]
    simp [kxor, xb, List.getD_eq_getElem?_getD, List.getElem?_append_left hi]
  · rw [List.getElem_append_right (by simpa [kxor] using hi)]
    have e : f + a.length + (i - a.length) = f + i := by omega
    simp [kxor, xb, List.getD_eq_getElem?_getD, List.getElem?_append_right (Nat.le_of_not_lt hi), e]
theorem kxor_nil {key : List Nat} {s c f : Nat} : kxor key s c f [] = [] := rfl
theorem bst_push (l : List Nat) (x : Nat) : bst (l ++ [x]) = (bst l).push (UInt8.ofNat x) := by
  simp [bst, List.foldl_append]
theorem bst_app (l m : List Nat) : bst (l ++ m) = bst l ++ bst m := by
  have key : ∀ m : List Nat, ∀ l : List Nat, bst (l ++ m.reverse) = bst l ++ bst m.reverse := by
    intro m
    induction m with
    | nil => intro l; simp [bst]
    | cons x m ih =>
      intro l
      rw [List.reverse_cons, ← List.append_assoc, bst_push, ih, bst_push]
      apply ByteArray.ext
      simp
  have := key m.reverse l
  simpa using this
theorem bst_size (l : List Nat) : (bst l).size = l.length := by
  have key : ∀ m : List Nat, (bst m.reverse).size = m.length := by
    intro m
    induction m with
    | nil => rfl
    | cons x m ih => rw [List.reverse_cons, bst_push, ByteArray.size_push, ih]; rfl
  have := key l.reverse
  simpa using this
/-- streams.Xor where it is allowed, of no bytes too -/
theorem xor_any7 (key : List Nat) (s c f n : Nat) (d r : List Nat) (hrr : kxor key s c f d = r) (hkl : key.length = 16) (hkb : Byt key) (hs : s < 4294967296) (hdl : d.length = n) (hdb : Byt d) (hlim : f + n ≤ 1048576) (A : Option Addr) (cc B : Nat) (w : World) (hr : Reads w B 1 A n (nv .u8 d)) (hBw : B ≤ w.heap.size) :
    Calls Try.prog 15 #[.agg (va .u8 key), .agg (noV s c), .int .i64 (f : Int), .slice A n cc] w fun e' w' => ∃ A2, e' = .returned (.tuple #[.slice A2 n n, .int .i64 0]) ∧ Own w' w.heap.size A2 n n r ∧ Below w.heap.size w w' := by
  subst hrr
  by_cases hn : 0 < n
  · refine (xor_ok key s c f n d hkl hkb hs hdl hdb hn hlim A cc B w hr hBw).mono ?_
    rintro e w' ⟨g, rfl, hg, hgg, bx⟩
    exact ⟨_, rfl, hg.owned (kxor_len.trans hdl) hgg (by unfold maxLen; omega), bx⟩
  · obtain rfl : n = 0 := by omega
    obtain rfl : d = [] := List.eq_nil_of_length_eq_zero hdl
    refine (xor_none key s c (f : Int) 0 0 cc hkl (by unfold chk; rw [if_neg (by omega), if_neg (by omega)]) (.inr rfl) (by omega) (by omega) A w).mono ?_
    rintro e w' ⟨rfl, bx⟩
    exact ⟨_, rfl, Own.nil _ _, bx⟩

set_option maxRecDepth 8000 in
set_option maxHeartbeats 4000000 in
theorem lawSXor_any (key : List Nat) (s c : Nat) (f : Int) (n cc : Nat) (d : List Nat) (hkl : key.length = 16) (hkb : Byt key) (hs : s < 4294967296) (hc : c < 18446744073709551616) (hf : -9223372036854775808 ≤ f ∧ f ≤ 9223372036854775807) (hdb : Byt d) (A : Option Addr) (B : Nat) (w : World) (hr : Reads w B 1 A n (nv .u8 d)) (hB : B ≤ w.heap.size) :
    Calls Try.prog 6 #[.agg (kV key s c), .int .i64 f, .slice A n cc] w fun e w' => e = .returned (.bool true) ∧ Below w.heap.size w w' := by
  obtain ⟨B0, hB0e⟩ : ∃ b, w.heap.size = b := ⟨_, rfl⟩
  rw [hB0e]
  have hW : Below B0 w w := by rw [← hB0e]; exact Below.refl _ _
  have hB0 : B0 ≤ w.heap.size := by omega
  have hdl := hr.len
  have hBB : B ≤ B0 := by omega
  have rd := reads_of hr hBB
  clear hr hB
  have hB0q := Lib.hid hB0e
  clear hB0e
  by_cases h60 : 60 < n
  ·
    have hI : (60 : Int) < (n : Int) := by omega
    go_enter Try.func6, Try.ntmps6
    go_upto_region 0 with fail
    refine wl_lit ?_
    refine runWL 3 (.pointer (some ⟨w.heap.size, 0, none⟩)) (w.alloc (.cells (kV key s c) 28)) rfl (by rfl) (exec_box 28 (.tmp 0) rfl (.agg (kV key s c)) rfl) ?_
    simp only [List.set_cons_zero, List.set_cons_succ]
    have lw_p3 := Nat.le_trans hB0 hW.size
    have hp3 : Blk (w.alloc (.cells (kV key s c) 28)) w.heap.size 28 (kV key s c) := Blk.new _ _ _
    replace hW := hW.alloc (Nat.le_trans hB0 hW.size) (.cells (kV key s c) 28)
    generalize w.alloc (.cells (kV key s c) 28) = w1 at *
    generalize w.heap.size = p3 at hp3 lw_p3  ⊢
    refine runL 6 (.bool false) rfl (by rfl) (by go_simp) ?_
    simp only [List.set_cons_zero, List.set_cons_succ]
    refine nilL ?_
    go_upto_region 1 with fail
    refine wl_lit ?_
    refine runL 12 (.slice (A) n cc) rfl (by rfl) (by go_simp) ?_
    simp only [List.set_cons_zero, List.set_cons_succ]
    refine runL 13 (.int .i64 (n)) rfl (by rfl) (by go_simp) ?_
    simp only [List.set_cons_zero, List.set_cons_succ]
    refine runL 14 (.bool true) rfl (by rfl) (by go_simp) ?_
    simp only [List.set_cons_zero, List.set_cons_succ]
    refine nilL ?_
    go_upto_region 2 with fail
    refine wl_lit ?_
    refine callL 15 rfl (by rfl) (fun K hK => wp_callF 11 #[] (by go_simp) (lives_any7 _) ?_)
    rintro e w2 ⟨rfl, bx⟩
    replace hp3 := hp3.below bx hp3.lt
    replace hW := hW.trans (bx.mono (Nat.le_trans hB0 hW.size))
    clear bx
    refine ⟨_, rfl, hK.out _ _ ?_⟩
    clear hK K
    simp only [List.set_cons_zero, List.set_cons_succ]
    refine runL 6 (.bool true) rfl (by rfl) (by go_simp) ?_
    simp only [List.set_cons_zero, List.set_cons_succ]
    refine nilL ?_
    go_wp2_with fail
    go_ret
    exact ⟨rfl, hW⟩
  have hI : ¬ (60 : Int) < (n : Int) := by omega
  by_cases h1 : f < 0
  ·
    go_enter Try.func6, Try.ntmps6
    go_upto_region 0 with fail
    refine wl_lit ?_
    refine runWL 3 (.pointer (some ⟨w.heap.size, 0, none⟩)) (w.alloc (.cells (kV key s c) 28)) rfl (by rfl) (exec_box 28 (.tmp 0) rfl (.agg (kV key s c)) rfl) ?_
    simp only [List.set_cons_zero, List.set_cons_succ]
    have lw_p3 := Nat.le_trans hB0 hW.size
    have hp3 : Blk (w.alloc (.cells (kV key s c) 28)) w.heap.size 28 (kV key s c) := Blk.new _ _ _
    replace hW := hW.alloc (Nat.le_trans hB0 hW.size) (.cells (kV key s c) 28)
    generalize w.alloc (.cells (kV key s c) 28) = w3 at *
    generalize w.heap.size = p3 at hp3 lw_p3  ⊢
    refine runL 6 (.bool false) rfl (by rfl) (by go_simp) ?_
    simp only [List.set_cons_zero, List.set_cons_succ]
    refine nilL ?_
    go_upto_region 1 with fail
    refine wl_lit ?_
    refine runL 12 (.slice (A) n cc) rfl (by rfl) (by go_simp) ?_
    simp only [List.set_cons_zero, List.set_cons_succ]
    refine runL 13 (.int .i64 (n)) rfl (by rfl) (by go_simp) ?_
    simp only [List.set_cons_zero, List.set_cons_succ]
    refine runL 14 (.bool false) rfl (by rfl) (by go_simp) ?_
    simp only [List.set_cons_zero, List.set_cons_succ]
    refine nilL ?_
    go_upto_region 3 with fail
    refine wl_lit ?_
    refine runL 16 (.slice (A) n cc) rfl (by rfl) (by go_simp) ?_
    simp only [List.set_cons_zero, List.set_cons_succ]
    refine runL 17 (.string (bst (d))) rfl (by rfl) (exec_conv 39 9 (.tmp 16) rfl (.slice (A) n cc) (.string (bst (d))) rfl (Reads.string (rd.out _ hW) _ _ Try.underlying39 Try.underlying9)) ?_
    simp only [List.set_cons_zero, List.set_cons_succ]
    refine runL 7 (.string (bst (d))) rfl (by rfl) (by go_simp) ?_
    simp only [List.set_cons_zero, List.set_cons_succ]
    refine nilL ?_
    go_upto_region 4 with fail
    refine wl_lit ?_
    refine runL 19 (.pointer (some ⟨p3, 0, none⟩)) rfl (by rfl) (by go_simp) ?_
    simp only [List.set_cons_zero, List.set_cons_succ]
    refine runL 20 (.agg (va .u8 (key))) rfl (by rfl) (exec_mid 22 (.tmp 19) rfl p3 0 rfl (nv .u8 key) _ (kV_key hp3 hkl) Try.underlying22 rfl (sz16L _ hkl)) ?_
    simp only [List.set_cons_zero, List.set_cons_succ]
    refine runL 21 (.pointer (some ⟨p3, 16, none⟩)) rfl (by rfl) (by go_simp) ?_
    simp only [List.set_cons_zero, List.set_cons_succ]
    refine runL 22 (.agg (noV s c)) rfl (by rfl) (exec_mid 26 (.tmp 21) rfl p3 16 rfl (noV s c).toList _ (kV_no hp3 hkl) (by exact Try.underlying26) rfl (by kernel_rfl)) ?_
    simp only [List.set_cons_zero, List.set_cons_succ]
    refine runL 23 (.int .i64 (f)) rfl (by rfl) (by go_simp) ?_
    simp only [List.set_cons_zero, List.set_cons_succ]
    refine runL 24 (.slice (A) n cc) rfl (by rfl) (by go_simp) ?_
    simp only [List.set_cons_zero, List.set_cons_succ]
    refine callL 25 rfl (by rfl) (fun K hK => wp_callF 15 #[.agg (va .u8 (key)), .agg (noV s c), .int .i64 (f), .slice (A) n cc] (by go_simp) (xor_none key s c f 1 n cc hkl (by unfold chk; rw [if_pos (by omega)]) (.inl (by decide)) hf (by omega) A _) ?_)
    rintro e w4 ⟨rfl, bx⟩
    replace hp3 := hp3.below bx hp3.lt
    replace hW := hW.trans (bx.mono (Nat.le_trans hB0 hW.size))
    clear bx
    refine ⟨_, rfl, hK.out _ _ ?_⟩
    clear hK K
    simp only [List.set_cons_zero, List.set_cons_succ]
    refine runL 18 (.tuple #[.slice none 0 0, .int .i64 1]) rfl (by rfl) (by go_simp) ?_
    simp only [List.set_cons_zero, List.set_cons_succ]
    refine runL 26 (.slice none 0 0) rfl (by rfl) (by go_simp) ?_
    simp only [List.set_cons_zero, List.set_cons_succ]
    refine runL 27 (.int .i64 1) rfl (by rfl) (by go_simp) ?_
    simp only [List.set_cons_zero, List.set_cons_succ]
    refine runL 8 (.slice none 0 0) rfl (by rfl) (by go_simp) ?_
    simp only [List.set_cons_zero, List.set_cons_succ]
    refine runL 9 (.int .i64 1) rfl (by rfl) (by go_simp) ?_
    simp only [List.set_cons_zero, List.set_cons_succ]
    refine nilL ?_
    go_upto_region 5 with fail
    refine wl_lit ?_
    refine runL 29 (.int .i64 (f)) rfl (by rfl) (by go_simp) ?_
    simp only [List.set_cons_zero, List.set_cons_succ]
    refine runL 30 (.bool true) rfl (by rfl) (by go_simp) ?_
    simp only [List.set_cons_zero, List.set_cons_succ]
    refine runL 28 (.bool true) rfl (by rfl) (by go_simp) ?_
    simp only [List.set_cons_zero, List.set_cons_succ]
    refine nilL ?_
    go_upto_region 6 with fail
    refine wl_lit ?_
    refine runL 31 (.slice none 0 0) rfl (by rfl) (by go_simp) ?_
    simp only [List.set_cons_zero, List.set_cons_succ]
    refine runL 32 (.int .i64 1) rfl (by rfl) (by go_simp) ?_
    simp only [List.set_cons_zero, List.set_cons_succ]
    refine callL 33 rfl (by rfl) (fun K hK => wp_callF 16 #[.slice none 0 0, .int .i64 1, .slice none 0 0, .int .i64 1] (by go_simp) (same07_any [] none 0 0 none 0 0 1 _ Reads.none_ (Nat.zero_le _) Reads.none_ (Nat.zero_le _)) ?_)
    rintro e w5 ⟨rfl, bx⟩
    replace hp3 := hp3.below bx hp3.lt
    replace hW := hW.trans (bx.mono (Nat.le_trans hB0 hW.size))
    clear bx
    refine ⟨_, rfl, hK.out _ _ ?_⟩
    clear hK K
    simp only [List.set_cons_zero, List.set_cons_succ]
    refine runL 34 (.bool true) rfl (by rfl) (by go_simp) ?_
    simp only [List.set_cons_zero, List.set_cons_succ]
    refine callL 35 rfl (by rfl) (fun K hK => wp_callF 11 #[] (by go_simp) (lives_any7 _) ?_)
    rintro e w6 ⟨rfl, bx⟩
    replace hp3 := hp3.below bx hp3.lt
    replace hW := hW.trans (bx.mono (Nat.le_trans hB0 hW.size))
    clear bx
    refine ⟨_, rfl, hK.out _ _ ?_⟩
    clear hK K
    simp only [List.set_cons_zero, List.set_cons_succ]
    refine runL 36 (.bool true) rfl (by rfl) (by go_simp) ?_
    simp only [List.set_cons_zero, List.set_cons_succ]
    refine runL 6 (.bool true) rfl (by rfl) (by go_simp) ?_
    simp only [List.set_cons_zero, List.set_cons_succ]
    refine nilL ?_
    go_wp2_with fail
    go_ret
    exact ⟨rfl, hW⟩
  have hw : IntKind.i64.wrap (1048576 - (n : Int)) = 1048576 - (n : Int) := IntWalk.i64_in _ (by omega)
  by_cases h3 : 1048576 - (n : Int) < f
  ·
    go_enter Try.func6, Try.ntmps6
    go_upto_region 0 with fail
    refine wl_lit ?_
    refine runWL 3 (.pointer (some ⟨w.heap.size, 0, none⟩)) (w.alloc (.cells (kV key s c) 28)) rfl (by rfl) (exec_box 28 (.tmp 0) rfl (.agg (kV key s c)) rfl) ?_
    simp only [List.set_cons_zero, List.set_cons_succ]
    have lw_p3 := Nat.le_trans hB0 hW.size
    have hp3 : Blk (w.alloc (.cells (kV key s c) 28)) w.heap.size 28 (kV key s c) := Blk.new _ _ _
    replace hW := hW.alloc (Nat.le_trans hB0 hW.size) (.cells (kV key s c) 28)
    generalize w.alloc (.cells (kV key s c) 28) = w7 at *
    generalize w.heap.size = p3 at hp3 lw_p3  ⊢
    refine runL 6 (.bool false) rfl (by rfl) (by go_simp) ?_
    simp only [List.set_cons_zero, List.set_cons_succ]
    refine nilL ?_
    go_upto_region 1 with fail
    refine wl_lit ?_
    refine runL 12 (.slice (A) n cc) rfl (by rfl) (by go_simp) ?_
    simp only [List.set_cons_zero, List.set_cons_succ]
    refine runL 13 (.int .i64 (n)) rfl (by rfl) (by go_simp) ?_
    simp only [List.set_cons_zero, List.set_cons_succ]
    refine runL 14 (.bool false) rfl (by rfl) (by go_simp) ?_
    simp only [List.set_cons_zero, List.set_cons_succ]
    refine nilL ?_
    go_upto_region 3 with fail
    refine wl_lit ?_
    refine runL 16 (.slice (A) n cc) rfl (by rfl) (by go_simp) ?_
    simp only [List.set_cons_zero, List.set_cons_succ]
    refine runL 17 (.string (bst (d))) rfl (by rfl) (exec_conv 39 9 (.tmp 16) rfl (.slice (A) n cc) (.string (bst (d))) rfl (Reads.string (rd.out _ hW) _ _ Try.underlying39 Try.underlying9)) ?_
    simp only [List.set_cons_zero, List.set_cons_succ]
    refine runL 7 (.string (bst (d))) rfl (by rfl) (by go_simp) ?_
    simp only [List.set_cons_zero, List.set_cons_succ]
    refine nilL ?_
    go_upto_region 4 with fail
    refine wl_lit ?_
    refine runL 19 (.pointer (some ⟨p3, 0, none⟩)) rfl (by rfl) (by go_simp) ?_
    simp only [List.set_cons_zero, List.set_cons_succ]
    refine runL 20 (.agg (va .u8 (key))) rfl (by rfl) (exec_mid 22 (.tmp 19) rfl p3 0 rfl (nv .u8 key) _ (kV_key hp3 hkl) Try.underlying22 rfl (sz16L _ hkl)) ?_
    simp only [List.set_cons_zero, List.set_cons_succ]
    refine runL 21 (.pointer (some ⟨p3, 16, none⟩)) rfl (by rfl) (by go_simp) ?_
    simp only [List.set_cons_zero, List.set_cons_succ]
    refine runL 22 (.agg (noV s c)) rfl (by rfl) (exec_mid 26 (.tmp 21) rfl p3 16 rfl (noV s c).toList _ (kV_no hp3 hkl) (by exact Try.underlying26) rfl (by kernel_rfl)) ?_
    simp only [List.set_cons_zero, List.set_cons_succ]
    refine runL 23 (.int .i64 (f)) rfl (by rfl) (by go_simp) ?_
    simp only [List.set_cons_zero, List.set_cons_succ]
    refine runL 24 (.slice (A) n cc) rfl (by rfl) (by go_simp) ?_
    simp only [List.set_cons_zero, List.set_cons_succ]
    refine callL 25 rfl (by rfl) (fun K hK => wp_callF 15 #[.agg (va .u8 (key)), .agg (noV s c), .int .i64 (f), .slice (A) n cc] (by go_simp) (xor_none key s c f 3 n cc hkl (by unfold chk; rw [if_neg (by omega), if_pos (by omega)]) (.inl (by decide)) hf (by omega) A _) ?_)
    rintro e w8 ⟨rfl, bx⟩
    replace hp3 := hp3.below bx hp3.lt
    replace hW := hW.trans (bx.mono (Nat.le_trans hB0 hW.size))
    clear bx
    refine ⟨_, rfl, hK.out _ _ ?_⟩
    clear hK K
    simp only [List.set_cons_zero, List.set_cons_succ]
    refine runL 18 (.tuple #[.slice none 0 0, .int .i64 3]) rfl (by rfl) (by go_simp) ?_
    simp only [List.set_cons_zero, List.set_cons_succ]
    refine runL 26 (.slice none 0 0) rfl (by rfl) (by go_simp) ?_
    simp only [List.set_cons_zero, List.set_cons_succ]
    refine runL 27 (.int .i64 3) rfl (by rfl) (by go_simp) ?_
    simp only [List.set_cons_zero, List.set_cons_succ]
    refine runL 8 (.slice none 0 0) rfl (by rfl) (by go_simp) ?_
    simp only [List.set_cons_zero, List.set_cons_succ]
    refine runL 9 (.int .i64 3) rfl (by rfl) (by go_simp) ?_
    simp only [List.set_cons_zero, List.set_cons_succ]
    refine nilL ?_
    go_upto_region 5 with fail
    refine wl_lit ?_
    refine runL 29 (.int .i64 (f)) rfl (by rfl) (by go_simp) ?_
    simp only [List.set_cons_zero, List.set_cons_succ]
    refine runL 30 (.bool false) rfl (by rfl) (by go_simp) ?_
    simp only [List.set_cons_zero, List.set_cons_succ]
    refine runL 28 (.bool false) rfl (by rfl) (by go_simp) ?_
    simp only [List.set_cons_zero, List.set_cons_succ]
    refine nilL ?_
    go_upto_region 7 with fail
    refine wl_lit ?_
    refine runL 38 (.int .i64 (f)) rfl (by rfl) (by go_simp) ?_
    simp only [List.set_cons_zero, List.set_cons_succ]
    refine runL 39 (.slice (A) n cc) rfl (by rfl) (by go_simp) ?_
    simp only [List.set_cons_zero, List.set_cons_succ]
    refine runL 40 (.int .i64 (n)) rfl (by rfl) (by go_simp) ?_
    simp only [List.set_cons_zero, List.set_cons_succ]
    refine runL 41 (.int .i64 (1048576 - (n : Int))) rfl (by rfl) (by go_simp) ?_
    simp only [List.set_cons_zero, List.set_cons_succ]
    refine runL 42 (.bool true) rfl (by rfl) (by go_simp) ?_
    simp only [List.set_cons_zero, List.set_cons_succ]
    refine runL 37 (.bool true) rfl (by rfl) (by go_simp) ?_
    simp only [List.set_cons_zero, List.set_cons_succ]
    refine nilL ?_
    go_upto_region 8 with fail
    refine wl_lit ?_
    refine runL 43 (.slice none 0 0) rfl (by rfl) (by go_simp) ?_
    simp only [List.set_cons_zero, List.set_cons_succ]
    refine runL 44 (.int .i64 3) rfl (by rfl) (by go_simp) ?_
    simp only [List.set_cons_zero, List.set_cons_succ]
    refine callL 45 rfl (by rfl) (fun K hK => wp_callF 16 #[.slice none 0 0, .int .i64 3, .slice none 0 0, .int .i64 3] (by go_simp) (same07_any [] none 0 0 none 0 0 3 _ Reads.none_ (Nat.zero_le _) Reads.none_ (Nat.zero_le _)) ?_)
    rintro e w9 ⟨rfl, bx⟩
    replace hp3 := hp3.below bx hp3.lt
    replace hW := hW.trans (bx.mono (Nat.le_trans hB0 hW.size))
    clear bx
    refine ⟨_, rfl, hK.out _ _ ?_⟩
    clear hK K
    simp only [List.set_cons_zero, List.set_cons_succ]
    refine runL 46 (.bool true) rfl (by rfl) (by go_simp) ?_
    simp only [List.set_cons_zero, List.set_cons_succ]
    refine callL 47 rfl (by rfl) (fun K hK => wp_callF 11 #[] (by go_simp) (lives_any7 _) ?_)
    rintro e w10 ⟨rfl, bx⟩
    replace hp3 := hp3.below bx hp3.lt
    replace hW := hW.trans (bx.mono (Nat.le_trans hB0 hW.size))
    clear bx
    refine ⟨_, rfl, hK.out _ _ ?_⟩
    clear hK K
    simp only [List.set_cons_zero, List.set_cons_succ]
    refine runL 48 (.bool true) rfl (by rfl) (by go_simp) ?_
    simp only [List.set_cons_zero, List.set_cons_succ]
    refine runL 6 (.bool true) rfl (by rfl) (by go_simp) ?_
    simp only [List.set_cons_zero, List.set_cons_succ]
    refine nilL ?_
    go_wp2_with fail
    go_ret
    exact ⟨rfl, hW⟩
  obtain ⟨F, rfl⟩ : ∃ F : Nat, f = (F : Int) := ⟨f.toNat, by omega⟩
  obtain ⟨r, hrr⟩ : ∃ r, kxor key s c F d = r := ⟨_, rfl⟩
  have hrl : r.length = n := by rw [← hrr, kxor_len]; exact hdl
  have hrb : Byt r := by rw [← hrr]; exact kxor_byt hkb hdb
  have hrr2 : kxor key s c F r = d := by rw [← hrr]; exact kxor_twice
  have hq1 := Lib.hid hrr
  have hq2 := Lib.hid hrr2
  clear hrr hrr2
  have hlim : F + n ≤ 1048576 := by omega
  go_enter Try.func6, Try.ntmps6
  go_upto_region 0 with fail
  refine wl_lit ?_
  refine runWL 3 (.pointer (some ⟨w.heap.size, 0, none⟩)) (w.alloc (.cells (kV key s c) 28)) rfl (by rfl) (exec_box 28 (.tmp 0) rfl (.agg (kV key s c)) rfl) ?_
  simp only [List.set_cons_zero, List.set_cons_succ]
  have lw_p3 := Nat.le_trans hB0 hW.size
  have hp3 : Blk (w.alloc (.cells (kV key s c) 28)) w.heap.size 28 (kV key s c) := Blk.new _ _ _
  replace hW := hW.alloc (Nat.le_trans hB0 hW.size) (.cells (kV key s c) 28)
  generalize w.alloc (.cells (kV key s c) 28) = w11 at *
  generalize w.heap.size = p3 at hp3 lw_p3  ⊢
  refine runL 6 (.bool false) rfl (by rfl) (by go_simp) ?_
  simp only [List.set_cons_zero, List.set_cons_succ]
  refine nilL ?_
  go_upto_region 1 with fail
  refine wl_lit ?_
  refine runL 12 (.slice (A) n cc) rfl (by rfl) (by go_simp) ?_
  simp only [List.set_cons_zero, List.set_cons_succ]
  refine runL 13 (.int .i64 (n)) rfl (by rfl) (by go_simp) ?_
  simp only [List.set_cons_zero, List.set_cons_succ]
  refine runL 14 (.bool false) rfl (by rfl) (by go_simp) ?_
  simp only [List.set_cons_zero, List.set_cons_succ]
  refine nilL ?_
  go_upto_region 3 with fail
  refine wl_lit ?_
  refine runL 16 (.slice (A) n cc) rfl (by rfl) (by go_simp) ?_
  simp only [List.set_cons_zero, List.set_cons_succ]
  refine runL 17 (.string (bst (d))) rfl (by rfl) (exec_conv 39 9 (.tmp 16) rfl (.slice (A) n cc) (.string (bst (d))) rfl (Reads.string (rd.out _ hW) _ _ Try.underlying39 Try.underlying9)) ?_
  simp only [List.set_cons_zero, List.set_cons_succ]
  refine runL 7 (.string (bst (d))) rfl (by rfl) (by go_simp) ?_
  simp only [List.set_cons_zero, List.set_cons_succ]
  refine nilL ?_
  go_upto_region 4 with fail
  refine wl_lit ?_
  refine runL 19 (.pointer (some ⟨p3, 0, none⟩)) rfl (by rfl) (by go_simp) ?_
  simp only [List.set_cons_zero, List.set_cons_succ]
  refine runL 20 (.agg (va .u8 (key))) rfl (by rfl) (exec_mid 22 (.tmp 19) rfl p3 0 rfl (nv .u8 key) _ (kV_key hp3 hkl) Try.underlying22 rfl (sz16L _ hkl)) ?_
  simp only [List.set_cons_zero, List.set_cons_succ]
  refine runL 21 (.pointer (some ⟨p3, 16, none⟩)) rfl (by rfl) (by go_simp) ?_
  simp only [List.set_cons_zero, List.set_cons_succ]
  refine runL 22 (.agg (noV s c)) rfl (by rfl) (exec_mid 26 (.tmp 21) rfl p3 16 rfl (noV s c).toList _ (kV_no hp3 hkl) (by exact Try.underlying26) rfl (by kernel_rfl)) ?_
  simp only [List.set_cons_zero, List.set_cons_succ]
  refine runL 23 (.int .i64 (F : Int)) rfl (by rfl) (by go_simp) ?_
  simp only [List.set_cons_zero, List.set_cons_succ]
  refine runL 24 (.slice (A) n cc) rfl (by rfl) (by go_simp) ?_
  simp only [List.set_cons_zero, List.set_cons_succ]
  refine callL 25 rfl (by rfl) (fun K hK => wp_callF 15 #[.agg (va .u8 (key)), .agg (noV s c), .int .i64 (F : Int), .slice (A) n cc] (by go_simp) (xor_any7 key s c F n d r hq1.out hkl hkb hs hdl hdb hlim A cc _ _ (rd.out _ hW) (Nat.le_trans hBB (Nat.le_trans hB0 hW.size))) ?_)
  rintro e w12 ⟨AX, rfl, hAX, bx⟩
  replace hAX := hAX.mono (Nat.le_trans hB0 hW.size)
  replace hp3 := hp3.below bx hp3.lt
  replace hW := hW.trans (bx.mono (Nat.le_trans hB0 hW.size))
  clear bx
  refine ⟨_, rfl, hK.out _ _ ?_⟩
  clear hK K
  simp only [List.set_cons_zero, List.set_cons_succ]
  refine runL 18 (.tuple #[.slice (AX) n n, .int .i64 0]) rfl (by rfl) (by go_simp) ?_
  simp only [List.set_cons_zero, List.set_cons_succ]
  refine runL 26 (.slice (AX) n n) rfl (by rfl) (by go_simp) ?_
  simp only [List.set_cons_zero, List.set_cons_succ]
  refine runL 27 (.int .i64 0) rfl (by rfl) (by go_simp) ?_
  simp only [List.set_cons_zero, List.set_cons_succ]
  refine runL 8 (.slice (AX) n n) rfl (by rfl) (by go_simp) ?_
  simp only [List.set_cons_zero, List.set_cons_succ]
  refine runL 9 (.int .i64 0) rfl (by rfl) (by go_simp) ?_
  simp only [List.set_cons_zero, List.set_cons_succ]
  refine nilL ?_
  go_upto_region 5 with fail
  refine wl_lit ?_
  refine runL 29 (.int .i64 (F : Int)) rfl (by rfl) (by go_simp) ?_
  simp only [List.set_cons_zero, List.set_cons_succ]
  refine runL 30 (.bool false) rfl (by rfl) (by go_simp) ?_
  simp only [List.set_cons_zero, List.set_cons_succ]
  refine runL 28 (.bool false) rfl (by rfl) (by go_simp) ?_
  simp only [List.set_cons_zero, List.set_cons_succ]
  refine nilL ?_
  go_upto_region 7 with fail
  refine wl_lit ?_
  refine runL 38 (.int .i64 (F : Int)) rfl (by rfl) (by go_simp) ?_
  simp only [List.set_cons_zero, List.set_cons_succ]
  refine runL 39 (.slice (A) n cc) rfl (by rfl) (by go_simp) ?_
  simp only [List.set_cons_zero, List.set_cons_succ]
  refine runL 40 (.int .i64 (n)) rfl (by rfl) (by go_simp) ?_
  simp only [List.set_cons_zero, List.set_cons_succ]
  refine runL 41 (.int .i64 (1048576 - (n : Int))) rfl (by rfl) (by go_simp) ?_
  simp only [List.set_cons_zero, List.set_cons_succ]
  refine runL 42 (.bool false) rfl (by rfl) (by go_simp) ?_
  simp only [List.set_cons_zero, List.set_cons_succ]
  refine runL 37 (.bool false) rfl (by rfl) (by go_simp) ?_
  simp only [List.set_cons_zero, List.set_cons_succ]
  refine nilL ?_
  go_upto_region 9 with fail
  refine wl_lit ?_
  refine runL 49 (.slice (AX) n n) rfl (by rfl) (by go_simp) ?_
  simp only [List.set_cons_zero, List.set_cons_succ]
  refine runL 50 (.int .i64 0) rfl (by rfl) (by go_simp) ?_
  simp only [List.set_cons_zero, List.set_cons_succ]
  refine runL 51 (.pointer (some ⟨p3, 0, none⟩)) rfl (by rfl) (by go_simp) ?_
  simp only [List.set_cons_zero, List.set_cons_succ]
  refine runL 52 (.agg (va .u8 (key))) rfl (by rfl) (exec_mid 22 (.tmp 51) rfl p3 0 rfl (nv .u8 key) _ (kV_key hp3 hkl) Try.underlying22 rfl (sz16L _ hkl)) ?_
  simp only [List.set_cons_zero, List.set_cons_succ]
  refine runL 53 (.pointer (some ⟨p3, 16, none⟩)) rfl (by rfl) (by go_simp) ?_
  simp only [List.set_cons_zero, List.set_cons_succ]
  refine runL 54 (.agg (noV s c)) rfl (by rfl) (exec_mid 26 (.tmp 53) rfl p3 16 rfl (noV s c).toList _ (kV_no hp3 hkl) (by exact Try.underlying26) rfl (by kernel_rfl)) ?_
  simp only [List.set_cons_zero, List.set_cons_succ]
  refine runL 55 (.int .i64 (F : Int)) rfl (by rfl) (by go_simp) ?_
  simp only [List.set_cons_zero, List.set_cons_succ]
  refine runL 56 (.slice (A) n cc) rfl (by rfl) (by go_simp) ?_
  simp only [List.set_cons_zero, List.set_cons_succ]
  refine callL 57 rfl (by rfl) (fun K hK => wp_callF 17 #[.agg (va .u8 (key)), .agg (noV s c), .int .i64 (F : Int), .slice (A) n cc] (by go_simp) (rxor_any key s c F n d hkl hkb hs hc hdl hdb (by omega) A cc _ _ (rd.out _ hW) (Nat.le_trans hBB (Nat.le_trans hB0 hW.size))) ?_)
  rintro e w13 ⟨AR, cR, rfl, hAR, bx⟩
  replace hAR := hAR.mono (Nat.le_trans hB0 hW.size)
  replace hp3 := hp3.below bx hp3.lt
  replace hAX := hAX.below bx
  replace hW := hW.trans (bx.mono (Nat.le_trans hB0 hW.size))
  clear bx
  rw [hq1.out] at hAR
  refine ⟨_, rfl, hK.out _ _ ?_⟩
  clear hK K
  simp only [List.set_cons_zero, List.set_cons_succ]
  refine callL 58 rfl (by rfl) (fun K hK => wp_callF 16 #[.slice (AX) n n, .int .i64 0, .slice (AR) n cR, .int .i64 0] (by go_simp) (same07_any r AX n _ AR cR _ 0 _ hAX.reads (Nat.le_refl _) hAR.reads (Nat.le_refl _)) ?_)
  rintro e w14 ⟨rfl, bx⟩
  replace hp3 := hp3.below bx hp3.lt
  replace hAX := hAX.below bx
  replace hAR := hAR.below bx
  replace hW := hW.trans (bx.mono (Nat.le_trans hB0 hW.size))
  clear bx
  refine ⟨_, rfl, hK.out _ _ ?_⟩
  clear hK K
  simp only [List.set_cons_zero, List.set_cons_succ]
  refine runL 59 (.bool false) rfl (by rfl) (by go_simp) ?_
  simp only [List.set_cons_zero, List.set_cons_succ]
  refine runL 60 (.bool false) rfl (by rfl) (by go_simp) ?_
  simp only [List.set_cons_zero, List.set_cons_succ]
  refine runL 61 (.slice (A) n cc) rfl (by rfl) (by go_simp) ?_
  simp only [List.set_cons_zero, List.set_cons_succ]
  refine runL 62 (.string (bst (d))) rfl (by rfl) (exec_conv 39 9 (.tmp 61) rfl (.slice (A) n cc) (.string (bst (d))) rfl (Reads.string (rd.out _ hW) _ _ Try.underlying39 Try.underlying9)) ?_
  simp only [List.set_cons_zero, List.set_cons_succ]
  refine runL 63 (.string (bst (d))) rfl (by rfl) (by go_simp) ?_
  simp only [List.set_cons_zero, List.set_cons_succ]
  refine runL 64 (.bool false) rfl (by rfl) (by go_simp) ?_
  simp only [List.set_cons_zero, List.set_cons_succ]
  refine runL 65 (.bool false) rfl (by rfl) (by go_simp) ?_
  simp only [List.set_cons_zero, List.set_cons_succ]
  refine nilL ?_
  go_upto_region 11 with fail
  refine wl_lit ?_
  refine runL 67 (.pointer (some ⟨p3, 0, none⟩)) rfl (by rfl) (by go_simp) ?_
  simp only [List.set_cons_zero, List.set_cons_succ]
  refine runL 68 (.agg (va .u8 (key))) rfl (by rfl) (exec_mid 22 (.tmp 67) rfl p3 0 rfl (nv .u8 key) _ (kV_key hp3 hkl) Try.underlying22 rfl (sz16L _ hkl)) ?_
  simp only [List.set_cons_zero, List.set_cons_succ]
  refine runL 69 (.pointer (some ⟨p3, 16, none⟩)) rfl (by rfl) (by go_simp) ?_
  simp only [List.set_cons_zero, List.set_cons_succ]
  refine runL 70 (.agg (noV s c)) rfl (by rfl) (exec_mid 26 (.tmp 69) rfl p3 16 rfl (noV s c).toList _ (kV_no hp3 hkl) (by exact Try.underlying26) rfl (by kernel_rfl)) ?_
  simp only [List.set_cons_zero, List.set_cons_succ]
  refine runL 71 (.int .i64 (F : Int)) rfl (by rfl) (by go_simp) ?_
  simp only [List.set_cons_zero, List.set_cons_succ]
  refine runL 72 (.slice (AX) n n) rfl (by rfl) (by go_simp) ?_
  simp only [List.set_cons_zero, List.set_cons_succ]
  refine callL 73 rfl (by rfl) (fun K hK => wp_callF 15 #[.agg (va .u8 (key)), .agg (noV s c), .int .i64 (F : Int), .slice (AX) n n] (by go_simp) (xor_any7 key s c F n r d hq2.out hkl hkb hs hrl hrb hlim AX n _ _ hAX.reads (Nat.le_refl _)) ?_)
  rintro e w15 ⟨AY, rfl, hAY, bx⟩
  replace hAY := hAY.mono (Nat.le_trans hB0 hW.size)
  replace hp3 := hp3.below bx hp3.lt
  replace hAX := hAX.below bx
  replace hAR := hAR.below bx
  replace hW := hW.trans (bx.mono (Nat.le_trans hB0 hW.size))
  clear bx
  refine ⟨_, rfl, hK.out _ _ ?_⟩
  clear hK K
  simp only [List.set_cons_zero, List.set_cons_succ]
  refine runL 66 (.tuple #[.slice (AY) n n, .int .i64 0]) rfl (by rfl) (by go_simp) ?_
  simp only [List.set_cons_zero, List.set_cons_succ]
  refine runL 74 (.slice (AY) n n) rfl (by rfl) (by go_simp) ?_
  simp only [List.set_cons_zero, List.set_cons_succ]
  refine runL 75 (.int .i64 0) rfl (by rfl) (by go_simp) ?_
  simp only [List.set_cons_zero, List.set_cons_succ]
  refine runL 10 (.slice (AY) n n) rfl (by rfl) (by go_simp) ?_
  simp only [List.set_cons_zero, List.set_cons_succ]
  refine runL 11 (.int .i64 0) rfl (by rfl) (by go_simp) ?_
  simp only [List.set_cons_zero, List.set_cons_succ]
  refine nilL ?_
  go_upto_region 12 with fail
  refine wl_lit ?_
  refine runL 76 (.slice (AY) n n) rfl (by rfl) (by go_simp) ?_
  simp only [List.set_cons_zero, List.set_cons_succ]
  refine runL 77 (.int .i64 0) rfl (by rfl) (by go_simp) ?_
  simp only [List.set_cons_zero, List.set_cons_succ]
  refine runL 78 (.slice (A) n cc) rfl (by rfl) (by go_simp) ?_
  simp only [List.set_cons_zero, List.set_cons_succ]
  refine callL 79 rfl (by rfl) (fun K hK => wp_callF 16 #[.slice (AY) n n, .int .i64 0, .slice (A) n cc, .int .i64 0] (by go_simp) (same07_any d AY n _ A cc B 0 _ hAY.reads (Nat.le_refl _) (rd.out _ hW) (Nat.le_trans hBB (Nat.le_trans hB0 hW.size))) ?_)
  rintro e w16 ⟨rfl, bx⟩
  replace hp3 := hp3.below bx hp3.lt
  replace hAX := hAX.below bx
  replace hAR := hAR.below bx
  replace hAY := hAY.below bx
  replace hW := hW.trans (bx.mono (Nat.le_trans hB0 hW.size))
  clear bx
  refine ⟨_, rfl, hK.out _ _ ?_⟩
  clear hK K
  simp only [List.set_cons_zero, List.set_cons_succ]
  refine runL 80 (.bool true) rfl (by rfl) (by go_simp) ?_
  simp only [List.set_cons_zero, List.set_cons_succ]
  refine callL 81 rfl (by rfl) (fun K hK => wp_callF 11 #[] (by go_simp) (lives_any7 _) ?_)
  rintro e w17 ⟨rfl, bx⟩
  replace hp3 := hp3.below bx hp3.lt
  replace hAX := hAX.below bx
  replace hAR := hAR.below bx
  replace hAY := hAY.below bx
  replace hW := hW.trans (bx.mono (Nat.le_trans hB0 hW.size))
  clear bx
  refine ⟨_, rfl, hK.out _ _ ?_⟩
  clear hK K
  simp only [List.set_cons_zero, List.set_cons_succ]
  refine runL 82 (.bool true) rfl (by rfl) (by go_simp) ?_
  simp only [List.set_cons_zero, List.set_cons_succ]
  refine runL 6 (.bool true) rfl (by rfl) (by go_simp) ?_
  simp only [List.set_cons_zero, List.set_cons_succ]
  refine nilL ?_
  go_wp2_with fail
  go_ret
  exact ⟨rfl, hW⟩

theorem Str_add (l m r : List Nat) (h : l ++ m = r) : bst l ++ bst m = bst r := by rw [← h, bst_app]
set_option maxRecDepth 8000 in
set_option maxHeartbeats 4000000 in
theorem lawSParts_any (key : List Nat) (s c f : Nat) (hkl : key.length = 16) (hkb : Byt key) (hs : s < 4294967296) (hf : f < 65536) (A : Option Addr) (n cc B : Nat) (d : List Nat) (hdb : Byt d) (A2 : Option Addr) (n2 cc2 B2 : Nat) (d2 : List Nat) (hdb2 : Byt d2) (w : World)
    (hr : Reads w B 1 A n (nv .u8 d)) (hB : B ≤ w.heap.size) (hr2 : Reads w B2 1 A2 n2 (nv .u8 d2)) (hB2 : B2 ≤ w.heap.size) :
    Calls Try.prog 7 #[.agg (kV key s c), .int .u16 (f : Int), .agg #[.slice A n cc, .slice A2 n2 cc2]] w fun e w' => e = .returned (.bool true) ∧ Below w.heap.size w w' := by
  obtain ⟨B0, hB0e⟩ : ∃ b, w.heap.size = b := ⟨_, rfl⟩
  rw [hB0e]
  have hW : Below B0 w w := by rw [← hB0e]; exact Below.refl _ _
  have hB0 : B0 ≤ w.heap.size := by omega
  have hdl := hr.len
  have hdl2 := hr2.len
  have hBB : B ≤ B0 := by omega
  have hBB2 : B2 ≤ B0 := by omega
  have rd := reads_of hr hBB
  have rd2 := reads_of hr2 hBB2
  clear hr hB hr2 hB2
  have hB0q := Lib.hid hB0e
  clear hB0e
  by_cases h60 : 60 < n
  ·
    have hI : (60 : Int) < (n : Int) := by omega
    go_enter Try.func7, Try.ntmps7
    go_upto_region 0 with fail
    refine wl_lit ?_
    refine runWL 3 (.pointer (some ⟨w.heap.size, 0, none⟩)) (w.alloc (.cells (kV key s c) 28)) rfl (by rfl) (exec_box 28 (.tmp 0) rfl (.agg (kV key s c)) rfl) ?_
    simp only [List.set_cons_zero, List.set_cons_succ]
    have lw_p3 := Nat.le_trans hB0 hW.size
    have hp3 : Blk (w.alloc (.cells (kV key s c) 28)) w.heap.size 28 (kV key s c) := Blk.new _ _ _
    replace hW := hW.alloc (Nat.le_trans hB0 hW.size) (.cells (kV key s c) 28)
    generalize w.alloc (.cells (kV key s c) 28) = w1 at *
    generalize w.heap.size = p3 at hp3 lw_p3  ⊢
    refine runWL 5 (.pointer (some ⟨w1.heap.size, 0, none⟩)) (w1.alloc (.cells (#[.slice A n cc, .slice A2 n2 cc2]) 47)) rfl (by rfl) (exec_box 47 (.tmp 2) rfl (.agg (#[.slice A n cc, .slice A2 n2 cc2])) rfl) ?_
    simp only [List.set_cons_zero, List.set_cons_succ]
    have lp3_p5 := hp3.lt
    have lw_p5 := Nat.le_trans hB0 hW.size
    have hp5 : Blk (w1.alloc (.cells (#[.slice A n cc, .slice A2 n2 cc2]) 47)) w1.heap.size 47 (#[.slice A n cc, .slice A2 n2 cc2]) := Blk.new _ _ _
    replace hp3 := hp3.alloc (.cells (#[.slice A n cc, .slice A2 n2 cc2]) 47)
    replace hW := hW.alloc (Nat.le_trans hB0 hW.size) (.cells (#[.slice A n cc, .slice A2 n2 cc2]) 47)
    generalize w1.alloc (.cells (#[.slice A n cc, .slice A2 n2 cc2]) 47) = w2 at *
    generalize w1.heap.size = p5 at hp5 lw_p5 lp3_p5 ⊢
    refine runL 6 (.bool false) rfl (by rfl) (by go_simp) ?_
    simp only [List.set_cons_zero, List.set_cons_succ]
    refine nilL ?_
    go_upto_region 1 with fail
    refine wp_region_held_drew (S := fun wr => Blk wr p3 28 (kV key s c) ∧ Blk wr p5 47 (#[.slice A n cc, .slice A2 n2 cc2]) ∧ Below B0 w wr) (by kernel_rfl) ⟨hp3.drew, hp5.drew, below_drewN hW 1⟩ (fun hH => ?_)
    clear hp3 hp5 hW
    obtain ⟨hp3, hp5, hW⟩ := hH
    generalize w2.drew = w3 at *
    refine takeH 5 0 15 (.pointer (some ⟨p5, 0, none⟩)) rfl rfl (by kernel_rfl) (by kernel_rfl) (by kernel_rfl) (fun _ _ _ h => h) (Or.inl ⟨by rfl, fun w _ => by go_simp⟩) ⟨hp3, hp5, hW⟩ ?_
    simp only [List.set_cons_zero, List.set_cons_succ]
    refine takeH 4 1 16 (.slice (A) n cc) rfl rfl (by kernel_rfl) (by kernel_rfl) (by kernel_rfl) (fun _ _ _ h => h) (Or.inl ⟨by rfl, fun _ h => exec_cell 39 (.tmp 15) rfl p5 0 rfl (.slice (A) n cc) _ Try.underlying39 rfl (h.2.1.cellIs 0 rfl)⟩) ⟨hp3, hp5, hW⟩ ?_
    simp only [List.set_cons_zero, List.set_cons_succ]
    refine takeH 3 2 17 (.pointer (some ⟨p5, 1, none⟩)) rfl rfl (by kernel_rfl) (by kernel_rfl) (by kernel_rfl) (fun _ _ _ h => h) (Or.inl ⟨by rfl, fun w _ => by go_simp⟩) ⟨hp3, hp5, hW⟩ ?_
    simp only [List.set_cons_zero, List.set_cons_succ]
    refine takeH 2 3 18 (.slice (A2) n2 cc2) rfl rfl (by kernel_rfl) (by kernel_rfl) (by kernel_rfl) (fun _ _ _ h => h) (Or.inl ⟨by rfl, fun _ h => exec_cell 39 (.tmp 17) rfl p5 1 rfl (.slice (A2) n2 cc2) _ Try.underlying39 rfl (h.2.1.cellIs 1 rfl)⟩) ⟨hp3, hp5, hW⟩ ?_
    simp only [List.set_cons_zero, List.set_cons_succ]
    refine takeH 1 4 7 (.slice (A) n cc) rfl rfl (by kernel_rfl) (by kernel_rfl) (by kernel_rfl) (fun _ _ _ h => h) (Or.inl ⟨by rfl, fun w _ => by go_simp⟩) ⟨hp3, hp5, hW⟩ ?_
    simp only [List.set_cons_zero, List.set_cons_succ]
    refine takeH 0 5 8 (.slice (A2) n2 cc2) rfl rfl (by kernel_rfl) (by kernel_rfl) (by kernel_rfl) (fun _ _ _ h => h) (Or.inl ⟨by rfl, fun w _ => by go_simp⟩) ⟨hp3, hp5, hW⟩ ?_
    simp only [List.set_cons_zero, List.set_cons_succ]
    refine wpAnyH_done (by kernel_rfl) ?_ _
    go_upto_region 2 with fail
    refine wl_lit ?_
    refine runL 19 (.slice (A) n cc) rfl (by rfl) (by go_simp) ?_
    simp only [List.set_cons_zero, List.set_cons_succ]
    refine runL 20 (.int .i64 (n)) rfl (by rfl) (by go_simp) ?_
    simp only [List.set_cons_zero, List.set_cons_succ]
    refine runL 21 (.bool true) rfl (by rfl) (by go_simp) ?_
    simp only [List.set_cons_zero, List.set_cons_succ]
    refine runL 22 (.bool true) rfl (by rfl) (by go_simp) ?_
    simp only [List.set_cons_zero, List.set_cons_succ]
    refine skipL 23 rfl (by kernel_rfl) ?_
    simp only [List.set_cons_zero, List.set_cons_succ]
    refine skipL 24 rfl (by kernel_rfl) ?_
    simp only [List.set_cons_zero, List.set_cons_succ]
    refine skipL 25 rfl (by kernel_rfl) ?_
    simp only [List.set_cons_zero, List.set_cons_succ]
    refine runL 26 (.bool true) rfl (by rfl) (by go_simp) ?_
    simp only [List.set_cons_zero, List.set_cons_succ]
    refine nilL ?_
    go_upto_region 3 with fail
    refine wl_lit ?_
    refine callL 27 rfl (by rfl) (fun K hK => wp_callF 11 #[] (by go_simp) (lives_any7 _) ?_)
    rintro e w4 ⟨rfl, bx⟩
    replace hp3 := hp3.below bx hp3.lt
    replace hp5 := hp5.below bx hp5.lt
    replace hW := hW.trans (bx.mono (Nat.le_trans hB0 hW.size))
    clear bx
    refine ⟨_, rfl, hK.out _ _ ?_⟩
    clear hK K
    simp only [List.set_cons_zero, List.set_cons_succ]
    refine runL 6 (.bool true) rfl (by rfl) (by go_simp) ?_
    simp only [List.set_cons_zero, List.set_cons_succ]
    refine nilL ?_
    go_wp2_with fail
    go_ret
    exact ⟨rfl, hW⟩
  have hI : ¬ (60 : Int) < (n : Int) := by omega
  by_cases h61 : 60 < n2
  ·
    have hI2 : (60 : Int) < (n2 : Int) := by omega
    go_enter Try.func7, Try.ntmps7
    go_upto_region 0 with fail
    refine wl_lit ?_
    refine runWL 3 (.pointer (some ⟨w.heap.size, 0, none⟩)) (w.alloc (.cells (kV key s c) 28)) rfl (by rfl) (exec_box 28 (.tmp 0) rfl (.agg (kV key s c)) rfl) ?_
    simp only [List.set_cons_zero, List.set_cons_succ]
    have lw_p3 := Nat.le_trans hB0 hW.size
    have hp3 : Blk (w.alloc (.cells (kV key s c) 28)) w.heap.size 28 (kV key s c) := Blk.new _ _ _
    replace hW := hW.alloc (Nat.le_trans hB0 hW.size) (.cells (kV key s c) 28)
    generalize w.alloc (.cells (kV key s c) 28) = w5 at *
    generalize w.heap.size = p3 at hp3 lw_p3  ⊢
    refine runWL 5 (.pointer (some ⟨w5.heap.size, 0, none⟩)) (w5.alloc (.cells (#[.slice A n cc, .slice A2 n2 cc2]) 47)) rfl (by rfl) (exec_box 47 (.tmp 2) rfl (.agg (#[.slice A n cc, .slice A2 n2 cc2])) rfl) ?_
    simp only [List.set_cons_zero, List.set_cons_succ]
    have lp3_p5 := hp3.lt
    have lw_p5 := Nat.le_trans hB0 hW.size
    have hp5 : Blk (w5.alloc (.cells (#[.slice A n cc, .slice A2 n2 cc2]) 47)) w5.heap.size 47 (#[.slice A n cc, .slice A2 n2 cc2]) := Blk.new _ _ _
    replace hp3 := hp3.alloc (.cells (#[.slice A n cc, .slice A2 n2 cc2]) 47)
    replace hW := hW.alloc (Nat.le_trans hB0 hW.size) (.cells (#[.slice A n cc, .slice A2 n2 cc2]) 47)
    generalize w5.alloc (.cells (#[.slice A n cc, .slice A2 n2 cc2]) 47) = w6 at *
    generalize w5.heap.size = p5 at hp5 lw_p5 lp3_p5 ⊢
    refine runL 6 (.bool false) rfl (by rfl) (by go_simp) ?_
    simp only [List.set_cons_zero, List.set_cons_succ]
    refine nilL ?_
    go_upto_region 1 with fail
    refine wp_region_held_drew (S := fun wr => Blk wr p3 28 (kV key s c) ∧ Blk wr p5 47 (#[.slice A n cc, .slice A2 n2 cc2]) ∧ Below B0 w wr) (by kernel_rfl) ⟨hp3.drew, hp5.drew, below_drewN hW 1⟩ (fun hH => ?_)
    clear hp3 hp5 hW
    obtain ⟨hp3, hp5, hW⟩ := hH
    generalize w6.drew = w7 at *
    refine takeH 5 0 15 (.pointer (some ⟨p5, 0, none⟩)) rfl rfl (by kernel_rfl) (by kernel_rfl) (by kernel_rfl) (fun _ _ _ h => h) (Or.inl ⟨by rfl, fun w _ => by go_simp⟩) ⟨hp3, hp5, hW⟩ ?_
    simp only [List.set_cons_zero, List.set_cons_succ]
    refine takeH 4 1 16 (.slice (A) n cc) rfl rfl (by kernel_rfl) (by kernel_rfl) (by kernel_rfl) (fun _ _ _ h => h) (Or.inl ⟨by rfl, fun _ h => exec_cell 39 (.tmp 15) rfl p5 0 rfl (.slice (A) n cc) _ Try.underlying39 rfl (h.2.1.cellIs 0 rfl)⟩) ⟨hp3, hp5, hW⟩ ?_
    simp only [List.set_cons_zero, List.set_cons_succ]
    refine takeH 3 2 17 (.pointer (some ⟨p5, 1, none⟩)) rfl rfl (by kernel_rfl) (by kernel_rfl) (by kernel_rfl) (fun _ _ _ h => h) (Or.inl ⟨by rfl, fun w _ => by go_simp⟩) ⟨hp3, hp5, hW⟩ ?_
    simp only [List.set_cons_zero, List.set_cons_succ]
    refine takeH 2 3 18 (.slice (A2) n2 cc2) rfl rfl (by kernel_rfl) (by kernel_rfl) (by kernel_rfl) (fun _ _ _ h => h) (Or.inl ⟨by rfl, fun _ h => exec_cell 39 (.tmp 17) rfl p5 1 rfl (.slice (A2) n2 cc2) _ Try.underlying39 rfl (h.2.1.cellIs 1 rfl)⟩) ⟨hp3, hp5, hW⟩ ?_
    simp only [List.set_cons_zero, List.set_cons_succ]
    refine takeH 1 4 7 (.slice (A) n cc) rfl rfl (by kernel_rfl) (by kernel_rfl) (by kernel_rfl) (fun _ _ _ h => h) (Or.inl ⟨by rfl, fun w _ => by go_simp⟩) ⟨hp3, hp5, hW⟩ ?_
    simp only [List.set_cons_zero, List.set_cons_succ]
    refine takeH 0 5 8 (.slice (A2) n2 cc2) rfl rfl (by kernel_rfl) (by kernel_rfl) (by kernel_rfl) (fun _ _ _ h => h) (Or.inl ⟨by rfl, fun w _ => by go_simp⟩) ⟨hp3, hp5, hW⟩ ?_
    simp only [List.set_cons_zero, List.set_cons_succ]
    refine wpAnyH_done (by kernel_rfl) ?_ _
    go_upto_region 2 with fail
    refine wl_lit ?_
    refine runL 19 (.slice (A) n cc) rfl (by rfl) (by go_simp) ?_
    simp only [List.set_cons_zero, List.set_cons_succ]
    refine runL 20 (.int .i64 (n)) rfl (by rfl) (by go_simp) ?_
    simp only [List.set_cons_zero, List.set_cons_succ]
    refine runL 21 (.bool false) rfl (by rfl) (by go_simp) ?_
    simp only [List.set_cons_zero, List.set_cons_succ]
    refine runL 22 (.bool false) rfl (by rfl) (by go_simp) ?_
    simp only [List.set_cons_zero, List.set_cons_succ]
    refine runL 23 (.slice (A2) n2 cc2) rfl (by rfl) (by go_simp) ?_
    simp only [List.set_cons_zero, List.set_cons_succ]
    refine runL 24 (.int .i64 (n2)) rfl (by rfl) (by go_simp) ?_
    simp only [List.set_cons_zero, List.set_cons_succ]
    refine runL 25 (.bool true) rfl (by rfl) (by go_simp) ?_
    simp only [List.set_cons_zero, List.set_cons_succ]
    refine runL 26 (.bool true) rfl (by rfl) (by go_simp) ?_
    simp only [List.set_cons_zero, List.set_cons_succ]
    refine nilL ?_
    go_upto_region 3 with fail
    refine wl_lit ?_
    refine callL 27 rfl (by rfl) (fun K hK => wp_callF 11 #[] (by go_simp) (lives_any7 _) ?_)
    rintro e w8 ⟨rfl, bx⟩
    replace hp3 := hp3.below bx hp3.lt
    replace hp5 := hp5.below bx hp5.lt
    replace hW := hW.trans (bx.mono (Nat.le_trans hB0 hW.size))
    clear bx
    refine ⟨_, rfl, hK.out _ _ ?_⟩
    clear hK K
    simp only [List.set_cons_zero, List.set_cons_succ]
    refine runL 6 (.bool true) rfl (by rfl) (by go_simp) ?_
    simp only [List.set_cons_zero, List.set_cons_succ]
    refine nilL ?_
    go_wp2_with fail
    go_ret
    exact ⟨rfl, hW⟩
  have hI2 : ¬ (60 : Int) < (n2 : Int) := by omega
  have hwf : IntKind.i64.wrap (f : Int) = (f : Int) := IntWalk.i64_in _ (by omega)
  have hwa : IntKind.i64.wrap ((f : Int) + (n : Int)) = ((f + n : Nat) : Int) := by rw [IntWalk.i64_in _ (by omega)]; omega
  obtain ⟨x, hx⟩ : ∃ x, kxor key s c f d = x := ⟨_, rfl⟩
  obtain ⟨y, hy⟩ : ∃ y, kxor key s c (f + n) d2 = y := ⟨_, rfl⟩
  have hz : kxor key s c f (d ++ d2) = x ++ y := by rw [kxor_app, hdl, hx, hy]
  have hst := Str_add x y (x ++ y) rfl
  have hszq : Hid (¬ 9223372036854775807 < (bst x).size + (bst y).size) := Lib.hid (by rw [bst_size, bst_size, ← hx, ← hy, kxor_len, kxor_len]; omega)
  have hxq := Lib.hid hx
  have hyq := Lib.hid hy
  have hzq := Lib.hid hz
  have hstq := Lib.hid hst
  clear hx hy hz hst
  go_enter Try.func7, Try.ntmps7
  go_upto_region 0 with fail
  refine wl_lit ?_
  refine runWL 3 (.pointer (some ⟨w.heap.size, 0, none⟩)) (w.alloc (.cells (kV key s c) 28)) rfl (by rfl) (exec_box 28 (.tmp 0) rfl (.agg (kV key s c)) rfl) ?_
  simp only [List.set_cons_zero, List.set_cons_succ]
  have lw_p3 := Nat.le_trans hB0 hW.size
  have hp3 : Blk (w.alloc (.cells (kV key s c) 28)) w.heap.size 28 (kV key s c) := Blk.new _ _ _
  replace hW := hW.alloc (Nat.le_trans hB0 hW.size) (.cells (kV key s c) 28)
  generalize w.alloc (.cells (kV key s c) 28) = w9 at *
  generalize w.heap.size = p3 at hp3 lw_p3  ⊢
  refine runWL 5 (.pointer (some ⟨w9.heap.size, 0, none⟩)) (w9.alloc (.cells (#[.slice A n cc, .slice A2 n2 cc2]) 47)) rfl (by rfl) (exec_box 47 (.tmp 2) rfl (.agg (#[.slice A n cc, .slice A2 n2 cc2])) rfl) ?_
  simp only [List.set_cons_zero, List.set_cons_succ]
  have lp3_p5 := hp3.lt
  have lw_p5 := Nat.le_trans hB0 hW.size
  have hp5 : Blk (w9.alloc (.cells (#[.slice A n cc, .slice A2 n2 cc2]) 47)) w9.heap.size 47 (#[.slice A n cc, .slice A2 n2 cc2]) := Blk.new _ _ _
  replace hp3 := hp3.alloc (.cells (#[.slice A n cc, .slice A2 n2 cc2]) 47)
  replace hW := hW.alloc (Nat.le_trans hB0 hW.size) (.cells (#[.slice A n cc, .slice A2 n2 cc2]) 47)
  generalize w9.alloc (.cells (#[.slice A n cc, .slice A2 n2 cc2]) 47) = w10 at *
  generalize w9.heap.size = p5 at hp5 lw_p5 lp3_p5 ⊢
  refine runL 6 (.bool false) rfl (by rfl) (by go_simp) ?_
  simp only [List.set_cons_zero, List.set_cons_succ]
  refine nilL ?_
  go_upto_region 1 with fail
  refine wp_region_held_drew (S := fun wr => Blk wr p3 28 (kV key s c) ∧ Blk wr p5 47 (#[.slice A n cc, .slice A2 n2 cc2]) ∧ Below B0 w wr) (by kernel_rfl) ⟨hp3.drew, hp5.drew, below_drewN hW 1⟩ (fun hH => ?_)
  clear hp3 hp5 hW
  obtain ⟨hp3, hp5, hW⟩ := hH
  generalize w10.drew = w11 at *
  refine takeH 5 0 15 (.pointer (some ⟨p5, 0, none⟩)) rfl rfl (by kernel_rfl) (by kernel_rfl) (by kernel_rfl) (fun _ _ _ h => h) (Or.inl ⟨by rfl, fun w _ => by go_simp⟩) ⟨hp3, hp5, hW⟩ ?_
  simp only [List.set_cons_zero, List.set_cons_succ]
  refine takeH 4 1 16 (.slice (A) n cc) rfl rfl (by kernel_rfl) (by kernel_rfl) (by kernel_rfl) (fun _ _ _ h => h) (Or.inl ⟨by rfl, fun _ h => exec_cell 39 (.tmp 15) rfl p5 0 rfl (.slice (A) n cc) _ Try.underlying39 rfl (h.2.1.cellIs 0 rfl)⟩) ⟨hp3, hp5, hW⟩ ?_
  simp only [List.set_cons_zero, List.set_cons_succ]
  refine takeH 3 2 17 (.pointer (some ⟨p5, 1, none⟩)) rfl rfl (by kernel_rfl) (by kernel_rfl) (by kernel_rfl) (fun _ _ _ h => h) (Or.inl ⟨by rfl, fun w _ => by go_simp⟩) ⟨hp3, hp5, hW⟩ ?_
  simp only [List.set_cons_zero, List.set_cons_succ]
  refine takeH 2 3 18 (.slice (A2) n2 cc2) rfl rfl (by kernel_rfl) (by kernel_rfl) (by kernel_rfl) (fun _ _ _ h => h) (Or.inl ⟨by rfl, fun _ h => exec_cell 39 (.tmp 17) rfl p5 1 rfl (.slice (A2) n2 cc2) _ Try.underlying39 rfl (h.2.1.cellIs 1 rfl)⟩) ⟨hp3, hp5, hW⟩ ?_
  simp only [List.set_cons_zero, List.set_cons_succ]
  refine takeH 1 4 7 (.slice (A) n cc) rfl rfl (by kernel_rfl) (by kernel_rfl) (by kernel_rfl) (fun _ _ _ h => h) (Or.inl ⟨by rfl, fun w _ => by go_simp⟩) ⟨hp3, hp5, hW⟩ ?_
  simp only [List.set_cons_zero, List.set_cons_succ]
  refine takeH 0 5 8 (.slice (A2) n2 cc2) rfl rfl (by kernel_rfl) (by kernel_rfl) (by kernel_rfl) (fun _ _ _ h => h) (Or.inl ⟨by rfl, fun w _ => by go_simp⟩) ⟨hp3, hp5, hW⟩ ?_
  simp only [List.set_cons_zero, List.set_cons_succ]
  refine wpAnyH_done (by kernel_rfl) ?_ _
  go_upto_region 2 with fail
  refine wl_lit ?_
  refine runL 19 (.slice (A) n cc) rfl (by rfl) (by go_simp) ?_
  simp only [List.set_cons_zero, List.set_cons_succ]
  refine runL 20 (.int .i64 (n)) rfl (by rfl) (by go_simp) ?_
  simp only [List.set_cons_zero, List.set_cons_succ]
  refine runL 21 (.bool false) rfl (by rfl) (by go_simp) ?_
  simp only [List.set_cons_zero, List.set_cons_succ]
  refine runL 22 (.bool false) rfl (by rfl) (by go_simp) ?_
  simp only [List.set_cons_zero, List.set_cons_succ]
  refine runL 23 (.slice (A2) n2 cc2) rfl (by rfl) (by go_simp) ?_
  simp only [List.set_cons_zero, List.set_cons_succ]
  refine runL 24 (.int .i64 (n2)) rfl (by rfl) (by go_simp) ?_
  simp only [List.set_cons_zero, List.set_cons_succ]
  refine runL 25 (.bool false) rfl (by rfl) (by go_simp) ?_
  simp only [List.set_cons_zero, List.set_cons_succ]
  refine runL 26 (.bool false) rfl (by rfl) (by go_simp) ?_
  simp only [List.set_cons_zero, List.set_cons_succ]
  refine nilL ?_
  go_upto_region 4 with fail
  refine wl_lit ?_
  refine runL 29 (.pointer (some ⟨p3, 0, none⟩)) rfl (by rfl) (by go_simp) ?_
  simp only [List.set_cons_zero, List.set_cons_succ]
  refine runL 30 (.agg (va .u8 (key))) rfl (by rfl) (exec_mid 22 (.tmp 29) rfl p3 0 rfl (nv .u8 key) _ (kV_key hp3 hkl) Try.underlying22 rfl (sz16L _ hkl)) ?_
  simp only [List.set_cons_zero, List.set_cons_succ]
  refine runL 31 (.pointer (some ⟨p3, 16, none⟩)) rfl (by rfl) (by go_simp) ?_
  simp only [List.set_cons_zero, List.set_cons_succ]
  refine runL 32 (.agg (noV s c)) rfl (by rfl) (exec_mid 26 (.tmp 31) rfl p3 16 rfl (noV s c).toList _ (kV_no hp3 hkl) (by exact Try.underlying26) rfl (by kernel_rfl)) ?_
  simp only [List.set_cons_zero, List.set_cons_succ]
  refine runL 33 (.int .u16 (f : Int)) rfl (by rfl) (by go_simp) ?_
  simp only [List.set_cons_zero, List.set_cons_succ]
  refine runL 34 (.int .i64 (f : Int)) rfl (by rfl) (by go_simp) ?_
  simp only [List.set_cons_zero, List.set_cons_succ]
  refine runL 35 (.slice (A) n cc) rfl (by rfl) (by go_simp) ?_
  simp only [List.set_cons_zero, List.set_cons_succ]
  refine callL 36 rfl (by rfl) (fun K hK => wp_callF 15 #[.agg (va .u8 (key)), .agg (noV s c), .int .i64 (f : Int), .slice (A) n cc] (by go_simp) (xor_any7 key s c f n d x hxq.out hkl hkb hs hdl hdb (by omega) A cc _ _ (rd.out _ hW) (Nat.le_trans hBB (Nat.le_trans hB0 hW.size))) ?_)
  rintro e w12 ⟨AX, rfl, hAX, bx⟩
  replace hAX := hAX.mono (Nat.le_trans hB0 hW.size)
  replace hp3 := hp3.below bx hp3.lt
  replace hp5 := hp5.below bx hp5.lt
  replace hW := hW.trans (bx.mono (Nat.le_trans hB0 hW.size))
  clear bx
  refine ⟨_, rfl, hK.out _ _ ?_⟩
  clear hK K
  simp only [List.set_cons_zero, List.set_cons_succ]
  refine runL 28 (.tuple #[.slice (AX) n n, .int .i64 0]) rfl (by rfl) (by go_simp) ?_
  simp only [List.set_cons_zero, List.set_cons_succ]
  refine runL 37 (.slice (AX) n n) rfl (by rfl) (by go_simp) ?_
  simp only [List.set_cons_zero, List.set_cons_succ]
  refine runL 38 (.int .i64 0) rfl (by rfl) (by go_simp) ?_
  simp only [List.set_cons_zero, List.set_cons_succ]
  refine runL 9 (.slice (AX) n n) rfl (by rfl) (by go_simp) ?_
  simp only [List.set_cons_zero, List.set_cons_succ]
  refine runL 10 (.int .i64 0) rfl (by rfl) (by go_simp) ?_
  simp only [List.set_cons_zero, List.set_cons_succ]
  refine nilL ?_
  go_upto_region 5 with fail
  refine wl_lit ?_
  refine runL 40 (.pointer (some ⟨p3, 0, none⟩)) rfl (by rfl) (by go_simp) ?_
  simp only [List.set_cons_zero, List.set_cons_succ]
  refine runL 41 (.agg (va .u8 (key))) rfl (by rfl) (exec_mid 22 (.tmp 40) rfl p3 0 rfl (nv .u8 key) _ (kV_key hp3 hkl) Try.underlying22 rfl (sz16L _ hkl)) ?_
  simp only [List.set_cons_zero, List.set_cons_succ]
  refine runL 42 (.pointer (some ⟨p3, 16, none⟩)) rfl (by rfl) (by go_simp) ?_
  simp only [List.set_cons_zero, List.set_cons_succ]
  refine runL 43 (.agg (noV s c)) rfl (by rfl) (exec_mid 26 (.tmp 42) rfl p3 16 rfl (noV s c).toList _ (kV_no hp3 hkl) (by exact Try.underlying26) rfl (by kernel_rfl)) ?_
  simp only [List.set_cons_zero, List.set_cons_succ]
  refine runL 44 (.int .u16 (f : Int)) rfl (by rfl) (by go_simp) ?_
  simp only [List.set_cons_zero, List.set_cons_succ]
  refine runL 45 (.int .i64 (f : Int)) rfl (by rfl) (by go_simp) ?_
  simp only [List.set_cons_zero, List.set_cons_succ]
  refine runL 46 (.slice (A) n cc) rfl (by rfl) (by go_simp) ?_
  simp only [List.set_cons_zero, List.set_cons_succ]
  refine runL 47 (.int .i64 (n)) rfl (by rfl) (by go_simp) ?_
  simp only [List.set_cons_zero, List.set_cons_succ]
  refine runL 48 (.int .i64 ((f + n : Nat) : Int)) rfl (by rfl) (by go_simp) ?_
  simp only [List.set_cons_zero, List.set_cons_succ]
  refine runL 49 (.slice (A2) n2 cc2) rfl (by rfl) (by go_simp) ?_
  simp only [List.set_cons_zero, List.set_cons_succ]
  refine callL 50 rfl (by rfl) (fun K hK => wp_callF 15 #[.agg (va .u8 (key)), .agg (noV s c), .int .i64 ((f + n : Nat) : Int), .slice (A2) n2 cc2] (by go_simp) (xor_any7 key s c (f + n) n2 d2 y hyq.out hkl hkb hs hdl2 hdb2 (by omega) A2 cc2 _ _ (rd2.out _ hW) (Nat.le_trans hBB2 (Nat.le_trans hB0 hW.size))) ?_)
  rintro e w13 ⟨AY, rfl, hAY, bx⟩
  replace hAY := hAY.mono (Nat.le_trans hB0 hW.size)
  replace hp3 := hp3.below bx hp3.lt
  replace hp5 := hp5.below bx hp5.lt
  replace hAX := hAX.below bx
  replace hW := hW.trans (bx.mono (Nat.le_trans hB0 hW.size))
  clear bx
  refine ⟨_, rfl, hK.out _ _ ?_⟩
  clear hK K
  simp only [List.set_cons_zero, List.set_cons_succ]
  refine runL 39 (.tuple #[.slice (AY) n2 n2, .int .i64 0]) rfl (by rfl) (by go_simp) ?_
  simp only [List.set_cons_zero, List.set_cons_succ]
  refine runL 51 (.slice (AY) n2 n2) rfl (by rfl) (by go_simp) ?_
  simp only [List.set_cons_zero, List.set_cons_succ]
  refine runL 52 (.int .i64 0) rfl (by rfl) (by go_simp) ?_
  simp only [List.set_cons_zero, List.set_cons_succ]
  refine runL 11 (.slice (AY) n2 n2) rfl (by rfl) (by go_simp) ?_
  simp only [List.set_cons_zero, List.set_cons_succ]
  refine runL 12 (.int .i64 0) rfl (by rfl) (by go_simp) ?_
  simp only [List.set_cons_zero, List.set_cons_succ]
  refine nilL ?_
  go_upto_region 6 with fail
  refine wp_region_held_drew (S := fun wr => Blk wr p3 28 (kV key s c) ∧ Blk wr p5 47 (#[.slice A n cc, .slice A2 n2 cc2]) ∧ Own wr B0 (AX) n n (x) ∧ Own wr B0 (AY) n2 n2 (y) ∧ Below B0 w wr) (by kernel_rfl) ⟨hp3.drew, hp5.drew, hAX.drew_, hAY.drew_, below_drewN hW 1⟩ (fun hH => ?_)
  clear hp3 hp5 hAX hAY hW
  obtain ⟨hp3, hp5, hAX, hAY, hW⟩ := hH
  generalize w13.drew = w14 at *
  refine takeH 16 0 54 (.pointer (some ⟨p3, 0, none⟩)) rfl rfl (by kernel_rfl) (by kernel_rfl) (by kernel_rfl) (fun _ _ _ h => h) (Or.inl ⟨by rfl, fun w _ => by go_simp⟩) ⟨hp3, hp5, hAX, hAY, hW⟩ ?_
  simp only [List.set_cons_zero, List.set_cons_succ]
  refine takeH 15 1 55 (.agg (va .u8 (key))) rfl rfl (by kernel_rfl) (by kernel_rfl) (by kernel_rfl) (fun _ _ _ h => h) (Or.inl ⟨by rfl, fun _ h => exec_mid 22 (.tmp 54) rfl p3 0 rfl (nv .u8 key) _ (kV_key h.1 hkl) Try.underlying22 rfl (sz16L _ hkl)⟩) ⟨hp3, hp5, hAX, hAY, hW⟩ ?_
  simp only [List.set_cons_zero, List.set_cons_succ]
  refine takeH 14 2 56 (.pointer (some ⟨p3, 16, none⟩)) rfl rfl (by kernel_rfl) (by kernel_rfl) (by kernel_rfl) (fun _ _ _ h => h) (Or.inl ⟨by rfl, fun w _ => by go_simp⟩) ⟨hp3, hp5, hAX, hAY, hW⟩ ?_
  simp only [List.set_cons_zero, List.set_cons_succ]
  refine takeH 13 3 57 (.agg (noV s c)) rfl rfl (by kernel_rfl) (by kernel_rfl) (by kernel_rfl) (fun _ _ _ h => h) (Or.inl ⟨by rfl, fun _ h => exec_mid 26 (.tmp 56) rfl p3 16 rfl (noV s c).toList _ (kV_no h.1 hkl) (by exact Try.underlying26) rfl (by kernel_rfl)⟩) ⟨hp3, hp5, hAX, hAY, hW⟩ ?_
  simp only [List.set_cons_zero, List.set_cons_succ]
  refine takeH 12 4 58 (.int .u16 (f : Int)) rfl rfl (by kernel_rfl) (by kernel_rfl) (by kernel_rfl) (fun _ _ _ h => h) (Or.inl ⟨by rfl, fun w _ => by go_simp⟩) ⟨hp3, hp5, hAX, hAY, hW⟩ ?_
  simp only [List.set_cons_zero, List.set_cons_succ]
  refine takeH 11 5 59 (.int .i64 (f : Int)) rfl rfl (by kernel_rfl) (by kernel_rfl) (by kernel_rfl) (fun _ _ _ h => h) (Or.inl ⟨by rfl, fun w _ => by go_simp⟩) ⟨hp3, hp5, hAX, hAY, hW⟩ ?_
  simp only [List.set_cons_zero, List.set_cons_succ]
  refine takeH 10 7 61 (.slice (A) n cc) rfl rfl (by kernel_rfl) (by kernel_rfl) (by kernel_rfl) (fun _ _ _ h => h) (Or.inl ⟨by rfl, fun w _ => by go_simp⟩) ⟨hp3, hp5, hAX, hAY, hW⟩ ?_
  simp only [List.set_cons_zero, List.set_cons_succ]
  refine takeH 9 9 63 (.slice (A2) n2 cc2) rfl rfl (by kernel_rfl) (by kernel_rfl) (by kernel_rfl) (fun _ _ _ h => h) (Or.inl ⟨by rfl, fun w _ => by go_simp⟩) ⟨hp3, hp5, hAX, hAY, hW⟩ ?_
  simp only [List.set_cons_zero, List.set_cons_succ]
  refine wpAnyH_ready (by kernel_rfl) (by simp) (readyRun 8 6 60 (.slice (some ⟨w14.heap.size, 0, none⟩) 0 0) (w14.alloc (.cells (va .u8 ([])) 5)) rfl rfl (by rfl) (exec_bslice 39 0 _ rfl _ (by exact bs_0 _)) ⟨hp3.alloc _, hp5.alloc _, hAX.alloc _, hAY.alloc _, hW.alloc (Nat.le_trans hB0 hW.size) _⟩ (fun _ => ?_) AllReadyH.nil)
  simp only [List.set_cons_zero, List.set_cons_succ]
  have lp3_q1 := hp3.lt
  have lp5_q1 := hp5.lt
  have nAX_q1 := hAX.new_off
  have nAY_q1 := hAY.new_off
  have lw_q1 := Nat.le_trans hB0 hW.size
  have hq1 : Blk (w14.alloc (.cells (va .u8 ([])) 5)) w14.heap.size 5 (va .u8 ([])) := Blk.new _ _ _
  replace hp3 := hp3.alloc (.cells (va .u8 ([])) 5)
  replace hp5 := hp5.alloc (.cells (va .u8 ([])) 5)
  replace hAX := hAX.alloc (.cells (va .u8 ([])) 5)
  replace hAY := hAY.alloc (.cells (va .u8 ([])) 5)
  replace hW := hW.alloc (Nat.le_trans hB0 hW.size) (.cells (va .u8 ([])) 5)
  generalize w14.alloc (.cells (va .u8 ([])) 5) = w15 at *
  generalize w14.heap.size = q1 at hq1 lw_q1 lp3_q1 lp5_q1 nAX_q1 nAY_q1 ⊢
  have hoq1 : Own w15 B0 (some ⟨q1, 0, none⟩) 0 0 ([]) := hq1.owned (rfl) lw_q1 (by unfold maxLen; omega)
  have noq1_p3 : Off (some ⟨q1, 0, none⟩) p3 := fun a ha => by cases ha; simp; omega
  have noq1_p5 : Off (some ⟨q1, 0, none⟩) p5 := fun a ha => by cases ha; simp; omega
  have sAX_oq1 : ∀ a : Addr, (AX) = some a → Off (some ⟨q1, 0, none⟩) a.block := fun a ha b hb e => by cases hb; exact nAX_q1 a ha e.symm
  have soq1_AX : ∀ a : Addr, (some ⟨q1, 0, none⟩ : Option Addr) = some a → Off (AX) a.block := fun a ha => by cases ha; exact nAX_q1
  have sAY_oq1 : ∀ a : Addr, (AY) = some a → Off (some ⟨q1, 0, none⟩) a.block := fun a ha b hb e => by cases hb; exact nAY_q1 a ha e.symm
  have soq1_AY : ∀ a : Addr, (some ⟨q1, 0, none⟩ : Option Addr) = some a → Off (AY) a.block := fun a ha => by cases ha; exact nAY_q1
  clear hq1
  obtain ⟨AJ, cAJ, w16, hap, hAJ, hcAJ, hgr, hof⟩ := own_append hoq1 (A) n cc _ (d) (rd.out _ hW) (Nat.le_trans hB0 hW.size) (d) (by simp) (n) (by omega) (by omega) 39
  refine wpAnyH_ready (by kernel_rfl) (by simp) (readyRun 7 8 62 (.slice AJ (n) cAJ) w16 rfl rfl (by rfl) (exec_append _ _ _ _ rfl _ _ _ rfl rfl hap) ⟨hp3.grown hgr (noq1_p3.ob _ _), hp5.grown hgr (noq1_p5.ob _ _), hAX.grown hgr sAX_oq1, hAY.grown hgr sAY_oq1, Own.belowG hW (Nat.le_trans hB0 hW.size) hoq1.from_ hgr⟩ (fun _ => ?_) AllReadyH.nil)
  simp only [List.set_cons_zero, List.set_cons_succ]
  have nAJ_p3 := hof p3 noq1_p3 hp3.lt
  replace hp3 := hp3.grown hgr (noq1_p3.ob _ _)
  have nAJ_p5 := hof p5 noq1_p5 hp5.lt
  replace hp5 := hp5.grown hgr (noq1_p5.ob _ _)
  have sAX_AJ : ∀ a : Addr, (AX) = some a → Off AJ a.block := fun a ha => hof a.block (sAX_oq1 a ha) (hAX.lt ha).2
  replace hAX := hAX.grown hgr sAX_oq1
  have sAJ_AX := Own.new_sep hAX hAJ sAX_AJ
  have sAY_AJ : ∀ a : Addr, (AY) = some a → Off AJ a.block := fun a ha => hof a.block (sAY_oq1 a ha) (hAY.lt ha).2
  replace hAY := hAY.grown hgr sAY_oq1
  have sAJ_AY := Own.new_sep hAY hAJ sAY_AJ
  replace hW := Own.belowG hW (Nat.le_trans hB0 hW.size) hoq1.from_ hgr
  clear hoq1 hgr hof hap
  obtain ⟨AK, cAK, w17, hap, hAK, hcAK, hgr, hof⟩ := own_append hAJ (A2) n2 cc2 _ (d2) (rd2.out _ hW) (Nat.le_trans hB0 hW.size) (d ++ d2) rfl ((n + n2)) (by omega) (by omega) 39
  refine wpAnyH_ready (by kernel_rfl) (by simp) (readyRun 6 10 64 (.slice AK ((n + n2)) cAK) w17 rfl rfl (by rfl) (exec_append _ _ _ _ rfl _ _ _ rfl rfl hap) ⟨hp3.grown hgr (nAJ_p3.ob _ _), hp5.grown hgr (nAJ_p5.ob _ _), hAX.grown hgr sAX_AJ, hAY.grown hgr sAY_AJ, Own.belowG hW (Nat.le_trans hB0 hW.size) hAJ.from_ hgr⟩ (fun _ => ?_) AllReadyH.nil)
  simp only [List.set_cons_zero, List.set_cons_succ]
  have nAK_p3 := hof p3 nAJ_p3 hp3.lt
  replace hp3 := hp3.grown hgr (nAJ_p3.ob _ _)
  have nAK_p5 := hof p5 nAJ_p5 hp5.lt
  replace hp5 := hp5.grown hgr (nAJ_p5.ob _ _)
  have sAX_AK : ∀ a : Addr, (AX) = some a → Off AK a.block := fun a ha => hof a.block (sAX_AJ a ha) (hAX.lt ha).2
  replace hAX := hAX.grown hgr sAX_AJ
  have sAK_AX := Own.new_sep hAX hAK sAX_AK
  have sAY_AK : ∀ a : Addr, (AY) = some a → Off AK a.block := fun a ha => hof a.block (sAY_AJ a ha) (hAY.lt ha).2
  replace hAY := hAY.grown hgr sAY_AJ
  have sAK_AY := Own.new_sep hAY hAK sAY_AK
  replace hW := Own.belowG hW (Nat.le_trans hB0 hW.size) hAJ.from_ hgr
  clear hAJ hgr hof hap
  refine wpAnyH_ready (by kernel_rfl) (by simp) (readyCons 5 11 65 rfl rfl (by rfl) (fun K hK => wp_callF 15 #[.agg (va .u8 (key)), .agg (noV s c), .int .i64 (f : Int), .slice (AK) ((n + n2)) cAK] (by go_simp) (xor_any7 key s c f (n + n2) (d ++ d2) (x ++ y) hzq.out hkl hkb hs (by simp [hdl, hdl2]) (hdb.app hdb2) (by omega) AK cAK _ _ hAK.reads (Nat.le_refl _)) ?_) AllReadyH.nil)
  rintro e w18 ⟨AZ, rfl, hAZ, bx⟩
  replace hAZ := hAZ.mono (Nat.le_trans hB0 hW.size)
  replace hp3 := hp3.below bx hp3.lt
  replace hp5 := hp5.below bx hp5.lt
  replace hAX := hAX.below bx
  replace hAY := hAY.below bx
  replace hAK := hAK.below bx
  replace hW := hW.trans (bx.mono (Nat.le_trans hB0 hW.size))
  clear bx
  refine ⟨_, rfl, hK.out _ _ ⟨hp3, hp5, hAX, hAY, hW⟩ (fun _ => ?_)⟩
  clear hK K
  simp only [List.set_cons_zero, List.set_cons_succ]
  refine takeH 4 12 53 (.tuple #[.slice (AZ) (n + n2) (n + n2), .int .i64 0]) rfl rfl (by kernel_rfl) (by kernel_rfl) (by kernel_rfl) (fun _ _ _ h => h) (Or.inl ⟨by rfl, fun w _ => by go_simp⟩) ⟨hp3, hp5, hAX, hAY, hW⟩ ?_
  simp only [List.set_cons_zero, List.set_cons_succ]
  refine takeH 3 13 66 (.slice (AZ) (n + n2) (n + n2)) rfl rfl (by kernel_rfl) (by kernel_rfl) (by kernel_rfl) (fun _ _ _ h => h) (Or.inl ⟨by rfl, fun w _ => by go_simp⟩) ⟨hp3, hp5, hAX, hAY, hW⟩ ?_
  simp only [List.set_cons_zero, List.set_cons_succ]
  refine takeH 2 14 67 (.int .i64 0) rfl rfl (by kernel_rfl) (by kernel_rfl) (by kernel_rfl) (fun _ _ _ h => h) (Or.inl ⟨by rfl, fun w _ => by go_simp⟩) ⟨hp3, hp5, hAX, hAY, hW⟩ ?_
  simp only [List.set_cons_zero, List.set_cons_succ]
  refine takeH 1 15 13 (.slice (AZ) (n + n2) (n + n2)) rfl rfl (by kernel_rfl) (by kernel_rfl) (by kernel_rfl) (fun _ _ _ h => h) (Or.inl ⟨by rfl, fun w _ => by go_simp⟩) ⟨hp3, hp5, hAX, hAY, hW⟩ ?_
  simp only [List.set_cons_zero, List.set_cons_succ]
  refine takeH 0 16 14 (.int .i64 0) rfl rfl (by kernel_rfl) (by kernel_rfl) (by kernel_rfl) (fun _ _ _ h => h) (Or.inl ⟨by rfl, fun w _ => by go_simp⟩) ⟨hp3, hp5, hAX, hAY, hW⟩ ?_
  simp only [List.set_cons_zero, List.set_cons_succ]
  refine wpAnyH_done (by kernel_rfl) ?_ _
  go_upto_region 7 with fail
  refine wl_lit ?_
  refine runL 68 (.int .i64 0) rfl (by rfl) (by go_simp) ?_
  simp only [List.set_cons_zero, List.set_cons_succ]
  refine runL 69 (.bool true) rfl (by rfl) (by go_simp) ?_
  simp only [List.set_cons_zero, List.set_cons_succ]
  refine runL 70 (.bool true) rfl (by rfl) (by go_simp) ?_
  simp only [List.set_cons_zero, List.set_cons_succ]
  refine runL 71 (.int .i64 0) rfl (by rfl) (by go_simp) ?_
  simp only [List.set_cons_zero, List.set_cons_succ]
  refine runL 72 (.bool true) rfl (by rfl) (by go_simp) ?_
  simp only [List.set_cons_zero, List.set_cons_succ]
  refine runL 73 (.bool true) rfl (by rfl) (by go_simp) ?_
  simp only [List.set_cons_zero, List.set_cons_succ]
  refine runL 74 (.bool true) rfl (by rfl) (by go_simp) ?_
  simp only [List.set_cons_zero, List.set_cons_succ]
  refine runL 75 (.int .i64 0) rfl (by rfl) (by go_simp) ?_
  simp only [List.set_cons_zero, List.set_cons_succ]
  refine runL 76 (.bool true) rfl (by rfl) (by go_simp) ?_
  simp only [List.set_cons_zero, List.set_cons_succ]
  refine runL 77 (.bool true) rfl (by rfl) (by go_simp) ?_
  simp only [List.set_cons_zero, List.set_cons_succ]
  refine runL 78 (.bool true) rfl (by rfl) (by go_simp) ?_
  simp only [List.set_cons_zero, List.set_cons_succ]
  refine runL 79 (.slice (AZ) (n + n2) (n + n2)) rfl (by rfl) (by go_simp) ?_
  simp only [List.set_cons_zero, List.set_cons_succ]
  refine runL 80 (.string (bst ((x ++ y)))) rfl (by rfl) (exec_conv 39 9 (.tmp 79) rfl (.slice (AZ) (n + n2) (n + n2)) (.string (bst ((x ++ y)))) rfl (Reads.string hAZ.reads _ _ Try.underlying39 Try.underlying9)) ?_
  simp only [List.set_cons_zero, List.set_cons_succ]
  refine runL 81 (.slice (AX) n n) rfl (by rfl) (by go_simp) ?_
  simp only [List.set_cons_zero, List.set_cons_succ]
  refine runL 82 (.string (bst (x))) rfl (by rfl) (exec_conv 39 9 (.tmp 81) rfl (.slice (AX) n n) (.string (bst (x))) rfl (Reads.string hAX.reads _ _ Try.underlying39 Try.underlying9)) ?_
  simp only [List.set_cons_zero, List.set_cons_succ]
  refine runL 83 (.slice (AY) n2 n2) rfl (by rfl) (by go_simp) ?_
  simp only [List.set_cons_zero, List.set_cons_succ]
  refine runL 84 (.string (bst (y))) rfl (by rfl) (exec_conv 39 9 (.tmp 83) rfl (.slice (AY) n2 n2) (.string (bst (y))) rfl (Reads.string hAY.reads _ _ Try.underlying39 Try.underlying9)) ?_
  simp only [List.set_cons_zero, List.set_cons_succ]
  refine runL 85 (.string (bst ((x ++ y)))) rfl (by rfl) (by go_simp; rw [hstq.out, if_neg hszq.out]) ?_
  simp only [List.set_cons_zero, List.set_cons_succ]
  refine runL 86 (.bool true) rfl (by rfl) (by go_simp) ?_
  simp only [List.set_cons_zero, List.set_cons_succ]
  refine runL 87 (.bool true) rfl (by rfl) (by go_simp) ?_
  simp only [List.set_cons_zero, List.set_cons_succ]
  refine runL 88 (.bool true) rfl (by rfl) (by go_simp) ?_
  simp only [List.set_cons_zero, List.set_cons_succ]
  refine callL 89 rfl (by rfl) (fun K hK => wp_callF 11 #[] (by go_simp) (lives_any7 _) ?_)
  rintro e w19 ⟨rfl, bx⟩
  replace hp3 := hp3.below bx hp3.lt
  replace hp5 := hp5.below bx hp5.lt
  replace hAX := hAX.below bx
  replace hAY := hAY.below bx
  replace hAK := hAK.below bx
  replace hAZ := hAZ.below bx
  replace hW := hW.trans (bx.mono (Nat.le_trans hB0 hW.size))
  clear bx
  refine ⟨_, rfl, hK.out _ _ ?_⟩
  clear hK K
  simp only [List.set_cons_zero, List.set_cons_succ]
  refine runL 90 (.bool true) rfl (by rfl) (by go_simp) ?_
  simp only [List.set_cons_zero, List.set_cons_succ]
  refine runL 6 (.bool true) rfl (by rfl) (by go_simp) ?_
  simp only [List.set_cons_zero, List.set_cons_succ]
  refine nilL ?_
  go_wp2_with fail
  go_ret
  exact ⟨rfl, hW⟩
end Go.Proofs.Ytpcdckhabaoieaa
