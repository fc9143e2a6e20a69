/-
  The walks of caissonlaw09.bad, same, lives. (Printed by mkseal09b.py.)
-/
import Derived.Test.YtcfddmplnoknlaaDoorY20
import Derived.Deep.Cut
namespace Go.Proofs.YtcfddmplnoknlaaDoor
set_option maxRecDepth 16384
open Go.RowKit Sh

theorem zv_blkz (z : List Nat) (hz : List.replicate 32 0 = z) (w : World) : (zeroValue 33).run Tryd.prog w = .ok (.agg (va .u8 z)) w := by subst hz; exact zv_api_Block w
theorem zv_digz (z : List Nat) (hz : List.replicate 32 0 = z) (w : World) : (zeroValue 45).run Tryd.prog w = .ok (.agg (va .u8 z)) w := by subst hz; exact zv_api_Digest w
theorem sopen_badz (z : List Nat) (hz : List.replicate 32 0 = z) (ke km : List Nat) (hel : ke.length = 16) (hml : km.length = 32) (heb : Byt ke) (hmb : Byt km) (i : Int) (hi : i < 0 ∨ 4096 ≤ i) (s c : Nat) (d : List Nat) (hdl : d.length = 32) (hdb : Byt d) (tag : List Nat) (htl : tag.length = 32) (htb : Byt tag) (w : World) :
  Calls Tryd.prog 15 #[.agg (va .u8 (ke ++ km)), .int .i64 i, .agg (noV s c), .agg (va .u8 d), .agg (va .u8 tag)] w fun e w' => e = .returned (.tuple #[.agg (va .u8 z), .int .i64 1]) ∧ Below w.heap.size w w' := by
 subst hz; exact sopen_bad ke km hel hml heb hmb i hi s c d hdl hdb tag htl htb w
theorem sopen_noz (z : List Nat) (hz : List.replicate 32 0 = z) (ke km : List Nat) (hel : ke.length = 16) (hml : km.length = 32) (heb : Byt ke) (hmb : Byt km) (i s c : Nat) (d : List Nat) (hi : i < 4096) (hs : s < 4294967296) (hdl : d.length = 32) (hdb : Byt d) (tag : List Nat) (htl : tag.length = 32) (htb : Byt tag) (hv : ¬ hm km (msg i s c d) = tag) (w : World) (hg : Glob w) :
  Calls Tryd.prog 15 #[.agg (va .u8 (ke ++ km)), .int .i64 (i : Int), .agg (noV s c), .agg (va .u8 d), .agg (va .u8 tag)] w fun e w' => e = .returned (.tuple #[.agg (va .u8 z), .int .i64 9]) ∧ Below w.heap.size w w' := by
 subst hz; exact sopen_no ke km hel hml heb hmb i s c d hi hs hdl hdb tag htl htb hv w hg
theorem ropen_noz (z : List Nat) (hz : List.replicate 32 0 = z) (ke km : List Nat) (hel : ke.length = 16) (hml : km.length = 32) (heb : Byt ke) (hmb : Byt km) (i s c : Nat) (d : List Nat) (hi : i < 4096) (hs : s < 4294967296) (hdl : d.length = 32) (hdb : Byt d) (hc : c < 18446744073709551616) (tag : List Nat) (hgl : tag.length = 32) (hgb : Byt tag) (hv : ¬ hm km (msg i s c d) = tag) (w : World) :
  Calls Tryd.prog 17 #[.agg (va .u8 ke), .agg (va .u8 km), .int .i64 (i : Int), .agg (noV s c), .agg (va .u8 d), .agg (va .u8 tag)] w fun e w' => e = .returned (.tuple #[.agg (va .u8 z), .int .i64 9]) ∧ Below w.heap.size w w' := by
 subst hz; exact ropen_no ke km hel hml heb hmb i s c d hi hs hdl hdb hc tag hgl hgb hv w
theorem sseal_badz (z : List Nat) (hz : List.replicate 32 0 = z) (ke km : List Nat) (hel : ke.length = 16) (hml : km.length = 32) (heb : Byt ke) (hmb : Byt km) (i : Int) (hi : i < 0 ∨ 4096 ≤ i) (s c : Nat) (d : List Nat) (hdl : d.length = 32) (w : World) :
  Calls Tryd.prog 14 #[.agg (va .u8 (ke ++ km)), .int .i64 i, .agg (noV s c), .agg (va .u8 d)] w fun e w' => e = .returned (.tuple #[.agg (va .u8 z), .agg (va .u8 z), .int .i64 1]) ∧ Below w.heap.size w w' := by
 subst hz; exact sseal_bad ke km hel hml heb hmb i hi s c d hdl w
theorem sparse_lenz (z : List Nat) (hz : List.replicate 32 0 = z) (n : Nat) (e : Int) (he : (n < 48 ∧ e = 6) ∨ (48 < n ∧ e = 5)) (A : Option Addr) (cc : Nat) (w : World) :
  Calls Tryd.prog 12 #[.slice A n cc] w fun e' w' => e' = .returned (.tuple #[.int .i64 0, .agg (noV 0 0), .agg (va .u8 z), .int .i64 e]) ∧ Below w.heap.size w w' := by
 subst hz; exact sparse_len n e he A cc w
theorem sparse_farz (z : List Nat) (hz : List.replicate 32 0 = z) (l : List Nat) (hll : l.length = 48) (hlb : Byt l) (A : Option Addr) (cc B : Nat) (hcc : 48 ≤ cc) (w : World) (hr : Reads w B 1 A 48 (nv .u8 l)) (hBw : B ≤ w.heap.size) (i : Nat) (hi : mI l = i) (hi2 : 4096 ≤ i) (hi3 : i < 4294967296) :
  Calls Tryd.prog 12 #[.slice A 48 cc] w fun e' w' => e' = .returned (.tuple #[.int .i64 0, .agg (noV 0 0), .agg (va .u8 z), .int .i64 1]) ∧ Below w.heap.size w w' := by
 subst hz; exact sparse_far l hll hlb A cc B hcc w hr hBw i hi hi2 hi3

set_option maxRecDepth 8000 in
set_option maxHeartbeats 4000000 in
theorem bad_yes (i : Int) (hi : i < 0 ∨ 4096 ≤ i) (w : World) :
  Calls Tryd.prog 10 #[.int .i64 i] w fun e w' => e = .returned (.bool true) ∧ Below w.heap.size w w' := by
 obtain ⟨B0, hB0e, hW, hB0⟩ := stB w
 rw [hB0e]
 have hB0q := Lib.hid hB0e
 clear hB0e
 by_cases h1 : i < 0
 ·
  go_enter Tryd.func10, Tryd.ntmps10
  go_upto_region 0 with fail
  refine wl_lit ?_
  refine runL 2 (.bool false) rfl (by rfl) (by go_simp) ?_
  simp only [Ls]
  refine nilL ?_
  go_upto_region 1 with fail
  refine wl_lit ?_
  refine runL 3 (.int .i64 i) rfl (by rfl) (by go_simp) ?_
  simp only [Ls]
  refine runL 4 (.bool true) rfl (by rfl) (by go_simp) ?_
  simp only [Ls]
  refine runL 5 (.bool true) rfl (by rfl) (by go_simp) ?_
  simp only [Ls]
  refine skipL 6 rfl (by kernel_rfl) ?_
  simp only [Ls]
  refine skipL 7 rfl (by kernel_rfl) ?_
  simp only [Ls]
  refine runL 8 (.bool true) rfl (by rfl) (by go_simp) ?_
  simp only [Ls]
  refine runL 2 (.bool true) rfl (by rfl) (by go_simp) ?_
  simp only [Ls]
  refine nilL ?_
  go_wp2_with fail
  go_ret
  exact ⟨rfl, hW⟩
 ·
  have h2 : 4095 < i := by omega
  go_enter Tryd.func10, Tryd.ntmps10
  go_upto_region 0 with fail
  refine wl_lit ?_
  refine runL 2 (.bool false) rfl (by rfl) (by go_simp) ?_
  simp only [Ls]
  refine nilL ?_
  go_upto_region 1 with fail
  refine wl_lit ?_
  refine runL 3 (.int .i64 i) rfl (by rfl) (by go_simp) ?_
  simp only [Ls]
  refine runL 4 (.bool false) rfl (by rfl) (by go_simp) ?_
  simp only [Ls]
  refine runL 5 (.bool false) rfl (by rfl) (by go_simp) ?_
  simp only [Ls]
  refine runL 6 (.int .i64 i) rfl (by rfl) (by go_simp) ?_
  simp only [Ls]
  refine runL 7 (.bool true) rfl (by rfl) (by go_simp) ?_
  simp only [Ls]
  refine runL 8 (.bool true) rfl (by rfl) (by go_simp) ?_
  simp only [Ls]
  refine runL 2 (.bool true) rfl (by rfl) (by go_simp) ?_
  simp only [Ls]
  refine nilL ?_
  go_wp2_with fail
  go_ret
  exact ⟨rfl, hW⟩
set_option maxRecDepth 8000 in
set_option maxHeartbeats 4000000 in
theorem bad_no (i : Nat) (hi : i < 4096) (w : World) :
  Calls Tryd.prog 10 #[.int .i64 (i : Int)] w fun e w' => e = .returned (.bool false) ∧ Below w.heap.size w w' := by
 have h1 : ¬ (i : Int) < 0 := by omega
 have h2 : ¬ 4095 < (i : Int) := by omega
 obtain ⟨B0, hB0e, hW, hB0⟩ := stB w
 rw [hB0e]
 have hB0q := Lib.hid hB0e
 clear hB0e
 go_enter Tryd.func10, Tryd.ntmps10
 go_upto_region 0 with fail
 refine wl_lit ?_
 refine runL 2 (.bool false) rfl (by rfl) (by go_simp) ?_
 simp only [Ls]
 refine nilL ?_
 go_upto_region 1 with fail
 refine wl_lit ?_
 refine runL 3 (.int .i64 (i : Int)) rfl (by rfl) (by go_simp) ?_
 simp only [Ls]
 refine runL 4 (.bool false) rfl (by rfl) (by go_simp) ?_
 simp only [Ls]
 refine runL 5 (.bool false) rfl (by rfl) (by go_simp) ?_
 simp only [Ls]
 refine runL 6 (.int .i64 (i : Int)) rfl (by rfl) (by go_simp) ?_
 simp only [Ls]
 refine runL 7 (.bool false) rfl (by rfl) (by go_simp) ?_
 simp only [Ls]
 refine runL 8 (.bool false) rfl (by rfl) (by go_simp) ?_
 simp only [Ls]
 refine runL 2 (.bool false) rfl (by rfl) (by go_simp) ?_
 simp only [Ls]
 refine nilL ?_
 go_wp2_with fail
 go_ret
 exact ⟨rfl, hW⟩
set_option maxRecDepth 8000 in
set_option maxHeartbeats 4000000 in
theorem same09_any (l : List Nat) (A : Option Addr) (n B : Nat) (A2 : Option Addr) (c2 B2 : Nat) (e : Int) (w : World) (hr : Reads w B 1 A n (nv .u8 l)) (hBw : B ≤ w.heap.size) (hr2 : Reads w B2 1 A2 n (nv .u8 l)) (hB2w : B2 ≤ w.heap.size) :
  Calls Tryd.prog 11 #[.slice A n n, .int .i64 e, .slice A2 n c2, .int .i64 e] w fun e w' => e = .returned (.bool true) ∧ Below w.heap.size w w' := by
 obtain ⟨B0, hB0e, hW, hB0⟩ := stB w
 rw [hB0e]
 have rd := reads_of hr (by omega : B ≤ B0)
 have rd2 := reads_of hr2 (by omega : B2 ≤ B0)
 have hB0q := Lib.hid hB0e
 clear hB0e
 go_enter Tryd.func11, Tryd.ntmps11
 go_upto_region 0 with fail
 refine wl_lit ?_
 refine runL 8 (.bool false) rfl (by rfl) (by go_simp) ?_
 simp only [Ls]
 refine nilL ?_
 go_upto_region 1 with fail
 refine wl_lit ?_
 refine runL 9 (.int .i64 e) rfl (by rfl) (by go_simp) ?_
 simp only [Ls]
 refine runL 10 (.int .i64 e) rfl (by rfl) (by go_simp) ?_
 simp only [Ls]
 refine runL 11 (.bool true) rfl (by rfl) (by go_simp) ?_
 simp only [Ls]
 refine runL 12 (.bool true) rfl (by rfl) (by go_simp) ?_
 simp only [Ls]
 refine runL 13 (.slice A n n) rfl (by rfl) (by go_simp) ?_
 simp only [Ls]
 refine runL 14 (.string (bst l)) rfl (by rfl) (exec_conv 34 9 (.tmp 13) rfl (.slice A n n) (.string (bst l)) rfl (Reads.string (rd.out _ hW) _ _ Tryd.underlying34 Tryd.underlying9)) ?_
 simp only [Ls]
 refine runL 15 (.slice A2 n c2) rfl (by rfl) (by go_simp) ?_
 simp only [Ls]
 refine runL 16 (.string (bst l)) rfl (by rfl) (exec_conv 34 9 (.tmp 15) rfl (.slice A2 n c2) (.string (bst l)) rfl (Reads.string (rd2.out _ hW) _ _ Tryd.underlying34 Tryd.underlying9)) ?_
 simp only [Ls]
 refine runL 17 (.bool true) rfl (by rfl) (by go_simp) ?_
 simp only [Ls]
 refine runL 18 (.bool true) rfl (by rfl) (by go_simp) ?_
 simp only [Ls]
 refine runL 19 (.bool true) rfl (by rfl) (by go_simp) ?_
 simp only [Ls]
 refine runL 20 (.slice A n n) rfl (by rfl) (by go_simp) ?_
 simp only [Ls]
 refine runL 21 (.int .i64 n) rfl (by rfl) (by go_simp) ?_
 simp only [Ls]
 refine runL 22 (.slice A n n) rfl (by rfl) (by go_simp) ?_
 simp only [Ls]
 refine runL 23 (.int .i64 n) rfl (by rfl) (by go_simp) ?_
 simp only [Ls]
 refine runL 24 (.bool true) rfl (by rfl) (by go_simp) ?_
 simp only [Ls]
 refine runL 25 (.bool true) rfl (by rfl) (by go_simp) ?_
 simp only [Ls]
 refine runL 8 (.bool true) rfl (by rfl) (by go_simp) ?_
 simp only [Ls]
 refine nilL ?_
 go_wp2_with fail
 go_ret
 exact ⟨rfl, hW⟩
def kM9 : List Nat := [0, 0, 0, 3, 0, 0, 0, 1, 0, 0, 0, 0, 0, 0, 0, 2]
theorem bs_kM9 (W : World) : (Instr.buildSlice 34 16 #[(0, .int .u8 0), (1, .int .u8 0), (2, .int .u8 0), (3, .int .u8 3), (4, .int .u8 0), (5, .int .u8 0), (6, .int .u8 0), (7, .int .u8 1), (8, .int .u8 0), (9, .int .u8 0), (10, .int .u8 0), (11, .int .u8 0), (12, .int .u8 0), (13, .int .u8 0), (14, .int .u8 0), (15, .int .u8 2)]).run Tryd.prog W = .ok (.slice (some ⟨W.heap.size, 0, none⟩) 16 16) (W.alloc (.cells (va .u8 kM9) 5)) := by
 obtain ⟨ie, hie, h0, h1, h2⟩ := info_parts byte_info
 refine run_buildSlice W _ 5 16 _ (va .u8 kM9) ie _ Tryd.underlying34 hie h0 (by rw [h1]; decide) (by rw [h1]; decide) ?_
 rw [h1]; kernel_rfl
theorem volume_to (m e f : List Nat) (he : ve m = e) (hf : vm m = f) (hml : m.length = 32) (hmb : Byt m) (w : World) (hg : Glob w) :
  Calls Tryd.prog 19 #[.agg (va .u8 m)] w fun e' w' => e' = .returned (.agg (va .u8 (e ++ f))) ∧ Below w.heap.size w w' := by
 subst he; subst hf; exact volume_any m hml hmb w hg
theorem sblock_to9 (key : List Nat) (s c k : Nat) (E : List Nat) (hE : sbl key s c k = E) (hkl : key.length = 16) (hkb : Byt key) (hs : s < 4294967296) (hk : k < 4294967296) (w : World) :
  Calls Tryd.prog 20 #[.agg (va .u8 key), .agg (noV s c), .int .u32 (k : Int)] w fun e w' => e = .returned (.agg (va .u8 E)) ∧ Below w.heap.size w w' := by
 subst hE; exact sblock_any key s c k hkl hkb hs hk w
theorem kxor_zero (key : List Nat) (s c : Nat) : kxor key s c 0 (List.replicate 32 0) = sbl key s c 0 ++ sbl key s c 1 := by
  have hz : (List.replicate 32 0).length = 32 := List.length_replicate
  apply ext_getD (by simp [kxor_len, sbl_len])
  intro i hi
  rw [kxor_len, hz] at hi
  have hzi : (List.replicate 32 0).getD i 0 = 0 := by
    have h : ∀ j < 32, (List.replicate 32 0).getD j 0 = 0 := by decide
    exact h i hi
  rw [kxor, hz, getD_map_range _ _ _ hi, xb, hzi, Nat.zero_xor, Nat.zero_add]
  by_cases h : i < 16
  · rw [show i / 16 = 0 by omega, show i % 16 = i by omega, List.getD_eq_getElem?_getD, List.getD_eq_getElem?_getD, List.getElem?_append_left (by rw [sbl_len]; exact h)]
  · rw [show i / 16 = 1 by omega, show i % 16 = i - 16 by omega, List.getD_eq_getElem?_getD, List.getD_eq_getElem?_getD, List.getElem?_append_right (by rw [sbl_len]; omega), sbl_len]
theorem seal_ne : ¬ hm (vm (List.replicate 32 0)) (msg 4 1 2 (kxor (ve (List.replicate 32 0)) 1 2 0 (List.replicate 32 0))) = hm (vm (List.replicate 32 0)) (msg 3 1 2 (kxor (ve (List.replicate 32 0)) 1 2 0 (List.replicate 32 0))) := by decide +kernel
theorem m9 (z : List Nat) : kM9 ++ z = msg 3 1 2 z := by
 rw [msg, ← List.append_assoc, show kM9 = beB 3 4 ++ noB 1 2 by decide]
theorem ve_byt (m : List Nat) : Byt (ve m) := ex_byt _ _ _
theorem vm_byt (m : List Nat) : Byt (vm m) := ex_byt _ _ _

set_option maxRecDepth 8000 in
set_option maxHeartbeats 4000000 in
theorem lives09_any (w : World) (hg : Glob w) :
  Calls Tryd.prog 8 #[] w fun e w' => e = .returned (.bool true) ∧ Below w.heap.size w w' := by
 obtain ⟨B0, hB0e, hW, hB0⟩ := stB w
 rw [hB0e]
 have gl := glob_of hg hB0e
 clear hg
 have hB0q := Lib.hid hB0e
 clear hB0e
 obtain ⟨z, hz⟩ : ∃ z, List.replicate 32 0 = z := ⟨_, rfl⟩
 have hzl : z.length = 32 := by rw [← hz]; exact List.length_replicate
 have hzb : Byt z := by rw [← hz]; exact Byt.rep _ _ (by omega)
 obtain ⟨ke, he⟩ : ∃ x, ve z = x := ⟨_, rfl⟩
 obtain ⟨km, hm_⟩ : ∃ x, vm z = x := ⟨_, rfl⟩
 obtain ⟨x, hx⟩ : ∃ x, kxor ke 1 2 0 z = x := ⟨_, rfl⟩
 obtain ⟨t, ht⟩ : ∃ y, hm km (msg 3 1 2 x) = y := ⟨_, rfl⟩
 obtain ⟨s0, hs0⟩ : ∃ x, sbl ke 1 2 0 = x := ⟨_, rfl⟩
 obtain ⟨s1, hs1⟩ : ∃ x, sbl ke 1 2 1 = x := ⟨_, rfl⟩
 have hne := seal_ne
 rw [hz, he, hm_, hx, ht] at hne
 have hel : ke.length = 16 := by rw [← he]; exact ve_len _
 have hml : km.length = 32 := by rw [← hm_]; exact vm_len _
 have heb : Byt ke := by rw [← he]; exact ve_byt _
 have hmb : Byt km := by rw [← hm_]; exact vm_byt _
 have hxl : x.length = 32 := by rw [← hx, kxor_len, hzl]
 have hxb : Byt x := by rw [← hx]; exact kxor_byt heb hzb
 have htl : t.length = 32 := by rw [← ht]; exact hm_len _ _
 have htb : Byt t := by rw [← ht]; exact hm_byt _ _
 have h0l : s0.length = 16 := by rw [← hs0]; exact sbl_len _ _ _ _
 have h1l : s1.length = 16 := by rw [← hs1]; exact sbl_len _ _ _ _
 have hxx : x = s0 ++ s1 := by rw [← hx, ← hz, kxor_zero, hs0, hs1]
 have hback : kxor ke 1 2 0 x = z := by rw [← hx, kxor_twice]
 have hstr : bst s0 ++ bst s1 = bst x := by rw [← bst_append, ← hxx]
 have hszq : Hid (¬ 9223372036854775807 < (bst s0).size + (bst s1).size) := Lib.hid (by rw [bst_sizeD, bst_sizeD]; omega)
 have heq := Lib.hid he
 have hmq := Lib.hid hm_
 have hxq := Lib.hid hx
 have htq := Lib.hid ht
 have h0q := Lib.hid hs0
 have h1q := Lib.hid hs1
 have hneq := Lib.hid hne
 have hbq := Lib.hid hback
 have hstq := Lib.hid hstr
 have hzq := Lib.hid hz
 clear he hm_ hx ht hs0 hs1 hne hback hstr hxx hz
 go_enter Tryd.func8, Tryd.ntmps8
 go_upto_region 0 with fail
 refine wl_lit ?_
 refine runL 0 (.bool false) rfl (by rfl) (by go_simp) ?_
 simp only [ls0]
 refine nilL ?_
 go_upto_region 1 with fail
 refine wl_lit ?_
 refine runL 25 (.agg (va .u8 z)) rfl (by rfl) (exec_build 24 _ rfl (va .u8 z) (by rw [← hzq.out]; kernel_rfl)) ?_
 simp only [Ls]
 refine callL 26 rfl (by rfl) (fun K hK => wp_callF 19 #[.agg (va .u8 z)] (by go_simp) (volume_to z ke km heq.out hmq.out hzl hzb _ (gl.out _ hW)) ?_)
 rintro e w1 ⟨rfl, bx⟩
 replace hW := trB hW hB0 bx
 clear bx
 refine ⟨_, rfl, hK.out _ _ ?_⟩
 clear hK K
 simp only [Ls]
 refine runWL 1 (.pointer (some ⟨w1.heap.size, 0, none⟩)) (w1.alloc (.cells (va .u8 (List.replicate 48 0)) 26)) rfl (by rfl) (exec_allocV 26 rfl _ (zv_derives_Keys _)) ?_
 simp only [Ls]
 have lw_p1 := Nat.le_trans hB0 hW.size
 have hp1 := Blk.new w1 26 (va .u8 (List.replicate 48 0))
 replace hW := alB hW hB0 (.cells (va .u8 (List.replicate 48 0)) 26)
 generalize w1.alloc (.cells (va .u8 (List.replicate 48 0)) 26) = w2 at *
 generalize w1.heap.size = p1 at hp1 lw_p1  ⊢
 refine runSL (w2.setRow p1 (va .u8 (ke ++ km))) rfl (by rfl) (exec_storeRow 26 (.tmp 1) (.tmp 26) rfl p1 rfl (va .u8 (ke ++ km)) rfl 26 (va .u8 (List.replicate 48 0)) hp1 (sz_eq (sz_derives_Keys _ (List.length_replicate)) (sz_derives_Keys _ ((by simp [hel, hml])))) (sz_derives_Keys _ ((by simp [hel, hml]))) (va_ones .u8 _)) ?_
 replace hp1 := hp1.row (va .u8 (ke ++ km))
 replace hW := below_setRow hW lw_p1 (va .u8 (ke ++ km))
 generalize w2.setRow p1 (va .u8 (ke ++ km)) = w3 at *
 refine nilL ?_
 go_upto_region 2 with fail
 refine wl_lit ?_
 refine runL 27 (.agg (noV 1 2)) rfl (by rfl) (exec_build 30 _ rfl (noV 1 2) (by kernel_rfl)) ?_
 simp only [Ls]
 refine runWL 2 (.pointer (some ⟨w3.heap.size, 0, none⟩)) (w3.alloc (.cells (noV 0 0) 30)) rfl (by rfl) (exec_allocV 30 rfl _ (zv_Nonce _)) ?_
 simp only [Ls]
 have lp1_p2 := hp1.lt
 have lw_p2 := Nat.le_trans hB0 hW.size
 have hp2 := Blk.new w3 30 (noV 0 0)
 have bx := bAl w3 (.cells (noV 0 0) 30)
 replace hp1 := blB hp1 bx
 replace hW := trB hW hB0 bx
 clear bx
 generalize w3.alloc (.cells (noV 0 0) 30) = w4 at *
 generalize w3.heap.size = p2 at hp2 lw_p2 lp1_p2 ⊢
 refine runSL (w4.setRow p2 (noV 1 2)) rfl (by rfl) (exec_storeRow 30 (.tmp 2) (.tmp 27) rfl p2 rfl (noV 1 2) rfl 30 (noV 0 0) hp2 (sz_eq (noV_sz _ _) (noV_sz _ _)) (noV_sz _ _) (noV_one _ _)) ?_
 replace hp1 := hp1.rowFar (show p2 ≠ p1 from (by omega)) (noV 1 2)
 replace hp2 := hp2.row (noV 1 2)
 replace hW := below_setRow hW lw_p2 (noV 1 2)
 generalize w4.setRow p2 (noV 1 2) = w5 at *
 refine nilL ?_
 go_upto_region 3 with fail
 refine wl_lit ?_
 refine runWL 3 (.pointer (some ⟨w5.heap.size, 0, none⟩)) (w5.alloc (.cells (va .u8 z) 33)) rfl (by rfl) (exec_allocV 33 rfl _ (zv_blkz z hzq.out _)) ?_
 simp only [Ls]
 have lp1_p3 := hp1.lt
 have lp2_p3 := hp2.lt
 have lw_p3 := Nat.le_trans hB0 hW.size
 have hp3 := Blk.new w5 33 (va .u8 z)
 have bx := bAl w5 (.cells (va .u8 z) 33)
 replace hp1 := blB hp1 bx
 replace hp2 := blB hp2 bx
 replace hW := trB hW hB0 bx
 clear bx
 generalize w5.alloc (.cells (va .u8 z) 33) = w6 at *
 generalize w5.heap.size = p3 at hp3 lw_p3 lp1_p3 lp2_p3 ⊢
 refine nilL ?_
 go_upto_region 4 with fail
 refine wl_lit ?_
 refine runL 29 (.agg (noV 1 2)) rfl (by rfl) (exec_row 30 (.tmp 2) rfl p2 rfl 30 (noV 1 2) _ hp2 (by exact Tryd.underlying30) rfl (noV_sz _ _)) ?_
 simp only [Ls]
 refine runL 30 (.agg (va .u8 z)) rfl (by rfl) (exec_row 33 (.tmp 3) rfl p3 rfl 33 (va .u8 z) _ hp3 (by exact Tryd.underlying33) rfl (sz_api_Block _ hzl)) ?_
 simp only [Ls]
 refine callL 31 rfl (by rfl) (fun K hK => wp_callF 9 #[.int .i64 3, .agg (noV 1 2), .agg (va .u8 z)] (by go_simp) (smessage_ok 3 1 2 z (by decide) (by decide) hzl hzb _) ?_)
 rintro e w7 ⟨gm, rfl, hgm, hgg, bx⟩
 have lp1_gm : p1 < gm := Nat.lt_of_lt_of_le hp1.lt hgg
 have lp2_gm : p2 < gm := Nat.lt_of_lt_of_le hp2.lt hgg
 have lp3_gm : p3 < gm := Nat.lt_of_lt_of_le hp3.lt hgg
 have lw_gm : B0 ≤ gm := Nat.le_trans (Nat.le_trans hB0 hW.size) hgg
 replace hp1 := blB hp1 bx
 replace hp2 := blB hp2 bx
 replace hp3 := blB hp3 bx
 replace hW := trB hW hB0 bx
 clear hgg
 clear bx
 refine ⟨_, rfl, hK.out _ _ ?_⟩
 clear hK K
 simp only [Ls]
 refine runL 28 (.tuple #[.slice (some ⟨gm, 0, none⟩) 48 48, .int .i64 0]) rfl (by rfl) (by go_simp) ?_
 simp only [Ls]
 refine runL 32 (.slice (some ⟨gm, 0, none⟩) 48 48) rfl (by rfl) (by go_simp) ?_
 simp only [Ls]
 refine runL 33 (.int .i64 0) rfl (by rfl) (by go_simp) ?_
 simp only [Ls]
 refine runL 4 (.slice (some ⟨gm, 0, none⟩) 48 48) rfl (by rfl) (by go_simp) ?_
 simp only [Ls]
 refine runL 5 (.int .i64 0) rfl (by rfl) (by go_simp) ?_
 simp only [Ls]
 refine nilL ?_
 go_upto_region 5 with fail
 refine wl_lit ?_
 refine runWL 34 (.slice (some ⟨w7.heap.size, 0, none⟩) 16 16) (w7.alloc (.cells (va .u8 kM9) 5)) rfl (by rfl) (exec_bslice 34 16 _ rfl _ (by exact bs_kM9 _)) ?_
 simp only [Ls]
 have lp1_q1 := hp1.lt
 have lp2_q1 := hp2.lt
 have lp3_q1 := hp3.lt
 have lgm_q1 := hgm.lt
 have lw_q1 := Nat.le_trans hB0 hW.size
 have hq1 : Blk (w7.alloc (.cells (va .u8 kM9) 5)) w7.heap.size 5 (va .u8 kM9) := Blk.new _ _ _
 have bx := bAl w7 (.cells (va .u8 kM9) 5)
 replace hp1 := blB hp1 bx
 replace hp2 := blB hp2 bx
 replace hp3 := blB hp3 bx
 clear bx
 replace hgm := hgm.alloc (.cells (va .u8 kM9) 5)
 replace hW := alB hW hB0 (.cells (va .u8 kM9) 5)
 generalize w7.alloc (.cells (va .u8 kM9) 5) = w8 at *
 generalize w7.heap.size = q1 at hq1 lw_q1 lp1_q1 lp2_q1 lp3_q1 lgm_q1 ⊢
 refine runL 35 (.slice (some ⟨p3, 0, none⟩) 32 32) rfl (by rfl) (by go_simp) ?_
 simp only [Ls]
 have hoq1 : Own w8 B0 (some ⟨q1, 0, none⟩) 16 16 kM9 := hq1.owned rfl lw_q1 (by unfold maxLen; omega)
 have noq1_p1 : Off (some ⟨q1, 0, none⟩) p1 := fun a ha => by cases ha; simp; omega
 have noq1_p2 : Off (some ⟨q1, 0, none⟩) p2 := fun a ha => by cases ha; simp; omega
 have noq1_p3 : Off (some ⟨q1, 0, none⟩) p3 := fun a ha => by cases ha; simp; omega
 have noq1_gm : Off (some ⟨q1, 0, none⟩) gm := fun a ha => by cases ha; simp; omega
 clear hq1
 obtain ⟨AW, cAW, w9, hap, hAW, hcAW, hgr, hof⟩ := own_append hoq1 (some ⟨p3, 0, none⟩) 32 32 _ z (hp3.readsAll (Nat.lt_succ_self _) hzl) (Nat.le_trans hB0 hW.size) (msg 3 1 2 z) (m9 z) 48 (by omega) (by omega) 34
 refine runWL 36 (.slice AW 48 cAW) w9 rfl (by rfl) (exec_append _ _ _ _ rfl _ _ _ rfl rfl hap) ?_
 simp only [Ls]
 have nAW_p1 := hof p1 noq1_p1 hp1.lt
 replace hp1 := hp1.grown hgr (noq1_p1.ob _ _)
 have nAW_p2 := hof p2 noq1_p2 hp2.lt
 replace hp2 := hp2.grown hgr (noq1_p2.ob _ _)
 have nAW_p3 := hof p3 noq1_p3 hp3.lt
 replace hp3 := hp3.grown hgr (noq1_p3.ob _ _)
 have nAW_gm := hof gm noq1_gm hgm.lt
 replace hgm := hgm.grown hgr (noq1_gm.ob _ _)
 replace hW := Own.belowG hW (Nat.le_trans hB0 hW.size) hoq1.from_ hgr
 clear hoq1 hgr hof hap
 refine runL 6 (.slice AW 48 cAW) rfl (by rfl) (by go_simp) ?_
 simp only [Ls]
 refine nilL ?_
 go_upto_region 6 with fail
 refine wl_lit ?_
 refine runL 38 (.agg (va .u8 (ke ++ km))) rfl (by rfl) (exec_row 26 (.tmp 1) rfl p1 rfl 26 (va .u8 (ke ++ km)) _ hp1 (by exact Tryd.underlying26) rfl (sz_derives_Keys _ ((by simp [hel, hml])))) ?_
 simp only [Ls]
 refine runL 39 (.agg (noV 1 2)) rfl (by rfl) (exec_row 30 (.tmp 2) rfl p2 rfl 30 (noV 1 2) _ hp2 (by exact Tryd.underlying30) rfl (noV_sz _ _)) ?_
 simp only [Ls]
 refine runL 40 (.agg (va .u8 z)) rfl (by rfl) (exec_row 33 (.tmp 3) rfl p3 rfl 33 (va .u8 z) _ hp3 (by exact Tryd.underlying33) rfl (sz_api_Block _ hzl)) ?_
 simp only [Ls]
 refine callL 41 rfl (by rfl) (fun K hK => wp_callF 14 #[.agg (va .u8 (ke ++ km)), .int .i64 3, .agg (noV 1 2), .agg (va .u8 z)] (by go_simp) (sseal_ok ke km hel hml heb hmb 3 1 2 z (by decide) (by decide) hzl hzb x t hxq.out htq.out hxl hxb htl htb _ (gl.out _ hW)) ?_)
 rintro e w10 ⟨rfl, bx⟩
 replace hp1 := blB hp1 bx
 replace hp2 := blB hp2 bx
 replace hp3 := blB hp3 bx
 replace hgm := hgm.below bx hgm.lt
 replace hAW := hAW.below bx
 replace hW := trB hW hB0 bx
 clear bx
 refine ⟨_, rfl, hK.out _ _ ?_⟩
 clear hK K
 simp only [Ls]
 refine runL 37 (.tuple #[.agg (va .u8 x), .agg (va .u8 t), .int .i64 0]) rfl (by rfl) (by go_simp) ?_
 simp only [Ls]
 refine runL 42 (.agg (va .u8 x)) rfl (by rfl) (by go_simp) ?_
 simp only [Ls]
 refine runL 43 (.agg (va .u8 t)) rfl (by rfl) (by go_simp) ?_
 simp only [Ls]
 refine runL 44 (.int .i64 0) rfl (by rfl) (by go_simp) ?_
 simp only [Ls]
 refine runWL 7 (.pointer (some ⟨w10.heap.size, 0, none⟩)) (w10.alloc (.cells (va .u8 z) 33)) rfl (by rfl) (exec_allocV 33 rfl _ (zv_blkz z hzq.out _)) ?_
 simp only [Ls]
 have lp1_p7 := hp1.lt
 have lp2_p7 := hp2.lt
 have lp3_p7 := hp3.lt
 have lgm_p7 := hgm.lt
 have nAW_p7 := hAW.new_off
 have lw_p7 := Nat.le_trans hB0 hW.size
 have hp7 := Blk.new w10 33 (va .u8 z)
 have bx := bAl w10 (.cells (va .u8 z) 33)
 replace hp1 := blB hp1 bx
 replace hp2 := blB hp2 bx
 replace hp3 := blB hp3 bx
 clear bx
 replace hgm := hgm.alloc (.cells (va .u8 z) 33)
 replace hAW := hAW.alloc (.cells (va .u8 z) 33)
 replace hW := alB hW hB0 (.cells (va .u8 z) 33)
 generalize w10.alloc (.cells (va .u8 z) 33) = w11 at *
 generalize w10.heap.size = p7 at hp7 lw_p7 lp1_p7 lp2_p7 lp3_p7 lgm_p7 nAW_p7 ⊢
 refine runWL 8 (.pointer (some ⟨w11.heap.size, 0, none⟩)) (w11.alloc (.cells (va .u8 z) 45)) rfl (by rfl) (exec_allocV 45 rfl _ (zv_digz z hzq.out _)) ?_
 simp only [Ls]
 have lp1_p8 := hp1.lt
 have lp2_p8 := hp2.lt
 have lp3_p8 := hp3.lt
 have lgm_p8 := hgm.lt
 have nAW_p8 := hAW.new_off
 have lp7_p8 := hp7.lt
 have lw_p8 := Nat.le_trans hB0 hW.size
 have hp8 := Blk.new w11 45 (va .u8 z)
 have bx := bAl w11 (.cells (va .u8 z) 45)
 replace hp1 := blB hp1 bx
 replace hp2 := blB hp2 bx
 replace hp3 := blB hp3 bx
 clear bx
 replace hgm := hgm.alloc (.cells (va .u8 z) 45)
 replace hAW := hAW.alloc (.cells (va .u8 z) 45)
 have bx := bAl w11 (.cells (va .u8 z) 45)
 replace hp7 := blB hp7 bx
 replace hW := trB hW hB0 bx
 clear bx
 generalize w11.alloc (.cells (va .u8 z) 45) = w12 at *
 generalize w11.heap.size = p8 at hp8 lw_p8 lp1_p8 lp2_p8 lp3_p8 lgm_p8 nAW_p8 lp7_p8 ⊢
 refine runSL (w12.setRow p7 (va .u8 x)) rfl (by rfl) (exec_storeRow 33 (.tmp 7) (.tmp 42) rfl p7 rfl (va .u8 x) rfl 33 (va .u8 z) hp7 (sz_eq (sz_api_Block _ hzl) (sz_api_Block _ hxl)) (sz_api_Block _ hxl) (va_ones .u8 _)) ?_
 replace hp1 := hp1.rowFar (show p7 ≠ p1 from (by omega)) (va .u8 x)
 replace hp2 := hp2.rowFar (show p7 ≠ p2 from (by omega)) (va .u8 x)
 replace hp3 := hp3.rowFar (show p7 ≠ p3 from (by omega)) (va .u8 x)
 replace hgm := hgm.rowFar (show p7 ≠ gm from (by omega)) (va .u8 x)
 replace hAW := hAW.rowFar nAW_p7 (va .u8 x)
 replace hp8 := hp8.rowFar (show p7 ≠ p8 from (by omega)) (va .u8 x)
 replace hp7 := hp7.row (va .u8 x)
 replace hW := below_setRow hW lw_p7 (va .u8 x)
 generalize w12.setRow p7 (va .u8 x) = w13 at *
 refine runSL (w13.setRow p8 (va .u8 t)) rfl (by rfl) (exec_storeRow 45 (.tmp 8) (.tmp 43) rfl p8 rfl (va .u8 t) rfl 45 (va .u8 z) hp8 (sz_eq (sz_api_Digest _ hzl) (sz_api_Digest _ htl)) (sz_api_Digest _ htl) (va_ones .u8 _)) ?_
 replace hp1 := hp1.rowFar (show p8 ≠ p1 from (by omega)) (va .u8 t)
 replace hp2 := hp2.rowFar (show p8 ≠ p2 from (by omega)) (va .u8 t)
 replace hp3 := hp3.rowFar (show p8 ≠ p3 from (by omega)) (va .u8 t)
 replace hgm := hgm.rowFar (show p8 ≠ gm from (by omega)) (va .u8 t)
 replace hAW := hAW.rowFar nAW_p8 (va .u8 t)
 replace hp7 := hp7.rowFar (show p8 ≠ p7 from (by omega)) (va .u8 t)
 replace hp8 := hp8.row (va .u8 t)
 replace hW := below_setRow hW lw_p8 (va .u8 t)
 generalize w13.setRow p8 (va .u8 t) = w14 at *
 refine runL 9 (.int .i64 0) rfl (by rfl) (by go_simp) ?_
 simp only [Ls]
 refine nilL ?_
 go_upto_region 7 with fail
 go_cut [10, 11] (fun v10 v11 wx => ∃ p10 p11 : Nat, v10 = .pointer (some ⟨p10, 0, none⟩) ∧ v11 = .pointer (some ⟨p11, 0, none⟩) ∧ B0 ≤ p10 ∧ B0 ≤ p11 ∧ p1 < p10 ∧ p2 < p10 ∧ p3 < p10 ∧ gm < p10 ∧ p7 < p10 ∧ p8 < p10 ∧ p1 < p11 ∧ p2 < p11 ∧ p3 < p11 ∧ gm < p11 ∧ p7 < p11 ∧ p8 < p11 ∧ Off AW p10 ∧ Off AW p11 ∧ p11 ≠ p10 ∧ Blk wx p10 22 (va .u8 s0) ∧ Blk wx p11 22 (va .u8 s1) ∧ Blk wx p1 26 (va .u8 (ke ++ km)) ∧ Blk wx p2 30 (noV 1 2) ∧ Blk wx p3 33 (va .u8 z) ∧ Blk wx gm 5 (va .u8 (msg 3 1 2 z)) ∧ Own wx B0 AW 48 cAW (msg 3 1 2 z) ∧ Blk wx p7 33 (va .u8 x) ∧ Blk wx p8 45 (va .u8 t) ∧ Below B0 w wx)
 case first =>
  refine wp_region_held_drew (S := fun wr => Blk wr p1 26 (va .u8 (ke ++ km)) ∧ Blk wr p2 30 (noV 1 2) ∧ Blk wr p3 33 (va .u8 z) ∧ Blk wr gm 5 (va .u8 (msg 3 1 2 z)) ∧ Own wr B0 AW 48 cAW (msg 3 1 2 z) ∧ Blk wr p7 33 (va .u8 x) ∧ Blk wr p8 45 (va .u8 t) ∧ Below B0 w wr) (by kernel_rfl) ⟨hp1.drew, hp2.drew, hp3.drew, hgm.drew, hAW.drew_, hp7.drew, hp8.drew, below_drewN hW 1⟩ (fun hH => ?_)
  clear hp1 hp2 hp3 hgm hAW hp7 hp8 hW
  obtain ⟨hp1, hp2, hp3, hgm, hAW, hp7, hp8, hW⟩ := hH
  generalize w14.drew = w15 at *
  refine takeH 11 0 45 (.pointer (some ⟨p1, 0, none⟩)) rfl rfl (by kernel_rfl) (by kernel_rfl) (by kernel_rfl) (fun _ _ _ h => h) (Or.inl ⟨by rfl, fun w _ => by go_simp⟩) ⟨hp1, hp2, hp3, hgm, hAW, hp7, hp8, hW⟩ ?_
  simp only [Ls]
  refine takeH 10 1 46 (.agg (va .u8 ke)) rfl rfl (by kernel_rfl) (by kernel_rfl) (by kernel_rfl) (fun _ _ _ h => h) (Or.inl ⟨by rfl, fun _ h => exec_mid 22 (.tmp 45) rfl p1 0 rfl (nv .u8 ke) _ (h.1.left) Tryd.underlying22 rfl (sz16D _ hel)⟩) ⟨hp1, hp2, hp3, hgm, hAW, hp7, hp8, hW⟩ ?_
  simp only [Ls]
  refine takeH 9 2 47 (.agg (noV 1 2)) rfl rfl (by kernel_rfl) (by kernel_rfl) (by kernel_rfl) (fun _ _ _ h => h) (Or.inl ⟨by rfl, fun _ h => exec_row 30 (.tmp 2) rfl p2 rfl 30 (noV 1 2) _ h.2.1 (by exact Tryd.underlying30) rfl (noV_sz _ _)⟩) ⟨hp1, hp2, hp3, hgm, hAW, hp7, hp8, hW⟩ ?_
  simp only [Ls]
  refine takeH 8 4 49 (.pointer (some ⟨p1, 0, none⟩)) rfl rfl (by kernel_rfl) (by kernel_rfl) (by kernel_rfl) (fun _ _ _ h => h) (Or.inl ⟨by rfl, fun w _ => by go_simp⟩) ⟨hp1, hp2, hp3, hgm, hAW, hp7, hp8, hW⟩ ?_
  simp only [Ls]
  refine takeH 7 5 50 (.agg (va .u8 ke)) rfl rfl (by kernel_rfl) (by kernel_rfl) (by kernel_rfl) (fun _ _ _ h => h) (Or.inl ⟨by rfl, fun _ h => exec_mid 22 (.tmp 49) rfl p1 0 rfl (nv .u8 ke) _ (h.1.left) Tryd.underlying22 rfl (sz16D _ hel)⟩) ⟨hp1, hp2, hp3, hgm, hAW, hp7, hp8, hW⟩ ?_
  simp only [Ls]
  refine takeH 6 6 51 (.agg (noV 1 2)) rfl rfl (by kernel_rfl) (by kernel_rfl) (by kernel_rfl) (fun _ _ _ h => h) (Or.inl ⟨by rfl, fun _ h => exec_row 30 (.tmp 2) rfl p2 rfl 30 (noV 1 2) _ h.2.1 (by exact Tryd.underlying30) rfl (noV_sz _ _)⟩) ⟨hp1, hp2, hp3, hgm, hAW, hp7, hp8, hW⟩ ?_
  simp only [Ls]
  refine wpAnyH_ready (by kernel_rfl) (by simp) (readyCons 5 3 48 rfl rfl (by rfl) (fun K hK => wp_callF 20 #[.agg (va .u8 ke), .agg (noV 1 2), .int .u32 0] (by go_simp) (sblock_to9 ke 1 2 0 s0 h0q.out hel heb (by decide) (by decide) _) ?_) (readyRun 5 8 10 (.pointer (some ⟨w15.heap.size, 0, none⟩)) (w15.alloc (.cells (va .u8 (List.replicate 16 0)) 22)) rfl rfl (by rfl) (exec_allocV 22 rfl _ (zv__16_uint8 _)) ⟨hp1.alloc _, hp2.alloc _, hp3.alloc _, hgm.alloc _, hAW.alloc _, hp7.alloc _, hp8.alloc _, hW.alloc (Nat.le_trans hB0 hW.size) _⟩ (fun _ => ?_) (readyRun 5 9 11 (.pointer (some ⟨w15.heap.size, 0, none⟩)) (w15.alloc (.cells (va .u8 (List.replicate 16 0)) 22)) rfl rfl (by rfl) (exec_allocV 22 rfl _ (zv__16_uint8 _)) ⟨hp1.alloc _, hp2.alloc _, hp3.alloc _, hgm.alloc _, hAW.alloc _, hp7.alloc _, hp8.alloc _, hW.alloc (Nat.le_trans hB0 hW.size) _⟩ (fun _ => ?_) AllReadyH.nil)))
  ·
   rintro e w16 ⟨rfl, bx⟩
   replace hp1 := blB hp1 bx
   replace hp2 := blB hp2 bx
   replace hp3 := blB hp3 bx
   replace hgm := hgm.below bx hgm.lt
   replace hAW := hAW.below bx
   replace hp7 := blB hp7 bx
   replace hp8 := blB hp8 bx
   replace hW := trB hW hB0 bx
   clear bx
   refine ⟨_, rfl, hK.out _ _ ⟨hp1, hp2, hp3, hgm, hAW, hp7, hp8, hW⟩ (fun _ => ?_)⟩
   clear hK K
   simp only [Ls]
   refine wpAnyH_ready (by kernel_rfl) (by simp) (readyCons 4 7 52 rfl rfl (by rfl) (fun K hK => wp_callF 20 #[.agg (va .u8 ke), .agg (noV 1 2), .int .u32 1] (by go_simp) (sblock_to9 ke 1 2 1 s1 h1q.out hel heb (by decide) (by decide) _) ?_) (readyRun 4 8 10 (.pointer (some ⟨w16.heap.size, 0, none⟩)) (w16.alloc (.cells (va .u8 (List.replicate 16 0)) 22)) rfl rfl (by rfl) (exec_allocV 22 rfl _ (zv__16_uint8 _)) ⟨hp1.alloc _, hp2.alloc _, hp3.alloc _, hgm.alloc _, hAW.alloc _, hp7.alloc _, hp8.alloc _, hW.alloc (Nat.le_trans hB0 hW.size) _⟩ (fun _ => ?_) (readyRun 4 9 11 (.pointer (some ⟨w16.heap.size, 0, none⟩)) (w16.alloc (.cells (va .u8 (List.replicate 16 0)) 22)) rfl rfl (by rfl) (exec_allocV 22 rfl _ (zv__16_uint8 _)) ⟨hp1.alloc _, hp2.alloc _, hp3.alloc _, hgm.alloc _, hAW.alloc _, hp7.alloc _, hp8.alloc _, hW.alloc (Nat.le_trans hB0 hW.size) _⟩ (fun _ => ?_) AllReadyH.nil)))
   ·
    rintro e w17 ⟨rfl, bx⟩
    replace hp1 := blB hp1 bx
    replace hp2 := blB hp2 bx
    replace hp3 := blB hp3 bx
    replace hgm := hgm.below bx hgm.lt
    replace hAW := hAW.below bx
    replace hp7 := blB hp7 bx
    replace hp8 := blB hp8 bx
    replace hW := trB hW hB0 bx
    clear bx
    refine ⟨_, rfl, hK.out _ _ ⟨hp1, hp2, hp3, hgm, hAW, hp7, hp8, hW⟩ (fun _ => ?_)⟩
    clear hK K
    simp only [Ls]
    refine wpAnyH_ready (by kernel_rfl) (by simp) (readyRun 3 8 10 (.pointer (some ⟨w17.heap.size, 0, none⟩)) (w17.alloc (.cells (va .u8 (List.replicate 16 0)) 22)) rfl rfl (by rfl) (exec_allocV 22 rfl _ (zv__16_uint8 _)) ⟨hp1.alloc _, hp2.alloc _, hp3.alloc _, hgm.alloc _, hAW.alloc _, hp7.alloc _, hp8.alloc _, hW.alloc (Nat.le_trans hB0 hW.size) _⟩ (fun _ => ?_) (readyRun 3 9 11 (.pointer (some ⟨w17.heap.size, 0, none⟩)) (w17.alloc (.cells (va .u8 (List.replicate 16 0)) 22)) rfl rfl (by rfl) (exec_allocV 22 rfl _ (zv__16_uint8 _)) ⟨hp1.alloc _, hp2.alloc _, hp3.alloc _, hgm.alloc _, hAW.alloc _, hp7.alloc _, hp8.alloc _, hW.alloc (Nat.le_trans hB0 hW.size) _⟩ (fun _ => ?_) AllReadyH.nil))
    ·
     simp only [Ls]
     have lp1_p10 := hp1.lt
     have lp2_p10 := hp2.lt
     have lp3_p10 := hp3.lt
     have lgm_p10 := hgm.lt
     have nAW_p10 := hAW.new_off
     have lp7_p10 := hp7.lt
     have lp8_p10 := hp8.lt
     have lw_p10 := Nat.le_trans hB0 hW.size
     have hp10 := Blk.new w17 22 (va .u8 (List.replicate 16 0))
     have bx := bAl w17 (.cells (va .u8 (List.replicate 16 0)) 22)
     replace hp1 := blB hp1 bx
     replace hp2 := blB hp2 bx
     replace hp3 := blB hp3 bx
     clear bx
     replace hgm := hgm.alloc (.cells (va .u8 (List.replicate 16 0)) 22)
     replace hAW := hAW.alloc (.cells (va .u8 (List.replicate 16 0)) 22)
     have bx := bAl w17 (.cells (va .u8 (List.replicate 16 0)) 22)
     replace hp7 := blB hp7 bx
     replace hp8 := blB hp8 bx
     replace hW := trB hW hB0 bx
     clear bx
     generalize w17.alloc (.cells (va .u8 (List.replicate 16 0)) 22) = w18 at *
     generalize w17.heap.size = p10 at hp10 lw_p10 lp1_p10 lp2_p10 lp3_p10 lgm_p10 nAW_p10 lp7_p10 lp8_p10 ⊢
     refine wpAnyH_ready (by kernel_rfl) (by simp) (readyRun 2 9 11 (.pointer (some ⟨w18.heap.size, 0, none⟩)) (w18.alloc (.cells (va .u8 (List.replicate 16 0)) 22)) rfl rfl (by rfl) (exec_allocV 22 rfl _ (zv__16_uint8 _)) ⟨hp1.alloc _, hp2.alloc _, hp3.alloc _, hgm.alloc _, hAW.alloc _, hp7.alloc _, hp8.alloc _, hW.alloc (Nat.le_trans hB0 hW.size) _⟩ (fun _ => ?_) AllReadyH.nil)
     simp only [Ls]
     have lp1_p11 := hp1.lt
     have lp2_p11 := hp2.lt
     have lp3_p11 := hp3.lt
     have lgm_p11 := hgm.lt
     have nAW_p11 := hAW.new_off
     have lp7_p11 := hp7.lt
     have lp8_p11 := hp8.lt
     have lp10_p11 := hp10.lt
     have lw_p11 := Nat.le_trans hB0 hW.size
     have hp11 := Blk.new w18 22 (va .u8 (List.replicate 16 0))
     have bx := bAl w18 (.cells (va .u8 (List.replicate 16 0)) 22)
     replace hp1 := blB hp1 bx
     replace hp2 := blB hp2 bx
     replace hp3 := blB hp3 bx
     clear bx
     replace hgm := hgm.alloc (.cells (va .u8 (List.replicate 16 0)) 22)
     replace hAW := hAW.alloc (.cells (va .u8 (List.replicate 16 0)) 22)
     have bx := bAl w18 (.cells (va .u8 (List.replicate 16 0)) 22)
     replace hp7 := blB hp7 bx
     replace hp8 := blB hp8 bx
     replace hp10 := blB hp10 bx
     replace hW := trB hW hB0 bx
     clear bx
     generalize w18.alloc (.cells (va .u8 (List.replicate 16 0)) 22) = w19 at *
     generalize w18.heap.size = p11 at hp11 lw_p11 lp1_p11 lp2_p11 lp3_p11 lgm_p11 nAW_p11 lp7_p11 lp8_p11 lp10_p11 ⊢
     refine wpAnyH_ready (by kernel_rfl) (by simp) (readyRunS 1 10 (w19.setRow p10 (va .u8 s0)) rfl rfl (by rfl) (exec_storeRow 22 (.tmp 10) (.tmp 48) rfl p10 rfl (va .u8 s0) rfl 22 (va .u8 (List.replicate 16 0)) hp10 (sz_eq (sz__16_uint8 _ (List.length_replicate)) (sz__16_uint8 _ h0l)) (sz__16_uint8 _ h0l) (va_ones .u8 _)) ⟨hp1.rowFar (show p10 ≠ p1 from (by omega)) _, hp2.rowFar (show p10 ≠ p2 from (by omega)) _, hp3.rowFar (show p10 ≠ p3 from (by omega)) _, hgm.rowFar (show p10 ≠ gm from (by omega)) _, hAW.rowFar nAW_p10 _, hp7.rowFar (show p10 ≠ p7 from (by omega)) _, hp8.rowFar (show p10 ≠ p8 from (by omega)) _, below_setRow hW lw_p10 _⟩ (fun _ => ?_) AllReadyH.nil)
     replace hp1 := hp1.rowFar (show p10 ≠ p1 from (by omega)) (va .u8 s0)
     replace hp2 := hp2.rowFar (show p10 ≠ p2 from (by omega)) (va .u8 s0)
     replace hp3 := hp3.rowFar (show p10 ≠ p3 from (by omega)) (va .u8 s0)
     replace hgm := hgm.rowFar (show p10 ≠ gm from (by omega)) (va .u8 s0)
     replace hAW := hAW.rowFar nAW_p10 (va .u8 s0)
     replace hp7 := hp7.rowFar (show p10 ≠ p7 from (by omega)) (va .u8 s0)
     replace hp8 := hp8.rowFar (show p10 ≠ p8 from (by omega)) (va .u8 s0)
     replace hp11 := hp11.rowFar (show p10 ≠ p11 from (by omega)) (va .u8 s0)
     replace hp10 := hp10.row (va .u8 s0)
     replace hW := below_setRow hW lw_p10 (va .u8 s0)
     generalize w19.setRow p10 (va .u8 s0) = w20 at *
     refine wpAnyH_ready (by kernel_rfl) (by simp) (readyRunS 0 11 (w20.setRow p11 (va .u8 s1)) rfl rfl (by rfl) (exec_storeRow 22 (.tmp 11) (.tmp 52) rfl p11 rfl (va .u8 s1) rfl 22 (va .u8 (List.replicate 16 0)) hp11 (sz_eq (sz__16_uint8 _ (List.length_replicate)) (sz__16_uint8 _ h1l)) (sz__16_uint8 _ h1l) (va_ones .u8 _)) ⟨hp1.rowFar (show p11 ≠ p1 from (by omega)) _, hp2.rowFar (show p11 ≠ p2 from (by omega)) _, hp3.rowFar (show p11 ≠ p3 from (by omega)) _, hgm.rowFar (show p11 ≠ gm from (by omega)) _, hAW.rowFar nAW_p11 _, hp7.rowFar (show p11 ≠ p7 from (by omega)) _, hp8.rowFar (show p11 ≠ p8 from (by omega)) _, below_setRow hW lw_p11 _⟩ (fun _ => ?_) AllReadyH.nil)
     replace hp1 := hp1.rowFar (show p11 ≠ p1 from (by omega)) (va .u8 s1)
     replace hp2 := hp2.rowFar (show p11 ≠ p2 from (by omega)) (va .u8 s1)
     replace hp3 := hp3.rowFar (show p11 ≠ p3 from (by omega)) (va .u8 s1)
     replace hgm := hgm.rowFar (show p11 ≠ gm from (by omega)) (va .u8 s1)
     replace hAW := hAW.rowFar nAW_p11 (va .u8 s1)
     replace hp7 := hp7.rowFar (show p11 ≠ p7 from (by omega)) (va .u8 s1)
     replace hp8 := hp8.rowFar (show p11 ≠ p8 from (by omega)) (va .u8 s1)
     replace hp10 := hp10.rowFar (show p11 ≠ p10 from (by omega)) (va .u8 s1)
     replace hp11 := hp11.row (va .u8 s1)
     replace hW := below_setRow hW lw_p11 (va .u8 s1)
     generalize w20.setRow p11 (va .u8 s1) = w21 at *
     refine wpAnyH_done (by kernel_rfl) ?_ _
     go_wp2
     go_meet
     exact ⟨p10, p11, rfl, rfl, lw_p10, lw_p11, lp1_p10, lp2_p10, lp3_p10, lgm_p10, lp7_p10, lp8_p10, lp1_p11, lp2_p11, lp3_p11, lgm_p11, lp7_p11, lp8_p11, nAW_p10, nAW_p11, by omega, hp10, hp11, hp1, hp2, hp3, hgm, hAW, hp7, hp8, hW⟩
    ·
     simp only [Ls]
     have lp1_p11 := hp1.lt
     have lp2_p11 := hp2.lt
     have lp3_p11 := hp3.lt
     have lgm_p11 := hgm.lt
     have nAW_p11 := hAW.new_off
     have lp7_p11 := hp7.lt
     have lp8_p11 := hp8.lt
     have lw_p11 := Nat.le_trans hB0 hW.size
     have hp11 := Blk.new w17 22 (va .u8 (List.replicate 16 0))
     have bx := bAl w17 (.cells (va .u8 (List.replicate 16 0)) 22)
     replace hp1 := blB hp1 bx
     replace hp2 := blB hp2 bx
     replace hp3 := blB hp3 bx
     clear bx
     replace hgm := hgm.alloc (.cells (va .u8 (List.replicate 16 0)) 22)
     replace hAW := hAW.alloc (.cells (va .u8 (List.replicate 16 0)) 22)
     have bx := bAl w17 (.cells (va .u8 (List.replicate 16 0)) 22)
     replace hp7 := blB hp7 bx
     replace hp8 := blB hp8 bx
     replace hW := trB hW hB0 bx
     clear bx
     generalize w17.alloc (.cells (va .u8 (List.replicate 16 0)) 22) = w22 at *
     generalize w17.heap.size = p11 at hp11 lw_p11 lp1_p11 lp2_p11 lp3_p11 lgm_p11 nAW_p11 lp7_p11 lp8_p11 ⊢
     refine wpAnyH_ready (by kernel_rfl) (by simp) (readyRun 2 8 10 (.pointer (some ⟨w22.heap.size, 0, none⟩)) (w22.alloc (.cells (va .u8 (List.replicate 16 0)) 22)) rfl rfl (by rfl) (exec_allocV 22 rfl _ (zv__16_uint8 _)) ⟨hp1.alloc _, hp2.alloc _, hp3.alloc _, hgm.alloc _, hAW.alloc _, hp7.alloc _, hp8.alloc _, hW.alloc (Nat.le_trans hB0 hW.size) _⟩ (fun _ => ?_) AllReadyH.nil)
     simp only [Ls]
     have lp1_p10 := hp1.lt
     have lp2_p10 := hp2.lt
     have lp3_p10 := hp3.lt
     have lgm_p10 := hgm.lt
     have nAW_p10 := hAW.new_off
     have lp7_p10 := hp7.lt
     have lp8_p10 := hp8.lt
     have lp11_p10 := hp11.lt
     have lw_p10 := Nat.le_trans hB0 hW.size
     have hp10 := Blk.new w22 22 (va .u8 (List.replicate 16 0))
     have bx := bAl w22 (.cells (va .u8 (List.replicate 16 0)) 22)
     replace hp1 := blB hp1 bx
     replace hp2 := blB hp2 bx
     replace hp3 := blB hp3 bx
     clear bx
     replace hgm := hgm.alloc (.cells (va .u8 (List.replicate 16 0)) 22)
     replace hAW := hAW.alloc (.cells (va .u8 (List.replicate 16 0)) 22)
     have bx := bAl w22 (.cells (va .u8 (List.replicate 16 0)) 22)
     replace hp7 := blB hp7 bx
     replace hp8 := blB hp8 bx
     replace hp11 := blB hp11 bx
     replace hW := trB hW hB0 bx
     clear bx
     generalize w22.alloc (.cells (va .u8 (List.replicate 16 0)) 22) = w23 at *
     generalize w22.heap.size = p10 at hp10 lw_p10 lp1_p10 lp2_p10 lp3_p10 lgm_p10 nAW_p10 lp7_p10 lp8_p10 lp11_p10 ⊢
     refine wpAnyH_ready (by kernel_rfl) (by simp) (readyRunS 1 10 (w23.setRow p10 (va .u8 s0)) rfl rfl (by rfl) (exec_storeRow 22 (.tmp 10) (.tmp 48) rfl p10 rfl (va .u8 s0) rfl 22 (va .u8 (List.replicate 16 0)) hp10 (sz_eq (sz__16_uint8 _ (List.length_replicate)) (sz__16_uint8 _ h0l)) (sz__16_uint8 _ h0l) (va_ones .u8 _)) ⟨hp1.rowFar (show p10 ≠ p1 from (by omega)) _, hp2.rowFar (show p10 ≠ p2 from (by omega)) _, hp3.rowFar (show p10 ≠ p3 from (by omega)) _, hgm.rowFar (show p10 ≠ gm from (by omega)) _, hAW.rowFar nAW_p10 _, hp7.rowFar (show p10 ≠ p7 from (by omega)) _, hp8.rowFar (show p10 ≠ p8 from (by omega)) _, below_setRow hW lw_p10 _⟩ (fun _ => ?_) AllReadyH.nil)
     replace hp1 := hp1.rowFar (show p10 ≠ p1 from (by omega)) (va .u8 s0)
     replace hp2 := hp2.rowFar (show p10 ≠ p2 from (by omega)) (va .u8 s0)
     replace hp3 := hp3.rowFar (show p10 ≠ p3 from (by omega)) (va .u8 s0)
     replace hgm := hgm.rowFar (show p10 ≠ gm from (by omega)) (va .u8 s0)
     replace hAW := hAW.rowFar nAW_p10 (va .u8 s0)
     replace hp7 := hp7.rowFar (show p10 ≠ p7 from (by omega)) (va .u8 s0)
     replace hp8 := hp8.rowFar (show p10 ≠ p8 from (by omega)) (va .u8 s0)
     replace hp11 := hp11.rowFar (show p10 ≠ p11 from (by omega)) (va .u8 s0)
     replace hp10 := hp10.row (va .u8 s0)
     replace hW := below_setRow hW lw_p10 (va .u8 s0)
     generalize w23.setRow p10 (va .u8 s0) = w24 at *
     refine wpAnyH_ready (by kernel_rfl) (by simp) (readyRunS 0 11 (w24.setRow p11 (va .u8 s1)) rfl rfl (by rfl) (exec_storeRow 22 (.tmp 11) (.tmp 52) rfl p11 rfl (va .u8 s1) rfl 22 (va .u8 (List.replicate 16 0)) hp11 (sz_eq (sz__16_uint8 _ (List.length_replicate)) (sz__16_uint8 _ h1l)) (sz__16_uint8 _ h1l) (va_ones .u8 _)) ⟨hp1.rowFar (show p11 ≠ p1 from (by omega)) _, hp2.rowFar (show p11 ≠ p2 from (by omega)) _, hp3.rowFar (show p11 ≠ p3 from (by omega)) _, hgm.rowFar (show p11 ≠ gm from (by omega)) _, hAW.rowFar nAW_p11 _, hp7.rowFar (show p11 ≠ p7 from (by omega)) _, hp8.rowFar (show p11 ≠ p8 from (by omega)) _, below_setRow hW lw_p11 _⟩ (fun _ => ?_) AllReadyH.nil)
     replace hp1 := hp1.rowFar (show p11 ≠ p1 from (by omega)) (va .u8 s1)
     replace hp2 := hp2.rowFar (show p11 ≠ p2 from (by omega)) (va .u8 s1)
     replace hp3 := hp3.rowFar (show p11 ≠ p3 from (by omega)) (va .u8 s1)
     replace hgm := hgm.rowFar (show p11 ≠ gm from (by omega)) (va .u8 s1)
     replace hAW := hAW.rowFar nAW_p11 (va .u8 s1)
     replace hp7 := hp7.rowFar (show p11 ≠ p7 from (by omega)) (va .u8 s1)
     replace hp8 := hp8.rowFar (show p11 ≠ p8 from (by omega)) (va .u8 s1)
     replace hp10 := hp10.rowFar (show p11 ≠ p10 from (by omega)) (va .u8 s1)
     replace hp11 := hp11.row (va .u8 s1)
     replace hW := below_setRow hW lw_p11 (va .u8 s1)
     generalize w24.setRow p11 (va .u8 s1) = w25 at *
     refine wpAnyH_done (by kernel_rfl) ?_ _
     go_wp2
     go_meet
     exact ⟨p10, p11, rfl, rfl, lw_p10, lw_p11, lp1_p10, lp2_p10, lp3_p10, lgm_p10, lp7_p10, lp8_p10, lp1_p11, lp2_p11, lp3_p11, lgm_p11, lp7_p11, lp8_p11, nAW_p10, nAW_p11, by omega, hp10, hp11, hp1, hp2, hp3, hgm, hAW, hp7, hp8, hW⟩
   ·
    simp only [Ls]
    have lp1_p10 := hp1.lt
    have lp2_p10 := hp2.lt
    have lp3_p10 := hp3.lt
    have lgm_p10 := hgm.lt
    have nAW_p10 := hAW.new_off
    have lp7_p10 := hp7.lt
    have lp8_p10 := hp8.lt
    have lw_p10 := Nat.le_trans hB0 hW.size
    have hp10 := Blk.new w16 22 (va .u8 (List.replicate 16 0))
    have bx := bAl w16 (.cells (va .u8 (List.replicate 16 0)) 22)
    replace hp1 := blB hp1 bx
    replace hp2 := blB hp2 bx
    replace hp3 := blB hp3 bx
    clear bx
    replace hgm := hgm.alloc (.cells (va .u8 (List.replicate 16 0)) 22)
    replace hAW := hAW.alloc (.cells (va .u8 (List.replicate 16 0)) 22)
    have bx := bAl w16 (.cells (va .u8 (List.replicate 16 0)) 22)
    replace hp7 := blB hp7 bx
    replace hp8 := blB hp8 bx
    replace hW := trB hW hB0 bx
    clear bx
    generalize w16.alloc (.cells (va .u8 (List.replicate 16 0)) 22) = w26 at *
    generalize w16.heap.size = p10 at hp10 lw_p10 lp1_p10 lp2_p10 lp3_p10 lgm_p10 nAW_p10 lp7_p10 lp8_p10 ⊢
    refine wpAnyH_ready (by kernel_rfl) (by simp) (readyCons 3 7 52 rfl rfl (by rfl) (fun K hK => wp_callF 20 #[.agg (va .u8 ke), .agg (noV 1 2), .int .u32 1] (by go_simp) (sblock_to9 ke 1 2 1 s1 h1q.out hel heb (by decide) (by decide) _) ?_) (readyRun 3 9 11 (.pointer (some ⟨w26.heap.size, 0, none⟩)) (w26.alloc (.cells (va .u8 (List.replicate 16 0)) 22)) rfl rfl (by rfl) (exec_allocV 22 rfl _ (zv__16_uint8 _)) ⟨hp1.alloc _, hp2.alloc _, hp3.alloc _, hgm.alloc _, hAW.alloc _, hp7.alloc _, hp8.alloc _, hW.alloc (Nat.le_trans hB0 hW.size) _⟩ (fun _ => ?_) AllReadyH.nil))
    ·
     rintro e w27 ⟨rfl, bx⟩
     replace hp1 := blB hp1 bx
     replace hp2 := blB hp2 bx
     replace hp3 := blB hp3 bx
     replace hgm := hgm.below bx hgm.lt
     replace hAW := hAW.below bx
     replace hp7 := blB hp7 bx
     replace hp8 := blB hp8 bx
     replace hp10 := blB hp10 bx
     replace hW := trB hW hB0 bx
     clear bx
     refine ⟨_, rfl, hK.out _ _ ⟨hp1, hp2, hp3, hgm, hAW, hp7, hp8, hW⟩ (fun _ => ?_)⟩
     clear hK K
     simp only [Ls]
     refine wpAnyH_ready (by kernel_rfl) (by simp) (readyRun 2 9 11 (.pointer (some ⟨w27.heap.size, 0, none⟩)) (w27.alloc (.cells (va .u8 (List.replicate 16 0)) 22)) rfl rfl (by rfl) (exec_allocV 22 rfl _ (zv__16_uint8 _)) ⟨hp1.alloc _, hp2.alloc _, hp3.alloc _, hgm.alloc _, hAW.alloc _, hp7.alloc _, hp8.alloc _, hW.alloc (Nat.le_trans hB0 hW.size) _⟩ (fun _ => ?_) AllReadyH.nil)
     simp only [Ls]
     have lp1_p11 := hp1.lt
     have lp2_p11 := hp2.lt
     have lp3_p11 := hp3.lt
     have lgm_p11 := hgm.lt
     have nAW_p11 := hAW.new_off
     have lp7_p11 := hp7.lt
     have lp8_p11 := hp8.lt
     have lp10_p11 := hp10.lt
     have lw_p11 := Nat.le_trans hB0 hW.size
     have hp11 := Blk.new w27 22 (va .u8 (List.replicate 16 0))
     have bx := bAl w27 (.cells (va .u8 (List.replicate 16 0)) 22)
     replace hp1 := blB hp1 bx
     replace hp2 := blB hp2 bx
     replace hp3 := blB hp3 bx
     clear bx
     replace hgm := hgm.alloc (.cells (va .u8 (List.replicate 16 0)) 22)
     replace hAW := hAW.alloc (.cells (va .u8 (List.replicate 16 0)) 22)
     have bx := bAl w27 (.cells (va .u8 (List.replicate 16 0)) 22)
     replace hp7 := blB hp7 bx
     replace hp8 := blB hp8 bx
     replace hp10 := blB hp10 bx
     replace hW := trB hW hB0 bx
     clear bx
     generalize w27.alloc (.cells (va .u8 (List.replicate 16 0)) 22) = w28 at *
     generalize w27.heap.size = p11 at hp11 lw_p11 lp1_p11 lp2_p11 lp3_p11 lgm_p11 nAW_p11 lp7_p11 lp8_p11 lp10_p11 ⊢
     refine wpAnyH_ready (by kernel_rfl) (by simp) (readyRunS 1 10 (w28.setRow p10 (va .u8 s0)) rfl rfl (by rfl) (exec_storeRow 22 (.tmp 10) (.tmp 48) rfl p10 rfl (va .u8 s0) rfl 22 (va .u8 (List.replicate 16 0)) hp10 (sz_eq (sz__16_uint8 _ (List.length_replicate)) (sz__16_uint8 _ h0l)) (sz__16_uint8 _ h0l) (va_ones .u8 _)) ⟨hp1.rowFar (show p10 ≠ p1 from (by omega)) _, hp2.rowFar (show p10 ≠ p2 from (by omega)) _, hp3.rowFar (show p10 ≠ p3 from (by omega)) _, hgm.rowFar (show p10 ≠ gm from (by omega)) _, hAW.rowFar nAW_p10 _, hp7.rowFar (show p10 ≠ p7 from (by omega)) _, hp8.rowFar (show p10 ≠ p8 from (by omega)) _, below_setRow hW lw_p10 _⟩ (fun _ => ?_) AllReadyH.nil)
     replace hp1 := hp1.rowFar (show p10 ≠ p1 from (by omega)) (va .u8 s0)
     replace hp2 := hp2.rowFar (show p10 ≠ p2 from (by omega)) (va .u8 s0)
     replace hp3 := hp3.rowFar (show p10 ≠ p3 from (by omega)) (va .u8 s0)
     replace hgm := hgm.rowFar (show p10 ≠ gm from (by omega)) (va .u8 s0)
     replace hAW := hAW.rowFar nAW_p10 (va .u8 s0)
     replace hp7 := hp7.rowFar (show p10 ≠ p7 from (by omega)) (va .u8 s0)
     replace hp8 := hp8.rowFar (show p10 ≠ p8 from (by omega)) (va .u8 s0)
     replace hp11 := hp11.rowFar (show p10 ≠ p11 from (by omega)) (va .u8 s0)
     replace hp10 := hp10.row (va .u8 s0)
     replace hW := below_setRow hW lw_p10 (va .u8 s0)
     generalize w28.setRow p10 (va .u8 s0) = w29 at *
     refine wpAnyH_ready (by kernel_rfl) (by simp) (readyRunS 0 11 (w29.setRow p11 (va .u8 s1)) rfl rfl (by rfl) (exec_storeRow 22 (.tmp 11) (.tmp 52) rfl p11 rfl (va .u8 s1) rfl 22 (va .u8 (List.replicate 16 0)) hp11 (sz_eq (sz__16_uint8 _ (List.length_replicate)) (sz__16_uint8 _ h1l)) (sz__16_uint8 _ h1l) (va_ones .u8 _)) ⟨hp1.rowFar (show p11 ≠ p1 from (by omega)) _, hp2.rowFar (show p11 ≠ p2 from (by omega)) _, hp3.rowFar (show p11 ≠ p3 from (by omega)) _, hgm.rowFar (show p11 ≠ gm from (by omega)) _, hAW.rowFar nAW_p11 _, hp7.rowFar (show p11 ≠ p7 from (by omega)) _, hp8.rowFar (show p11 ≠ p8 from (by omega)) _, below_setRow hW lw_p11 _⟩ (fun _ => ?_) AllReadyH.nil)
     replace hp1 := hp1.rowFar (show p11 ≠ p1 from (by omega)) (va .u8 s1)
     replace hp2 := hp2.rowFar (show p11 ≠ p2 from (by omega)) (va .u8 s1)
     replace hp3 := hp3.rowFar (show p11 ≠ p3 from (by omega)) (va .u8 s1)
     replace hgm := hgm.rowFar (show p11 ≠ gm from (by omega)) (va .u8 s1)
     replace hAW := hAW.rowFar nAW_p11 (va .u8 s1)
     replace hp7 := hp7.rowFar (show p11 ≠ p7 from (by omega)) (va .u8 s1)
     replace hp8 := hp8.rowFar (show p11 ≠ p8 from (by omega)) (va .u8 s1)
     replace hp10 := hp10.rowFar (show p11 ≠ p10 from (by omega)) (va .u8 s1)
     replace hp11 := hp11.row (va .u8 s1)
     replace hW := below_setRow hW lw_p11 (va .u8 s1)
     generalize w29.setRow p11 (va .u8 s1) = w30 at *
     refine wpAnyH_done (by kernel_rfl) ?_ _
     go_wp2
     go_meet
     exact ⟨p10, p11, rfl, rfl, lw_p10, lw_p11, lp1_p10, lp2_p10, lp3_p10, lgm_p10, lp7_p10, lp8_p10, lp1_p11, lp2_p11, lp3_p11, lgm_p11, lp7_p11, lp8_p11, nAW_p10, nAW_p11, by omega, hp10, hp11, hp1, hp2, hp3, hgm, hAW, hp7, hp8, hW⟩
    ·
     simp only [Ls]
     have lp1_p11 := hp1.lt
     have lp2_p11 := hp2.lt
     have lp3_p11 := hp3.lt
     have lgm_p11 := hgm.lt
     have nAW_p11 := hAW.new_off
     have lp7_p11 := hp7.lt
     have lp8_p11 := hp8.lt
     have lp10_p11 := hp10.lt
     have lw_p11 := Nat.le_trans hB0 hW.size
     have hp11 := Blk.new w26 22 (va .u8 (List.replicate 16 0))
     have bx := bAl w26 (.cells (va .u8 (List.replicate 16 0)) 22)
     replace hp1 := blB hp1 bx
     replace hp2 := blB hp2 bx
     replace hp3 := blB hp3 bx
     clear bx
     replace hgm := hgm.alloc (.cells (va .u8 (List.replicate 16 0)) 22)
     replace hAW := hAW.alloc (.cells (va .u8 (List.replicate 16 0)) 22)
     have bx := bAl w26 (.cells (va .u8 (List.replicate 16 0)) 22)
     replace hp7 := blB hp7 bx
     replace hp8 := blB hp8 bx
     replace hp10 := blB hp10 bx
     replace hW := trB hW hB0 bx
     clear bx
     generalize w26.alloc (.cells (va .u8 (List.replicate 16 0)) 22) = w31 at *
     generalize w26.heap.size = p11 at hp11 lw_p11 lp1_p11 lp2_p11 lp3_p11 lgm_p11 nAW_p11 lp7_p11 lp8_p11 lp10_p11 ⊢
     refine wpAnyH_ready (by kernel_rfl) (by simp) (readyCons 2 7 52 rfl rfl (by rfl) (fun K hK => wp_callF 20 #[.agg (va .u8 ke), .agg (noV 1 2), .int .u32 1] (by go_simp) (sblock_to9 ke 1 2 1 s1 h1q.out hel heb (by decide) (by decide) _) ?_) AllReadyH.nil)
     rintro e w32 ⟨rfl, bx⟩
     replace hp1 := blB hp1 bx
     replace hp2 := blB hp2 bx
     replace hp3 := blB hp3 bx
     replace hgm := hgm.below bx hgm.lt
     replace hAW := hAW.below bx
     replace hp7 := blB hp7 bx
     replace hp8 := blB hp8 bx
     replace hp10 := blB hp10 bx
     replace hp11 := blB hp11 bx
     replace hW := trB hW hB0 bx
     clear bx
     refine ⟨_, rfl, hK.out _ _ ⟨hp1, hp2, hp3, hgm, hAW, hp7, hp8, hW⟩ (fun _ => ?_)⟩
     clear hK K
     simp only [Ls]
     refine wpAnyH_ready (by kernel_rfl) (by simp) (readyRunS 1 10 (w32.setRow p10 (va .u8 s0)) rfl rfl (by rfl) (exec_storeRow 22 (.tmp 10) (.tmp 48) rfl p10 rfl (va .u8 s0) rfl 22 (va .u8 (List.replicate 16 0)) hp10 (sz_eq (sz__16_uint8 _ (List.length_replicate)) (sz__16_uint8 _ h0l)) (sz__16_uint8 _ h0l) (va_ones .u8 _)) ⟨hp1.rowFar (show p10 ≠ p1 from (by omega)) _, hp2.rowFar (show p10 ≠ p2 from (by omega)) _, hp3.rowFar (show p10 ≠ p3 from (by omega)) _, hgm.rowFar (show p10 ≠ gm from (by omega)) _, hAW.rowFar nAW_p10 _, hp7.rowFar (show p10 ≠ p7 from (by omega)) _, hp8.rowFar (show p10 ≠ p8 from (by omega)) _, below_setRow hW lw_p10 _⟩ (fun _ => ?_) AllReadyH.nil)
     replace hp1 := hp1.rowFar (show p10 ≠ p1 from (by omega)) (va .u8 s0)
     replace hp2 := hp2.rowFar (show p10 ≠ p2 from (by omega)) (va .u8 s0)
     replace hp3 := hp3.rowFar (show p10 ≠ p3 from (by omega)) (va .u8 s0)
     replace hgm := hgm.rowFar (show p10 ≠ gm from (by omega)) (va .u8 s0)
     replace hAW := hAW.rowFar nAW_p10 (va .u8 s0)
     replace hp7 := hp7.rowFar (show p10 ≠ p7 from (by omega)) (va .u8 s0)
     replace hp8 := hp8.rowFar (show p10 ≠ p8 from (by omega)) (va .u8 s0)
     replace hp11 := hp11.rowFar (show p10 ≠ p11 from (by omega)) (va .u8 s0)
     replace hp10 := hp10.row (va .u8 s0)
     replace hW := below_setRow hW lw_p10 (va .u8 s0)
     generalize w32.setRow p10 (va .u8 s0) = w33 at *
     refine wpAnyH_ready (by kernel_rfl) (by simp) (readyRunS 0 11 (w33.setRow p11 (va .u8 s1)) rfl rfl (by rfl) (exec_storeRow 22 (.tmp 11) (.tmp 52) rfl p11 rfl (va .u8 s1) rfl 22 (va .u8 (List.replicate 16 0)) hp11 (sz_eq (sz__16_uint8 _ (List.length_replicate)) (sz__16_uint8 _ h1l)) (sz__16_uint8 _ h1l) (va_ones .u8 _)) ⟨hp1.rowFar (show p11 ≠ p1 from (by omega)) _, hp2.rowFar (show p11 ≠ p2 from (by omega)) _, hp3.rowFar (show p11 ≠ p3 from (by omega)) _, hgm.rowFar (show p11 ≠ gm from (by omega)) _, hAW.rowFar nAW_p11 _, hp7.rowFar (show p11 ≠ p7 from (by omega)) _, hp8.rowFar (show p11 ≠ p8 from (by omega)) _, below_setRow hW lw_p11 _⟩ (fun _ => ?_) AllReadyH.nil)
     replace hp1 := hp1.rowFar (show p11 ≠ p1 from (by omega)) (va .u8 s1)
     replace hp2 := hp2.rowFar (show p11 ≠ p2 from (by omega)) (va .u8 s1)
     replace hp3 := hp3.rowFar (show p11 ≠ p3 from (by omega)) (va .u8 s1)
     replace hgm := hgm.rowFar (show p11 ≠ gm from (by omega)) (va .u8 s1)
     replace hAW := hAW.rowFar nAW_p11 (va .u8 s1)
     replace hp7 := hp7.rowFar (show p11 ≠ p7 from (by omega)) (va .u8 s1)
     replace hp8 := hp8.rowFar (show p11 ≠ p8 from (by omega)) (va .u8 s1)
     replace hp10 := hp10.rowFar (show p11 ≠ p10 from (by omega)) (va .u8 s1)
     replace hp11 := hp11.row (va .u8 s1)
     replace hW := below_setRow hW lw_p11 (va .u8 s1)
     generalize w33.setRow p11 (va .u8 s1) = w34 at *
     refine wpAnyH_done (by kernel_rfl) ?_ _
     go_wp2
     go_meet
     exact ⟨p10, p11, rfl, rfl, lw_p10, lw_p11, lp1_p10, lp2_p10, lp3_p10, lgm_p10, lp7_p10, lp8_p10, lp1_p11, lp2_p11, lp3_p11, lgm_p11, lp7_p11, lp8_p11, nAW_p10, nAW_p11, by omega, hp10, hp11, hp1, hp2, hp3, hgm, hAW, hp7, hp8, hW⟩
   ·
    simp only [Ls]
    have lp1_p11 := hp1.lt
    have lp2_p11 := hp2.lt
    have lp3_p11 := hp3.lt
    have lgm_p11 := hgm.lt
    have nAW_p11 := hAW.new_off
    have lp7_p11 := hp7.lt
    have lp8_p11 := hp8.lt
    have lw_p11 := Nat.le_trans hB0 hW.size
    have hp11 := Blk.new w16 22 (va .u8 (List.replicate 16 0))
    have bx := bAl w16 (.cells (va .u8 (List.replicate 16 0)) 22)
    replace hp1 := blB hp1 bx
    replace hp2 := blB hp2 bx
    replace hp3 := blB hp3 bx
    clear bx
    replace hgm := hgm.alloc (.cells (va .u8 (List.replicate 16 0)) 22)
    replace hAW := hAW.alloc (.cells (va .u8 (List.replicate 16 0)) 22)
    have bx := bAl w16 (.cells (va .u8 (List.replicate 16 0)) 22)
    replace hp7 := blB hp7 bx
    replace hp8 := blB hp8 bx
    replace hW := trB hW hB0 bx
    clear bx
    generalize w16.alloc (.cells (va .u8 (List.replicate 16 0)) 22) = w35 at *
    generalize w16.heap.size = p11 at hp11 lw_p11 lp1_p11 lp2_p11 lp3_p11 lgm_p11 nAW_p11 lp7_p11 lp8_p11 ⊢
    refine wpAnyH_ready (by kernel_rfl) (by simp) (readyCons 3 7 52 rfl rfl (by rfl) (fun K hK => wp_callF 20 #[.agg (va .u8 ke), .agg (noV 1 2), .int .u32 1] (by go_simp) (sblock_to9 ke 1 2 1 s1 h1q.out hel heb (by decide) (by decide) _) ?_) (readyRun 3 8 10 (.pointer (some ⟨w35.heap.size, 0, none⟩)) (w35.alloc (.cells (va .u8 (List.replicate 16 0)) 22)) rfl rfl (by rfl) (exec_allocV 22 rfl _ (zv__16_uint8 _)) ⟨hp1.alloc _, hp2.alloc _, hp3.alloc _, hgm.alloc _, hAW.alloc _, hp7.alloc _, hp8.alloc _, hW.alloc (Nat.le_trans hB0 hW.size) _⟩ (fun _ => ?_) AllReadyH.nil))
    ·
     rintro e w36 ⟨rfl, bx⟩
     replace hp1 := blB hp1 bx
     replace hp2 := blB hp2 bx
     replace hp3 := blB hp3 bx
     replace hgm := hgm.below bx hgm.lt
     replace hAW := hAW.below bx
     replace hp7 := blB hp7 bx
     replace hp8 := blB hp8 bx
     replace hp11 := blB hp11 bx
     replace hW := trB hW hB0 bx
     clear bx
     refine ⟨_, rfl, hK.out _ _ ⟨hp1, hp2, hp3, hgm, hAW, hp7, hp8, hW⟩ (fun _ => ?_)⟩
     clear hK K
     simp only [Ls]
     refine wpAnyH_ready (by kernel_rfl) (by simp) (readyRun 2 8 10 (.pointer (some ⟨w36.heap.size, 0, none⟩)) (w36.alloc (.cells (va .u8 (List.replicate 16 0)) 22)) rfl rfl (by rfl) (exec_allocV 22 rfl _ (zv__16_uint8 _)) ⟨hp1.alloc _, hp2.alloc _, hp3.alloc _, hgm.alloc _, hAW.alloc _, hp7.alloc _, hp8.alloc _, hW.alloc (Nat.le_trans hB0 hW.size) _⟩ (fun _ => ?_) AllReadyH.nil)
     simp only [Ls]
     have lp1_p10 := hp1.lt
     have lp2_p10 := hp2.lt
     have lp3_p10 := hp3.lt
     have lgm_p10 := hgm.lt
     have nAW_p10 := hAW.new_off
     have lp7_p10 := hp7.lt
     have lp8_p10 := hp8.lt
     have lp11_p10 := hp11.lt
     have lw_p10 := Nat.le_trans hB0 hW.size
     have hp10 := Blk.new w36 22 (va .u8 (List.replicate 16 0))
     have bx := bAl w36 (.cells (va .u8 (List.replicate 16 0)) 22)
     replace hp1 := blB hp1 bx
     replace hp2 := blB hp2 bx
     replace hp3 := blB hp3 bx
     clear bx
     replace hgm := hgm.alloc (.cells (va .u8 (List.replicate 16 0)) 22)
     replace hAW := hAW.alloc (.cells (va .u8 (List.replicate 16 0)) 22)
     have bx := bAl w36 (.cells (va .u8 (List.replicate 16 0)) 22)
     replace hp7 := blB hp7 bx
     replace hp8 := blB hp8 bx
     replace hp11 := blB hp11 bx
     replace hW := trB hW hB0 bx
     clear bx
     generalize w36.alloc (.cells (va .u8 (List.replicate 16 0)) 22) = w37 at *
     generalize w36.heap.size = p10 at hp10 lw_p10 lp1_p10 lp2_p10 lp3_p10 lgm_p10 nAW_p10 lp7_p10 lp8_p10 lp11_p10 ⊢
     refine wpAnyH_ready (by kernel_rfl) (by simp) (readyRunS 1 10 (w37.setRow p10 (va .u8 s0)) rfl rfl (by rfl) (exec_storeRow 22 (.tmp 10) (.tmp 48) rfl p10 rfl (va .u8 s0) rfl 22 (va .u8 (List.replicate 16 0)) hp10 (sz_eq (sz__16_uint8 _ (List.length_replicate)) (sz__16_uint8 _ h0l)) (sz__16_uint8 _ h0l) (va_ones .u8 _)) ⟨hp1.rowFar (show p10 ≠ p1 from (by omega)) _, hp2.rowFar (show p10 ≠ p2 from (by omega)) _, hp3.rowFar (show p10 ≠ p3 from (by omega)) _, hgm.rowFar (show p10 ≠ gm from (by omega)) _, hAW.rowFar nAW_p10 _, hp7.rowFar (show p10 ≠ p7 from (by omega)) _, hp8.rowFar (show p10 ≠ p8 from (by omega)) _, below_setRow hW lw_p10 _⟩ (fun _ => ?_) AllReadyH.nil)
     replace hp1 := hp1.rowFar (show p10 ≠ p1 from (by omega)) (va .u8 s0)
     replace hp2 := hp2.rowFar (show p10 ≠ p2 from (by omega)) (va .u8 s0)
     replace hp3 := hp3.rowFar (show p10 ≠ p3 from (by omega)) (va .u8 s0)
     replace hgm := hgm.rowFar (show p10 ≠ gm from (by omega)) (va .u8 s0)
     replace hAW := hAW.rowFar nAW_p10 (va .u8 s0)
     replace hp7 := hp7.rowFar (show p10 ≠ p7 from (by omega)) (va .u8 s0)
     replace hp8 := hp8.rowFar (show p10 ≠ p8 from (by omega)) (va .u8 s0)
     replace hp11 := hp11.rowFar (show p10 ≠ p11 from (by omega)) (va .u8 s0)
     replace hp10 := hp10.row (va .u8 s0)
     replace hW := below_setRow hW lw_p10 (va .u8 s0)
     generalize w37.setRow p10 (va .u8 s0) = w38 at *
     refine wpAnyH_ready (by kernel_rfl) (by simp) (readyRunS 0 11 (w38.setRow p11 (va .u8 s1)) rfl rfl (by rfl) (exec_storeRow 22 (.tmp 11) (.tmp 52) rfl p11 rfl (va .u8 s1) rfl 22 (va .u8 (List.replicate 16 0)) hp11 (sz_eq (sz__16_uint8 _ (List.length_replicate)) (sz__16_uint8 _ h1l)) (sz__16_uint8 _ h1l) (va_ones .u8 _)) ⟨hp1.rowFar (show p11 ≠ p1 from (by omega)) _, hp2.rowFar (show p11 ≠ p2 from (by omega)) _, hp3.rowFar (show p11 ≠ p3 from (by omega)) _, hgm.rowFar (show p11 ≠ gm from (by omega)) _, hAW.rowFar nAW_p11 _, hp7.rowFar (show p11 ≠ p7 from (by omega)) _, hp8.rowFar (show p11 ≠ p8 from (by omega)) _, below_setRow hW lw_p11 _⟩ (fun _ => ?_) AllReadyH.nil)
     replace hp1 := hp1.rowFar (show p11 ≠ p1 from (by omega)) (va .u8 s1)
     replace hp2 := hp2.rowFar (show p11 ≠ p2 from (by omega)) (va .u8 s1)
     replace hp3 := hp3.rowFar (show p11 ≠ p3 from (by omega)) (va .u8 s1)
     replace hgm := hgm.rowFar (show p11 ≠ gm from (by omega)) (va .u8 s1)
     replace hAW := hAW.rowFar nAW_p11 (va .u8 s1)
     replace hp7 := hp7.rowFar (show p11 ≠ p7 from (by omega)) (va .u8 s1)
     replace hp8 := hp8.rowFar (show p11 ≠ p8 from (by omega)) (va .u8 s1)
     replace hp10 := hp10.rowFar (show p11 ≠ p10 from (by omega)) (va .u8 s1)
     replace hp11 := hp11.row (va .u8 s1)
     replace hW := below_setRow hW lw_p11 (va .u8 s1)
     generalize w38.setRow p11 (va .u8 s1) = w39 at *
     refine wpAnyH_done (by kernel_rfl) ?_ _
     go_wp2
     go_meet
     exact ⟨p10, p11, rfl, rfl, lw_p10, lw_p11, lp1_p10, lp2_p10, lp3_p10, lgm_p10, lp7_p10, lp8_p10, lp1_p11, lp2_p11, lp3_p11, lgm_p11, lp7_p11, lp8_p11, nAW_p10, nAW_p11, by omega, hp10, hp11, hp1, hp2, hp3, hgm, hAW, hp7, hp8, hW⟩
    ·
     simp only [Ls]
     have lp1_p10 := hp1.lt
     have lp2_p10 := hp2.lt
     have lp3_p10 := hp3.lt
     have lgm_p10 := hgm.lt
     have nAW_p10 := hAW.new_off
     have lp7_p10 := hp7.lt
     have lp8_p10 := hp8.lt
     have lp11_p10 := hp11.lt
     have lw_p10 := Nat.le_trans hB0 hW.size
     have hp10 := Blk.new w35 22 (va .u8 (List.replicate 16 0))
     have bx := bAl w35 (.cells (va .u8 (List.replicate 16 0)) 22)
     replace hp1 := blB hp1 bx
     replace hp2 := blB hp2 bx
     replace hp3 := blB hp3 bx
     clear bx
     replace hgm := hgm.alloc (.cells (va .u8 (List.replicate 16 0)) 22)
     replace hAW := hAW.alloc (.cells (va .u8 (List.replicate 16 0)) 22)
     have bx := bAl w35 (.cells (va .u8 (List.replicate 16 0)) 22)
     replace hp7 := blB hp7 bx
     replace hp8 := blB hp8 bx
     replace hp11 := blB hp11 bx
     replace hW := trB hW hB0 bx
     clear bx
     generalize w35.alloc (.cells (va .u8 (List.replicate 16 0)) 22) = w40 at *
     generalize w35.heap.size = p10 at hp10 lw_p10 lp1_p10 lp2_p10 lp3_p10 lgm_p10 nAW_p10 lp7_p10 lp8_p10 lp11_p10 ⊢
     refine wpAnyH_ready (by kernel_rfl) (by simp) (readyCons 2 7 52 rfl rfl (by rfl) (fun K hK => wp_callF 20 #[.agg (va .u8 ke), .agg (noV 1 2), .int .u32 1] (by go_simp) (sblock_to9 ke 1 2 1 s1 h1q.out hel heb (by decide) (by decide) _) ?_) AllReadyH.nil)
     rintro e w41 ⟨rfl, bx⟩
     replace hp1 := blB hp1 bx
     replace hp2 := blB hp2 bx
     replace hp3 := blB hp3 bx
     replace hgm := hgm.below bx hgm.lt
     replace hAW := hAW.below bx
     replace hp7 := blB hp7 bx
     replace hp8 := blB hp8 bx
     replace hp11 := blB hp11 bx
     replace hp10 := blB hp10 bx
     replace hW := trB hW hB0 bx
     clear bx
     refine ⟨_, rfl, hK.out _ _ ⟨hp1, hp2, hp3, hgm, hAW, hp7, hp8, hW⟩ (fun _ => ?_)⟩
     clear hK K
     simp only [Ls]
     refine wpAnyH_ready (by kernel_rfl) (by simp) (readyRunS 1 10 (w41.setRow p10 (va .u8 s0)) rfl rfl (by rfl) (exec_storeRow 22 (.tmp 10) (.tmp 48) rfl p10 rfl (va .u8 s0) rfl 22 (va .u8 (List.replicate 16 0)) hp10 (sz_eq (sz__16_uint8 _ (List.length_replicate)) (sz__16_uint8 _ h0l)) (sz__16_uint8 _ h0l) (va_ones .u8 _)) ⟨hp1.rowFar (show p10 ≠ p1 from (by omega)) _, hp2.rowFar (show p10 ≠ p2 from (by omega)) _, hp3.rowFar (show p10 ≠ p3 from (by omega)) _, hgm.rowFar (show p10 ≠ gm from (by omega)) _, hAW.rowFar nAW_p10 _, hp7.rowFar (show p10 ≠ p7 from (by omega)) _, hp8.rowFar (show p10 ≠ p8 from (by omega)) _, below_setRow hW lw_p10 _⟩ (fun _ => ?_) AllReadyH.nil)
     replace hp1 := hp1.rowFar (show p10 ≠ p1 from (by omega)) (va .u8 s0)
     replace hp2 := hp2.rowFar (show p10 ≠ p2 from (by omega)) (va .u8 s0)
     replace hp3 := hp3.rowFar (show p10 ≠ p3 from (by omega)) (va .u8 s0)
     replace hgm := hgm.rowFar (show p10 ≠ gm from (by omega)) (va .u8 s0)
     replace hAW := hAW.rowFar nAW_p10 (va .u8 s0)
     replace hp7 := hp7.rowFar (show p10 ≠ p7 from (by omega)) (va .u8 s0)
     replace hp8 := hp8.rowFar (show p10 ≠ p8 from (by omega)) (va .u8 s0)
     replace hp11 := hp11.rowFar (show p10 ≠ p11 from (by omega)) (va .u8 s0)
     replace hp10 := hp10.row (va .u8 s0)
     replace hW := below_setRow hW lw_p10 (va .u8 s0)
     generalize w41.setRow p10 (va .u8 s0) = w42 at *
     refine wpAnyH_ready (by kernel_rfl) (by simp) (readyRunS 0 11 (w42.setRow p11 (va .u8 s1)) rfl rfl (by rfl) (exec_storeRow 22 (.tmp 11) (.tmp 52) rfl p11 rfl (va .u8 s1) rfl 22 (va .u8 (List.replicate 16 0)) hp11 (sz_eq (sz__16_uint8 _ (List.length_replicate)) (sz__16_uint8 _ h1l)) (sz__16_uint8 _ h1l) (va_ones .u8 _)) ⟨hp1.rowFar (show p11 ≠ p1 from (by omega)) _, hp2.rowFar (show p11 ≠ p2 from (by omega)) _, hp3.rowFar (show p11 ≠ p3 from (by omega)) _, hgm.rowFar (show p11 ≠ gm from (by omega)) _, hAW.rowFar nAW_p11 _, hp7.rowFar (show p11 ≠ p7 from (by omega)) _, hp8.rowFar (show p11 ≠ p8 from (by omega)) _, below_setRow hW lw_p11 _⟩ (fun _ => ?_) AllReadyH.nil)
     replace hp1 := hp1.rowFar (show p11 ≠ p1 from (by omega)) (va .u8 s1)
     replace hp2 := hp2.rowFar (show p11 ≠ p2 from (by omega)) (va .u8 s1)
     replace hp3 := hp3.rowFar (show p11 ≠ p3 from (by omega)) (va .u8 s1)
     replace hgm := hgm.rowFar (show p11 ≠ gm from (by omega)) (va .u8 s1)
     replace hAW := hAW.rowFar nAW_p11 (va .u8 s1)
     replace hp7 := hp7.rowFar (show p11 ≠ p7 from (by omega)) (va .u8 s1)
     replace hp8 := hp8.rowFar (show p11 ≠ p8 from (by omega)) (va .u8 s1)
     replace hp10 := hp10.rowFar (show p11 ≠ p10 from (by omega)) (va .u8 s1)
     replace hp11 := hp11.row (va .u8 s1)
     replace hW := below_setRow hW lw_p11 (va .u8 s1)
     generalize w42.setRow p11 (va .u8 s1) = w43 at *
     refine wpAnyH_done (by kernel_rfl) ?_ _
     go_wp2
     go_meet
     exact ⟨p10, p11, rfl, rfl, lw_p10, lw_p11, lp1_p10, lp2_p10, lp3_p10, lgm_p10, lp7_p10, lp8_p10, lp1_p11, lp2_p11, lp3_p11, lgm_p11, lp7_p11, lp8_p11, nAW_p10, nAW_p11, by omega, hp10, hp11, hp1, hp2, hp3, hgm, hAW, hp7, hp8, hW⟩
  ·
   simp only [Ls]
   have lp1_p10 := hp1.lt
   have lp2_p10 := hp2.lt
   have lp3_p10 := hp3.lt
   have lgm_p10 := hgm.lt
   have nAW_p10 := hAW.new_off
   have lp7_p10 := hp7.lt
   have lp8_p10 := hp8.lt
   have lw_p10 := Nat.le_trans hB0 hW.size
   have hp10 := Blk.new w15 22 (va .u8 (List.replicate 16 0))
   have bx := bAl w15 (.cells (va .u8 (List.replicate 16 0)) 22)
   replace hp1 := blB hp1 bx
   replace hp2 := blB hp2 bx
   replace hp3 := blB hp3 bx
   clear bx
   replace hgm := hgm.alloc (.cells (va .u8 (List.replicate 16 0)) 22)
   replace hAW := hAW.alloc (.cells (va .u8 (List.replicate 16 0)) 22)
   have bx := bAl w15 (.cells (va .u8 (List.replicate 16 0)) 22)
   replace hp7 := blB hp7 bx
   replace hp8 := blB hp8 bx
   replace hW := trB hW hB0 bx
   clear bx
   generalize w15.alloc (.cells (va .u8 (List.replicate 16 0)) 22) = w44 at *
   generalize w15.heap.size = p10 at hp10 lw_p10 lp1_p10 lp2_p10 lp3_p10 lgm_p10 nAW_p10 lp7_p10 lp8_p10 ⊢
   refine wpAnyH_ready (by kernel_rfl) (by simp) (readyCons 4 3 48 rfl rfl (by rfl) (fun K hK => wp_callF 20 #[.agg (va .u8 ke), .agg (noV 1 2), .int .u32 0] (by go_simp) (sblock_to9 ke 1 2 0 s0 h0q.out hel heb (by decide) (by decide) _) ?_) (readyRun 4 9 11 (.pointer (some ⟨w44.heap.size, 0, none⟩)) (w44.alloc (.cells (va .u8 (List.replicate 16 0)) 22)) rfl rfl (by rfl) (exec_allocV 22 rfl _ (zv__16_uint8 _)) ⟨hp1.alloc _, hp2.alloc _, hp3.alloc _, hgm.alloc _, hAW.alloc _, hp7.alloc _, hp8.alloc _, hW.alloc (Nat.le_trans hB0 hW.size) _⟩ (fun _ => ?_) AllReadyH.nil))
   ·
    rintro e w45 ⟨rfl, bx⟩
    replace hp1 := blB hp1 bx
    replace hp2 := blB hp2 bx
    replace hp3 := blB hp3 bx
    replace hgm := hgm.below bx hgm.lt
    replace hAW := hAW.below bx
    replace hp7 := blB hp7 bx
    replace hp8 := blB hp8 bx
    replace hp10 := blB hp10 bx
    replace hW := trB hW hB0 bx
    clear bx
    refine ⟨_, rfl, hK.out _ _ ⟨hp1, hp2, hp3, hgm, hAW, hp7, hp8, hW⟩ (fun _ => ?_)⟩
    clear hK K
    simp only [Ls]
    refine wpAnyH_ready (by kernel_rfl) (by simp) (readyCons 3 7 52 rfl rfl (by rfl) (fun K hK => wp_callF 20 #[.agg (va .u8 ke), .agg (noV 1 2), .int .u32 1] (by go_simp) (sblock_to9 ke 1 2 1 s1 h1q.out hel heb (by decide) (by decide) _) ?_) (readyRun 3 9 11 (.pointer (some ⟨w45.heap.size, 0, none⟩)) (w45.alloc (.cells (va .u8 (List.replicate 16 0)) 22)) rfl rfl (by rfl) (exec_allocV 22 rfl _ (zv__16_uint8 _)) ⟨hp1.alloc _, hp2.alloc _, hp3.alloc _, hgm.alloc _, hAW.alloc _, hp7.alloc _, hp8.alloc _, hW.alloc (Nat.le_trans hB0 hW.size) _⟩ (fun _ => ?_) AllReadyH.nil))
    ·
     rintro e w46 ⟨rfl, bx⟩
     replace hp1 := blB hp1 bx
     replace hp2 := blB hp2 bx
     replace hp3 := blB hp3 bx
     replace hgm := hgm.below bx hgm.lt
     replace hAW := hAW.below bx
     replace hp7 := blB hp7 bx
     replace hp8 := blB hp8 bx
     replace hp10 := blB hp10 bx
     replace hW := trB hW hB0 bx
     clear bx
     refine ⟨_, rfl, hK.out _ _ ⟨hp1, hp2, hp3, hgm, hAW, hp7, hp8, hW⟩ (fun _ => ?_)⟩
     clear hK K
     simp only [Ls]
     refine wpAnyH_ready (by kernel_rfl) (by simp) (readyRun 2 9 11 (.pointer (some ⟨w46.heap.size, 0, none⟩)) (w46.alloc (.cells (va .u8 (List.replicate 16 0)) 22)) rfl rfl (by rfl) (exec_allocV 22 rfl _ (zv__16_uint8 _)) ⟨hp1.alloc _, hp2.alloc _, hp3.alloc _, hgm.alloc _, hAW.alloc _, hp7.alloc _, hp8.alloc _, hW.alloc (Nat.le_trans hB0 hW.size) _⟩ (fun _ => ?_) AllReadyH.nil)
     simp only [Ls]
     have lp1_p11 := hp1.lt
     have lp2_p11 := hp2.lt
     have lp3_p11 := hp3.lt
     have lgm_p11 := hgm.lt
     have nAW_p11 := hAW.new_off
     have lp7_p11 := hp7.lt
     have lp8_p11 := hp8.lt
     have lp10_p11 := hp10.lt
     have lw_p11 := Nat.le_trans hB0 hW.size
     have hp11 := Blk.new w46 22 (va .u8 (List.replicate 16 0))
     have bx := bAl w46 (.cells (va .u8 (List.replicate 16 0)) 22)
     replace hp1 := blB hp1 bx
     replace hp2 := blB hp2 bx
     replace hp3 := blB hp3 bx
     clear bx
     replace hgm := hgm.alloc (.cells (va .u8 (List.replicate 16 0)) 22)
     replace hAW := hAW.alloc (.cells (va .u8 (List.replicate 16 0)) 22)
     have bx := bAl w46 (.cells (va .u8 (List.replicate 16 0)) 22)
     replace hp7 := blB hp7 bx
     replace hp8 := blB hp8 bx
     replace hp10 := blB hp10 bx
     replace hW := trB hW hB0 bx
     clear bx
     generalize w46.alloc (.cells (va .u8 (List.replicate 16 0)) 22) = w47 at *
     generalize w46.heap.size = p11 at hp11 lw_p11 lp1_p11 lp2_p11 lp3_p11 lgm_p11 nAW_p11 lp7_p11 lp8_p11 lp10_p11 ⊢
     refine wpAnyH_ready (by kernel_rfl) (by simp) (readyRunS 1 10 (w47.setRow p10 (va .u8 s0)) rfl rfl (by rfl) (exec_storeRow 22 (.tmp 10) (.tmp 48) rfl p10 rfl (va .u8 s0) rfl 22 (va .u8 (List.replicate 16 0)) hp10 (sz_eq (sz__16_uint8 _ (List.length_replicate)) (sz__16_uint8 _ h0l)) (sz__16_uint8 _ h0l) (va_ones .u8 _)) ⟨hp1.rowFar (show p10 ≠ p1 from (by omega)) _, hp2.rowFar (show p10 ≠ p2 from (by omega)) _, hp3.rowFar (show p10 ≠ p3 from (by omega)) _, hgm.rowFar (show p10 ≠ gm from (by omega)) _, hAW.rowFar nAW_p10 _, hp7.rowFar (show p10 ≠ p7 from (by omega)) _, hp8.rowFar (show p10 ≠ p8 from (by omega)) _, below_setRow hW lw_p10 _⟩ (fun _ => ?_) AllReadyH.nil)
     replace hp1 := hp1.rowFar (show p10 ≠ p1 from (by omega)) (va .u8 s0)
     replace hp2 := hp2.rowFar (show p10 ≠ p2 from (by omega)) (va .u8 s0)
     replace hp3 := hp3.rowFar (show p10 ≠ p3 from (by omega)) (va .u8 s0)
     replace hgm := hgm.rowFar (show p10 ≠ gm from (by omega)) (va .u8 s0)
     replace hAW := hAW.rowFar nAW_p10 (va .u8 s0)
     replace hp7 := hp7.rowFar (show p10 ≠ p7 from (by omega)) (va .u8 s0)
     replace hp8 := hp8.rowFar (show p10 ≠ p8 from (by omega)) (va .u8 s0)
     replace hp11 := hp11.rowFar (show p10 ≠ p11 from (by omega)) (va .u8 s0)
     replace hp10 := hp10.row (va .u8 s0)
     replace hW := below_setRow hW lw_p10 (va .u8 s0)
     generalize w47.setRow p10 (va .u8 s0) = w48 at *
     refine wpAnyH_ready (by kernel_rfl) (by simp) (readyRunS 0 11 (w48.setRow p11 (va .u8 s1)) rfl rfl (by rfl) (exec_storeRow 22 (.tmp 11) (.tmp 52) rfl p11 rfl (va .u8 s1) rfl 22 (va .u8 (List.replicate 16 0)) hp11 (sz_eq (sz__16_uint8 _ (List.length_replicate)) (sz__16_uint8 _ h1l)) (sz__16_uint8 _ h1l) (va_ones .u8 _)) ⟨hp1.rowFar (show p11 ≠ p1 from (by omega)) _, hp2.rowFar (show p11 ≠ p2 from (by omega)) _, hp3.rowFar (show p11 ≠ p3 from (by omega)) _, hgm.rowFar (show p11 ≠ gm from (by omega)) _, hAW.rowFar nAW_p11 _, hp7.rowFar (show p11 ≠ p7 from (by omega)) _, hp8.rowFar (show p11 ≠ p8 from (by omega)) _, below_setRow hW lw_p11 _⟩ (fun _ => ?_) AllReadyH.nil)
     replace hp1 := hp1.rowFar (show p11 ≠ p1 from (by omega)) (va .u8 s1)
     replace hp2 := hp2.rowFar (show p11 ≠ p2 from (by omega)) (va .u8 s1)
     replace hp3 := hp3.rowFar (show p11 ≠ p3 from (by omega)) (va .u8 s1)
     replace hgm := hgm.rowFar (show p11 ≠ gm from (by omega)) (va .u8 s1)
     replace hAW := hAW.rowFar nAW_p11 (va .u8 s1)
     replace hp7 := hp7.rowFar (show p11 ≠ p7 from (by omega)) (va .u8 s1)
     replace hp8 := hp8.rowFar (show p11 ≠ p8 from (by omega)) (va .u8 s1)
     replace hp10 := hp10.rowFar (show p11 ≠ p10 from (by omega)) (va .u8 s1)
     replace hp11 := hp11.row (va .u8 s1)
     replace hW := below_setRow hW lw_p11 (va .u8 s1)
     generalize w48.setRow p11 (va .u8 s1) = w49 at *
     refine wpAnyH_done (by kernel_rfl) ?_ _
     go_wp2
     go_meet
     exact ⟨p10, p11, rfl, rfl, lw_p10, lw_p11, lp1_p10, lp2_p10, lp3_p10, lgm_p10, lp7_p10, lp8_p10, lp1_p11, lp2_p11, lp3_p11, lgm_p11, lp7_p11, lp8_p11, nAW_p10, nAW_p11, by omega, hp10, hp11, hp1, hp2, hp3, hgm, hAW, hp7, hp8, hW⟩
    ·
     simp only [Ls]
     have lp1_p11 := hp1.lt
     have lp2_p11 := hp2.lt
     have lp3_p11 := hp3.lt
     have lgm_p11 := hgm.lt
     have nAW_p11 := hAW.new_off
     have lp7_p11 := hp7.lt
     have lp8_p11 := hp8.lt
     have lp10_p11 := hp10.lt
     have lw_p11 := Nat.le_trans hB0 hW.size
     have hp11 := Blk.new w45 22 (va .u8 (List.replicate 16 0))
     have bx := bAl w45 (.cells (va .u8 (List.replicate 16 0)) 22)
     replace hp1 := blB hp1 bx
     replace hp2 := blB hp2 bx
     replace hp3 := blB hp3 bx
     clear bx
     replace hgm := hgm.alloc (.cells (va .u8 (List.replicate 16 0)) 22)
     replace hAW := hAW.alloc (.cells (va .u8 (List.replicate 16 0)) 22)
     have bx := bAl w45 (.cells (va .u8 (List.replicate 16 0)) 22)
     replace hp7 := blB hp7 bx
     replace hp8 := blB hp8 bx
     replace hp10 := blB hp10 bx
     replace hW := trB hW hB0 bx
     clear bx
     generalize w45.alloc (.cells (va .u8 (List.replicate 16 0)) 22) = w50 at *
     generalize w45.heap.size = p11 at hp11 lw_p11 lp1_p11 lp2_p11 lp3_p11 lgm_p11 nAW_p11 lp7_p11 lp8_p11 lp10_p11 ⊢
     refine wpAnyH_ready (by kernel_rfl) (by simp) (readyCons 2 7 52 rfl rfl (by rfl) (fun K hK => wp_callF 20 #[.agg (va .u8 ke), .agg (noV 1 2), .int .u32 1] (by go_simp) (sblock_to9 ke 1 2 1 s1 h1q.out hel heb (by decide) (by decide) _) ?_) AllReadyH.nil)
     rintro e w51 ⟨rfl, bx⟩
     replace hp1 := blB hp1 bx
     replace hp2 := blB hp2 bx
     replace hp3 := blB hp3 bx
     replace hgm := hgm.below bx hgm.lt
     replace hAW := hAW.below bx
     replace hp7 := blB hp7 bx
     replace hp8 := blB hp8 bx
     replace hp10 := blB hp10 bx
     replace hp11 := blB hp11 bx
     replace hW := trB hW hB0 bx
     clear bx
     refine ⟨_, rfl, hK.out _ _ ⟨hp1, hp2, hp3, hgm, hAW, hp7, hp8, hW⟩ (fun _ => ?_)⟩
     clear hK K
     simp only [Ls]
     refine wpAnyH_ready (by kernel_rfl) (by simp) (readyRunS 1 10 (w51.setRow p10 (va .u8 s0)) rfl rfl (by rfl) (exec_storeRow 22 (.tmp 10) (.tmp 48) rfl p10 rfl (va .u8 s0) rfl 22 (va .u8 (List.replicate 16 0)) hp10 (sz_eq (sz__16_uint8 _ (List.length_replicate)) (sz__16_uint8 _ h0l)) (sz__16_uint8 _ h0l) (va_ones .u8 _)) ⟨hp1.rowFar (show p10 ≠ p1 from (by omega)) _, hp2.rowFar (show p10 ≠ p2 from (by omega)) _, hp3.rowFar (show p10 ≠ p3 from (by omega)) _, hgm.rowFar (show p10 ≠ gm from (by omega)) _, hAW.rowFar nAW_p10 _, hp7.rowFar (show p10 ≠ p7 from (by omega)) _, hp8.rowFar (show p10 ≠ p8 from (by omega)) _, below_setRow hW lw_p10 _⟩ (fun _ => ?_) AllReadyH.nil)
     replace hp1 := hp1.rowFar (show p10 ≠ p1 from (by omega)) (va .u8 s0)
     replace hp2 := hp2.rowFar (show p10 ≠ p2 from (by omega)) (va .u8 s0)
     replace hp3 := hp3.rowFar (show p10 ≠ p3 from (by omega)) (va .u8 s0)
     replace hgm := hgm.rowFar (show p10 ≠ gm from (by omega)) (va .u8 s0)
     replace hAW := hAW.rowFar nAW_p10 (va .u8 s0)
     replace hp7 := hp7.rowFar (show p10 ≠ p7 from (by omega)) (va .u8 s0)
     replace hp8 := hp8.rowFar (show p10 ≠ p8 from (by omega)) (va .u8 s0)
     replace hp11 := hp11.rowFar (show p10 ≠ p11 from (by omega)) (va .u8 s0)
     replace hp10 := hp10.row (va .u8 s0)
     replace hW := below_setRow hW lw_p10 (va .u8 s0)
     generalize w51.setRow p10 (va .u8 s0) = w52 at *
     refine wpAnyH_ready (by kernel_rfl) (by simp) (readyRunS 0 11 (w52.setRow p11 (va .u8 s1)) rfl rfl (by rfl) (exec_storeRow 22 (.tmp 11) (.tmp 52) rfl p11 rfl (va .u8 s1) rfl 22 (va .u8 (List.replicate 16 0)) hp11 (sz_eq (sz__16_uint8 _ (List.length_replicate)) (sz__16_uint8 _ h1l)) (sz__16_uint8 _ h1l) (va_ones .u8 _)) ⟨hp1.rowFar (show p11 ≠ p1 from (by omega)) _, hp2.rowFar (show p11 ≠ p2 from (by omega)) _, hp3.rowFar (show p11 ≠ p3 from (by omega)) _, hgm.rowFar (show p11 ≠ gm from (by omega)) _, hAW.rowFar nAW_p11 _, hp7.rowFar (show p11 ≠ p7 from (by omega)) _, hp8.rowFar (show p11 ≠ p8 from (by omega)) _, below_setRow hW lw_p11 _⟩ (fun _ => ?_) AllReadyH.nil)
     replace hp1 := hp1.rowFar (show p11 ≠ p1 from (by omega)) (va .u8 s1)
     replace hp2 := hp2.rowFar (show p11 ≠ p2 from (by omega)) (va .u8 s1)
     replace hp3 := hp3.rowFar (show p11 ≠ p3 from (by omega)) (va .u8 s1)
     replace hgm := hgm.rowFar (show p11 ≠ gm from (by omega)) (va .u8 s1)
     replace hAW := hAW.rowFar nAW_p11 (va .u8 s1)
     replace hp7 := hp7.rowFar (show p11 ≠ p7 from (by omega)) (va .u8 s1)
     replace hp8 := hp8.rowFar (show p11 ≠ p8 from (by omega)) (va .u8 s1)
     replace hp10 := hp10.rowFar (show p11 ≠ p10 from (by omega)) (va .u8 s1)
     replace hp11 := hp11.row (va .u8 s1)
     replace hW := below_setRow hW lw_p11 (va .u8 s1)
     generalize w52.setRow p11 (va .u8 s1) = w53 at *
     refine wpAnyH_done (by kernel_rfl) ?_ _
     go_wp2
     go_meet
     exact ⟨p10, p11, rfl, rfl, lw_p10, lw_p11, lp1_p10, lp2_p10, lp3_p10, lgm_p10, lp7_p10, lp8_p10, lp1_p11, lp2_p11, lp3_p11, lgm_p11, lp7_p11, lp8_p11, nAW_p10, nAW_p11, by omega, hp10, hp11, hp1, hp2, hp3, hgm, hAW, hp7, hp8, hW⟩
   ·
    simp only [Ls]
    have lp1_p11 := hp1.lt
    have lp2_p11 := hp2.lt
    have lp3_p11 := hp3.lt
    have lgm_p11 := hgm.lt
    have nAW_p11 := hAW.new_off
    have lp7_p11 := hp7.lt
    have lp8_p11 := hp8.lt
    have lp10_p11 := hp10.lt
    have lw_p11 := Nat.le_trans hB0 hW.size
    have hp11 := Blk.new w44 22 (va .u8 (List.replicate 16 0))
    have bx := bAl w44 (.cells (va .u8 (List.replicate 16 0)) 22)
    replace hp1 := blB hp1 bx
    replace hp2 := blB hp2 bx
    replace hp3 := blB hp3 bx
    clear bx
    replace hgm := hgm.alloc (.cells (va .u8 (List.replicate 16 0)) 22)
    replace hAW := hAW.alloc (.cells (va .u8 (List.replicate 16 0)) 22)
    have bx := bAl w44 (.cells (va .u8 (List.replicate 16 0)) 22)
    replace hp7 := blB hp7 bx
    replace hp8 := blB hp8 bx
    replace hp10 := blB hp10 bx
    replace hW := trB hW hB0 bx
    clear bx
    generalize w44.alloc (.cells (va .u8 (List.replicate 16 0)) 22) = w54 at *
    generalize w44.heap.size = p11 at hp11 lw_p11 lp1_p11 lp2_p11 lp3_p11 lgm_p11 nAW_p11 lp7_p11 lp8_p11 lp10_p11 ⊢
    refine wpAnyH_ready (by kernel_rfl) (by simp) (readyCons 3 3 48 rfl rfl (by rfl) (fun K hK => wp_callF 20 #[.agg (va .u8 ke), .agg (noV 1 2), .int .u32 0] (by go_simp) (sblock_to9 ke 1 2 0 s0 h0q.out hel heb (by decide) (by decide) _) ?_) AllReadyH.nil)
    rintro e w55 ⟨rfl, bx⟩
    replace hp1 := blB hp1 bx
    replace hp2 := blB hp2 bx
    replace hp3 := blB hp3 bx
    replace hgm := hgm.below bx hgm.lt
    replace hAW := hAW.below bx
    replace hp7 := blB hp7 bx
    replace hp8 := blB hp8 bx
    replace hp10 := blB hp10 bx
    replace hp11 := blB hp11 bx
    replace hW := trB hW hB0 bx
    clear bx
    refine ⟨_, rfl, hK.out _ _ ⟨hp1, hp2, hp3, hgm, hAW, hp7, hp8, hW⟩ (fun _ => ?_)⟩
    clear hK K
    simp only [Ls]
    refine wpAnyH_ready (by kernel_rfl) (by simp) (readyCons 2 7 52 rfl rfl (by rfl) (fun K hK => wp_callF 20 #[.agg (va .u8 ke), .agg (noV 1 2), .int .u32 1] (by go_simp) (sblock_to9 ke 1 2 1 s1 h1q.out hel heb (by decide) (by decide) _) ?_) AllReadyH.nil)
    rintro e w56 ⟨rfl, bx⟩
    replace hp1 := blB hp1 bx
    replace hp2 := blB hp2 bx
    replace hp3 := blB hp3 bx
    replace hgm := hgm.below bx hgm.lt
    replace hAW := hAW.below bx
    replace hp7 := blB hp7 bx
    replace hp8 := blB hp8 bx
    replace hp10 := blB hp10 bx
    replace hp11 := blB hp11 bx
    replace hW := trB hW hB0 bx
    clear bx
    refine ⟨_, rfl, hK.out _ _ ⟨hp1, hp2, hp3, hgm, hAW, hp7, hp8, hW⟩ (fun _ => ?_)⟩
    clear hK K
    simp only [Ls]
    refine wpAnyH_ready (by kernel_rfl) (by simp) (readyRunS 1 10 (w56.setRow p10 (va .u8 s0)) rfl rfl (by rfl) (exec_storeRow 22 (.tmp 10) (.tmp 48) rfl p10 rfl (va .u8 s0) rfl 22 (va .u8 (List.replicate 16 0)) hp10 (sz_eq (sz__16_uint8 _ (List.length_replicate)) (sz__16_uint8 _ h0l)) (sz__16_uint8 _ h0l) (va_ones .u8 _)) ⟨hp1.rowFar (show p10 ≠ p1 from (by omega)) _, hp2.rowFar (show p10 ≠ p2 from (by omega)) _, hp3.rowFar (show p10 ≠ p3 from (by omega)) _, hgm.rowFar (show p10 ≠ gm from (by omega)) _, hAW.rowFar nAW_p10 _, hp7.rowFar (show p10 ≠ p7 from (by omega)) _, hp8.rowFar (show p10 ≠ p8 from (by omega)) _, below_setRow hW lw_p10 _⟩ (fun _ => ?_) AllReadyH.nil)
    replace hp1 := hp1.rowFar (show p10 ≠ p1 from (by omega)) (va .u8 s0)
    replace hp2 := hp2.rowFar (show p10 ≠ p2 from (by omega)) (va .u8 s0)
    replace hp3 := hp3.rowFar (show p10 ≠ p3 from (by omega)) (va .u8 s0)
    replace hgm := hgm.rowFar (show p10 ≠ gm from (by omega)) (va .u8 s0)
    replace hAW := hAW.rowFar nAW_p10 (va .u8 s0)
    replace hp7 := hp7.rowFar (show p10 ≠ p7 from (by omega)) (va .u8 s0)
    replace hp8 := hp8.rowFar (show p10 ≠ p8 from (by omega)) (va .u8 s0)
    replace hp11 := hp11.rowFar (show p10 ≠ p11 from (by omega)) (va .u8 s0)
    replace hp10 := hp10.row (va .u8 s0)
    replace hW := below_setRow hW lw_p10 (va .u8 s0)
    generalize w56.setRow p10 (va .u8 s0) = w57 at *
    refine wpAnyH_ready (by kernel_rfl) (by simp) (readyRunS 0 11 (w57.setRow p11 (va .u8 s1)) rfl rfl (by rfl) (exec_storeRow 22 (.tmp 11) (.tmp 52) rfl p11 rfl (va .u8 s1) rfl 22 (va .u8 (List.replicate 16 0)) hp11 (sz_eq (sz__16_uint8 _ (List.length_replicate)) (sz__16_uint8 _ h1l)) (sz__16_uint8 _ h1l) (va_ones .u8 _)) ⟨hp1.rowFar (show p11 ≠ p1 from (by omega)) _, hp2.rowFar (show p11 ≠ p2 from (by omega)) _, hp3.rowFar (show p11 ≠ p3 from (by omega)) _, hgm.rowFar (show p11 ≠ gm from (by omega)) _, hAW.rowFar nAW_p11 _, hp7.rowFar (show p11 ≠ p7 from (by omega)) _, hp8.rowFar (show p11 ≠ p8 from (by omega)) _, below_setRow hW lw_p11 _⟩ (fun _ => ?_) AllReadyH.nil)
    replace hp1 := hp1.rowFar (show p11 ≠ p1 from (by omega)) (va .u8 s1)
    replace hp2 := hp2.rowFar (show p11 ≠ p2 from (by omega)) (va .u8 s1)
    replace hp3 := hp3.rowFar (show p11 ≠ p3 from (by omega)) (va .u8 s1)
    replace hgm := hgm.rowFar (show p11 ≠ gm from (by omega)) (va .u8 s1)
    replace hAW := hAW.rowFar nAW_p11 (va .u8 s1)
    replace hp7 := hp7.rowFar (show p11 ≠ p7 from (by omega)) (va .u8 s1)
    replace hp8 := hp8.rowFar (show p11 ≠ p8 from (by omega)) (va .u8 s1)
    replace hp10 := hp10.rowFar (show p11 ≠ p10 from (by omega)) (va .u8 s1)
    replace hp11 := hp11.row (va .u8 s1)
    replace hW := below_setRow hW lw_p11 (va .u8 s1)
    generalize w57.setRow p11 (va .u8 s1) = w58 at *
    refine wpAnyH_done (by kernel_rfl) ?_ _
    go_wp2
    go_meet
    exact ⟨p10, p11, rfl, rfl, lw_p10, lw_p11, lp1_p10, lp2_p10, lp3_p10, lgm_p10, lp7_p10, lp8_p10, lp1_p11, lp2_p11, lp3_p11, lgm_p11, lp7_p11, lp8_p11, nAW_p10, nAW_p11, by omega, hp10, hp11, hp1, hp2, hp3, hgm, hAW, hp7, hp8, hW⟩
  ·
   simp only [Ls]
   have lp1_p11 := hp1.lt
   have lp2_p11 := hp2.lt
   have lp3_p11 := hp3.lt
   have lgm_p11 := hgm.lt
   have nAW_p11 := hAW.new_off
   have lp7_p11 := hp7.lt
   have lp8_p11 := hp8.lt
   have lw_p11 := Nat.le_trans hB0 hW.size
   have hp11 := Blk.new w15 22 (va .u8 (List.replicate 16 0))
   have bx := bAl w15 (.cells (va .u8 (List.replicate 16 0)) 22)
   replace hp1 := blB hp1 bx
   replace hp2 := blB hp2 bx
   replace hp3 := blB hp3 bx
   clear bx
   replace hgm := hgm.alloc (.cells (va .u8 (List.replicate 16 0)) 22)
   replace hAW := hAW.alloc (.cells (va .u8 (List.replicate 16 0)) 22)
   have bx := bAl w15 (.cells (va .u8 (List.replicate 16 0)) 22)
   replace hp7 := blB hp7 bx
   replace hp8 := blB hp8 bx
   replace hW := trB hW hB0 bx
   clear bx
   generalize w15.alloc (.cells (va .u8 (List.replicate 16 0)) 22) = w59 at *
   generalize w15.heap.size = p11 at hp11 lw_p11 lp1_p11 lp2_p11 lp3_p11 lgm_p11 nAW_p11 lp7_p11 lp8_p11 ⊢
   refine wpAnyH_ready (by kernel_rfl) (by simp) (readyCons 4 3 48 rfl rfl (by rfl) (fun K hK => wp_callF 20 #[.agg (va .u8 ke), .agg (noV 1 2), .int .u32 0] (by go_simp) (sblock_to9 ke 1 2 0 s0 h0q.out hel heb (by decide) (by decide) _) ?_) (readyRun 4 8 10 (.pointer (some ⟨w59.heap.size, 0, none⟩)) (w59.alloc (.cells (va .u8 (List.replicate 16 0)) 22)) rfl rfl (by rfl) (exec_allocV 22 rfl _ (zv__16_uint8 _)) ⟨hp1.alloc _, hp2.alloc _, hp3.alloc _, hgm.alloc _, hAW.alloc _, hp7.alloc _, hp8.alloc _, hW.alloc (Nat.le_trans hB0 hW.size) _⟩ (fun _ => ?_) AllReadyH.nil))
   ·
    rintro e w60 ⟨rfl, bx⟩
    replace hp1 := blB hp1 bx
    replace hp2 := blB hp2 bx
    replace hp3 := blB hp3 bx
    replace hgm := hgm.below bx hgm.lt
    replace hAW := hAW.below bx
    replace hp7 := blB hp7 bx
    replace hp8 := blB hp8 bx
    replace hp11 := blB hp11 bx
    replace hW := trB hW hB0 bx
    clear bx
    refine ⟨_, rfl, hK.out _ _ ⟨hp1, hp2, hp3, hgm, hAW, hp7, hp8, hW⟩ (fun _ => ?_)⟩
    clear hK K
    simp only [Ls]
    refine wpAnyH_ready (by kernel_rfl) (by simp) (readyCons 3 7 52 rfl rfl (by rfl) (fun K hK => wp_callF 20 #[.agg (va .u8 ke), .agg (noV 1 2), .int .u32 1] (by go_simp) (sblock_to9 ke 1 2 1 s1 h1q.out hel heb (by decide) (by decide) _) ?_) (readyRun 3 8 10 (.pointer (some ⟨w60.heap.size, 0, none⟩)) (w60.alloc (.cells (va .u8 (List.replicate 16 0)) 22)) rfl rfl (by rfl) (exec_allocV 22 rfl _ (zv__16_uint8 _)) ⟨hp1.alloc _, hp2.alloc _, hp3.alloc _, hgm.alloc _, hAW.alloc _, hp7.alloc _, hp8.alloc _, hW.alloc (Nat.le_trans hB0 hW.size) _⟩ (fun _ => ?_) AllReadyH.nil))
    ·
     rintro e w61 ⟨rfl, bx⟩
     replace hp1 := blB hp1 bx
     replace hp2 := blB hp2 bx
     replace hp3 := blB hp3 bx
     replace hgm := hgm.below bx hgm.lt
     replace hAW := hAW.below bx
     replace hp7 := blB hp7 bx
     replace hp8 := blB hp8 bx
     replace hp11 := blB hp11 bx
     replace hW := trB hW hB0 bx
     clear bx
     refine ⟨_, rfl, hK.out _ _ ⟨hp1, hp2, hp3, hgm, hAW, hp7, hp8, hW⟩ (fun _ => ?_)⟩
     clear hK K
     simp only [Ls]
     refine wpAnyH_ready (by kernel_rfl) (by simp) (readyRun 2 8 10 (.pointer (some ⟨w61.heap.size, 0, none⟩)) (w61.alloc (.cells (va .u8 (List.replicate 16 0)) 22)) rfl rfl (by rfl) (exec_allocV 22 rfl _ (zv__16_uint8 _)) ⟨hp1.alloc _, hp2.alloc _, hp3.alloc _, hgm.alloc _, hAW.alloc _, hp7.alloc _, hp8.alloc _, hW.alloc (Nat.le_trans hB0 hW.size) _⟩ (fun _ => ?_) AllReadyH.nil)
     simp only [Ls]
     have lp1_p10 := hp1.lt
     have lp2_p10 := hp2.lt
     have lp3_p10 := hp3.lt
     have lgm_p10 := hgm.lt
     have nAW_p10 := hAW.new_off
     have lp7_p10 := hp7.lt
     have lp8_p10 := hp8.lt
     have lp11_p10 := hp11.lt
     have lw_p10 := Nat.le_trans hB0 hW.size
     have hp10 := Blk.new w61 22 (va .u8 (List.replicate 16 0))
     have bx := bAl w61 (.cells (va .u8 (List.replicate 16 0)) 22)
     replace hp1 := blB hp1 bx
     replace hp2 := blB hp2 bx
     replace hp3 := blB hp3 bx
     clear bx
     replace hgm := hgm.alloc (.cells (va .u8 (List.replicate 16 0)) 22)
     replace hAW := hAW.alloc (.cells (va .u8 (List.replicate 16 0)) 22)
     have bx := bAl w61 (.cells (va .u8 (List.replicate 16 0)) 22)
     replace hp7 := blB hp7 bx
     replace hp8 := blB hp8 bx
     replace hp11 := blB hp11 bx
     replace hW := trB hW hB0 bx
     clear bx
     generalize w61.alloc (.cells (va .u8 (List.replicate 16 0)) 22) = w62 at *
     generalize w61.heap.size = p10 at hp10 lw_p10 lp1_p10 lp2_p10 lp3_p10 lgm_p10 nAW_p10 lp7_p10 lp8_p10 lp11_p10 ⊢
     refine wpAnyH_ready (by kernel_rfl) (by simp) (readyRunS 1 10 (w62.setRow p10 (va .u8 s0)) rfl rfl (by rfl) (exec_storeRow 22 (.tmp 10) (.tmp 48) rfl p10 rfl (va .u8 s0) rfl 22 (va .u8 (List.replicate 16 0)) hp10 (sz_eq (sz__16_uint8 _ (List.length_replicate)) (sz__16_uint8 _ h0l)) (sz__16_uint8 _ h0l) (va_ones .u8 _)) ⟨hp1.rowFar (show p10 ≠ p1 from (by omega)) _, hp2.rowFar (show p10 ≠ p2 from (by omega)) _, hp3.rowFar (show p10 ≠ p3 from (by omega)) _, hgm.rowFar (show p10 ≠ gm from (by omega)) _, hAW.rowFar nAW_p10 _, hp7.rowFar (show p10 ≠ p7 from (by omega)) _, hp8.rowFar (show p10 ≠ p8 from (by omega)) _, below_setRow hW lw_p10 _⟩ (fun _ => ?_) AllReadyH.nil)
     replace hp1 := hp1.rowFar (show p10 ≠ p1 from (by omega)) (va .u8 s0)
     replace hp2 := hp2.rowFar (show p10 ≠ p2 from (by omega)) (va .u8 s0)
     replace hp3 := hp3.rowFar (show p10 ≠ p3 from (by omega)) (va .u8 s0)
     replace hgm := hgm.rowFar (show p10 ≠ gm from (by omega)) (va .u8 s0)
     replace hAW := hAW.rowFar nAW_p10 (va .u8 s0)
     replace hp7 := hp7.rowFar (show p10 ≠ p7 from (by omega)) (va .u8 s0)
     replace hp8 := hp8.rowFar (show p10 ≠ p8 from (by omega)) (va .u8 s0)
     replace hp11 := hp11.rowFar (show p10 ≠ p11 from (by omega)) (va .u8 s0)
     replace hp10 := hp10.row (va .u8 s0)
     replace hW := below_setRow hW lw_p10 (va .u8 s0)
     generalize w62.setRow p10 (va .u8 s0) = w63 at *
     refine wpAnyH_ready (by kernel_rfl) (by simp) (readyRunS 0 11 (w63.setRow p11 (va .u8 s1)) rfl rfl (by rfl) (exec_storeRow 22 (.tmp 11) (.tmp 52) rfl p11 rfl (va .u8 s1) rfl 22 (va .u8 (List.replicate 16 0)) hp11 (sz_eq (sz__16_uint8 _ (List.length_replicate)) (sz__16_uint8 _ h1l)) (sz__16_uint8 _ h1l) (va_ones .u8 _)) ⟨hp1.rowFar (show p11 ≠ p1 from (by omega)) _, hp2.rowFar (show p11 ≠ p2 from (by omega)) _, hp3.rowFar (show p11 ≠ p3 from (by omega)) _, hgm.rowFar (show p11 ≠ gm from (by omega)) _, hAW.rowFar nAW_p11 _, hp7.rowFar (show p11 ≠ p7 from (by omega)) _, hp8.rowFar (show p11 ≠ p8 from (by omega)) _, below_setRow hW lw_p11 _⟩ (fun _ => ?_) AllReadyH.nil)
     replace hp1 := hp1.rowFar (show p11 ≠ p1 from (by omega)) (va .u8 s1)
     replace hp2 := hp2.rowFar (show p11 ≠ p2 from (by omega)) (va .u8 s1)
     replace hp3 := hp3.rowFar (show p11 ≠ p3 from (by omega)) (va .u8 s1)
     replace hgm := hgm.rowFar (show p11 ≠ gm from (by omega)) (va .u8 s1)
     replace hAW := hAW.rowFar nAW_p11 (va .u8 s1)
     replace hp7 := hp7.rowFar (show p11 ≠ p7 from (by omega)) (va .u8 s1)
     replace hp8 := hp8.rowFar (show p11 ≠ p8 from (by omega)) (va .u8 s1)
     replace hp10 := hp10.rowFar (show p11 ≠ p10 from (by omega)) (va .u8 s1)
     replace hp11 := hp11.row (va .u8 s1)
     replace hW := below_setRow hW lw_p11 (va .u8 s1)
     generalize w63.setRow p11 (va .u8 s1) = w64 at *
     refine wpAnyH_done (by kernel_rfl) ?_ _
     go_wp2
     go_meet
     exact ⟨p10, p11, rfl, rfl, lw_p10, lw_p11, lp1_p10, lp2_p10, lp3_p10, lgm_p10, lp7_p10, lp8_p10, lp1_p11, lp2_p11, lp3_p11, lgm_p11, lp7_p11, lp8_p11, nAW_p10, nAW_p11, by omega, hp10, hp11, hp1, hp2, hp3, hgm, hAW, hp7, hp8, hW⟩
    ·
     simp only [Ls]
     have lp1_p10 := hp1.lt
     have lp2_p10 := hp2.lt
     have lp3_p10 := hp3.lt
     have lgm_p10 := hgm.lt
     have nAW_p10 := hAW.new_off
     have lp7_p10 := hp7.lt
     have lp8_p10 := hp8.lt
     have lp11_p10 := hp11.lt
     have lw_p10 := Nat.le_trans hB0 hW.size
     have hp10 := Blk.new w60 22 (va .u8 (List.replicate 16 0))
     have bx := bAl w60 (.cells (va .u8 (List.replicate 16 0)) 22)
     replace hp1 := blB hp1 bx
     replace hp2 := blB hp2 bx
     replace hp3 := blB hp3 bx
     clear bx
     replace hgm := hgm.alloc (.cells (va .u8 (List.replicate 16 0)) 22)
     replace hAW := hAW.alloc (.cells (va .u8 (List.replicate 16 0)) 22)
     have bx := bAl w60 (.cells (va .u8 (List.replicate 16 0)) 22)
     replace hp7 := blB hp7 bx
     replace hp8 := blB hp8 bx
     replace hp11 := blB hp11 bx
     replace hW := trB hW hB0 bx
     clear bx
     generalize w60.alloc (.cells (va .u8 (List.replicate 16 0)) 22) = w65 at *
     generalize w60.heap.size = p10 at hp10 lw_p10 lp1_p10 lp2_p10 lp3_p10 lgm_p10 nAW_p10 lp7_p10 lp8_p10 lp11_p10 ⊢
     refine wpAnyH_ready (by kernel_rfl) (by simp) (readyCons 2 7 52 rfl rfl (by rfl) (fun K hK => wp_callF 20 #[.agg (va .u8 ke), .agg (noV 1 2), .int .u32 1] (by go_simp) (sblock_to9 ke 1 2 1 s1 h1q.out hel heb (by decide) (by decide) _) ?_) AllReadyH.nil)
     rintro e w66 ⟨rfl, bx⟩
     replace hp1 := blB hp1 bx
     replace hp2 := blB hp2 bx
     replace hp3 := blB hp3 bx
     replace hgm := hgm.below bx hgm.lt
     replace hAW := hAW.below bx
     replace hp7 := blB hp7 bx
     replace hp8 := blB hp8 bx
     replace hp11 := blB hp11 bx
     replace hp10 := blB hp10 bx
     replace hW := trB hW hB0 bx
     clear bx
     refine ⟨_, rfl, hK.out _ _ ⟨hp1, hp2, hp3, hgm, hAW, hp7, hp8, hW⟩ (fun _ => ?_)⟩
     clear hK K
     simp only [Ls]
     refine wpAnyH_ready (by kernel_rfl) (by simp) (readyRunS 1 10 (w66.setRow p10 (va .u8 s0)) rfl rfl (by rfl) (exec_storeRow 22 (.tmp 10) (.tmp 48) rfl p10 rfl (va .u8 s0) rfl 22 (va .u8 (List.replicate 16 0)) hp10 (sz_eq (sz__16_uint8 _ (List.length_replicate)) (sz__16_uint8 _ h0l)) (sz__16_uint8 _ h0l) (va_ones .u8 _)) ⟨hp1.rowFar (show p10 ≠ p1 from (by omega)) _, hp2.rowFar (show p10 ≠ p2 from (by omega)) _, hp3.rowFar (show p10 ≠ p3 from (by omega)) _, hgm.rowFar (show p10 ≠ gm from (by omega)) _, hAW.rowFar nAW_p10 _, hp7.rowFar (show p10 ≠ p7 from (by omega)) _, hp8.rowFar (show p10 ≠ p8 from (by omega)) _, below_setRow hW lw_p10 _⟩ (fun _ => ?_) AllReadyH.nil)
     replace hp1 := hp1.rowFar (show p10 ≠ p1 from (by omega)) (va .u8 s0)
     replace hp2 := hp2.rowFar (show p10 ≠ p2 from (by omega)) (va .u8 s0)
     replace hp3 := hp3.rowFar (show p10 ≠ p3 from (by omega)) (va .u8 s0)
     replace hgm := hgm.rowFar (show p10 ≠ gm from (by omega)) (va .u8 s0)
     replace hAW := hAW.rowFar nAW_p10 (va .u8 s0)
     replace hp7 := hp7.rowFar (show p10 ≠ p7 from (by omega)) (va .u8 s0)
     replace hp8 := hp8.rowFar (show p10 ≠ p8 from (by omega)) (va .u8 s0)
     replace hp11 := hp11.rowFar (show p10 ≠ p11 from (by omega)) (va .u8 s0)
     replace hp10 := hp10.row (va .u8 s0)
     replace hW := below_setRow hW lw_p10 (va .u8 s0)
     generalize w66.setRow p10 (va .u8 s0) = w67 at *
     refine wpAnyH_ready (by kernel_rfl) (by simp) (readyRunS 0 11 (w67.setRow p11 (va .u8 s1)) rfl rfl (by rfl) (exec_storeRow 22 (.tmp 11) (.tmp 52) rfl p11 rfl (va .u8 s1) rfl 22 (va .u8 (List.replicate 16 0)) hp11 (sz_eq (sz__16_uint8 _ (List.length_replicate)) (sz__16_uint8 _ h1l)) (sz__16_uint8 _ h1l) (va_ones .u8 _)) ⟨hp1.rowFar (show p11 ≠ p1 from (by omega)) _, hp2.rowFar (show p11 ≠ p2 from (by omega)) _, hp3.rowFar (show p11 ≠ p3 from (by omega)) _, hgm.rowFar (show p11 ≠ gm from (by omega)) _, hAW.rowFar nAW_p11 _, hp7.rowFar (show p11 ≠ p7 from (by omega)) _, hp8.rowFar (show p11 ≠ p8 from (by omega)) _, below_setRow hW lw_p11 _⟩ (fun _ => ?_) AllReadyH.nil)
     replace hp1 := hp1.rowFar (show p11 ≠ p1 from (by omega)) (va .u8 s1)
     replace hp2 := hp2.rowFar (show p11 ≠ p2 from (by omega)) (va .u8 s1)
     replace hp3 := hp3.rowFar (show p11 ≠ p3 from (by omega)) (va .u8 s1)
     replace hgm := hgm.rowFar (show p11 ≠ gm from (by omega)) (va .u8 s1)
     replace hAW := hAW.rowFar nAW_p11 (va .u8 s1)
     replace hp7 := hp7.rowFar (show p11 ≠ p7 from (by omega)) (va .u8 s1)
     replace hp8 := hp8.rowFar (show p11 ≠ p8 from (by omega)) (va .u8 s1)
     replace hp10 := hp10.rowFar (show p11 ≠ p10 from (by omega)) (va .u8 s1)
     replace hp11 := hp11.row (va .u8 s1)
     replace hW := below_setRow hW lw_p11 (va .u8 s1)
     generalize w67.setRow p11 (va .u8 s1) = w68 at *
     refine wpAnyH_done (by kernel_rfl) ?_ _
     go_wp2
     go_meet
     exact ⟨p10, p11, rfl, rfl, lw_p10, lw_p11, lp1_p10, lp2_p10, lp3_p10, lgm_p10, lp7_p10, lp8_p10, lp1_p11, lp2_p11, lp3_p11, lgm_p11, lp7_p11, lp8_p11, nAW_p10, nAW_p11, by omega, hp10, hp11, hp1, hp2, hp3, hgm, hAW, hp7, hp8, hW⟩
   ·
    simp only [Ls]
    have lp1_p10 := hp1.lt
    have lp2_p10 := hp2.lt
    have lp3_p10 := hp3.lt
    have lgm_p10 := hgm.lt
    have nAW_p10 := hAW.new_off
    have lp7_p10 := hp7.lt
    have lp8_p10 := hp8.lt
    have lp11_p10 := hp11.lt
    have lw_p10 := Nat.le_trans hB0 hW.size
    have hp10 := Blk.new w59 22 (va .u8 (List.replicate 16 0))
    have bx := bAl w59 (.cells (va .u8 (List.replicate 16 0)) 22)
    replace hp1 := blB hp1 bx
    replace hp2 := blB hp2 bx
    replace hp3 := blB hp3 bx
    clear bx
    replace hgm := hgm.alloc (.cells (va .u8 (List.replicate 16 0)) 22)
    replace hAW := hAW.alloc (.cells (va .u8 (List.replicate 16 0)) 22)
    have bx := bAl w59 (.cells (va .u8 (List.replicate 16 0)) 22)
    replace hp7 := blB hp7 bx
    replace hp8 := blB hp8 bx
    replace hp11 := blB hp11 bx
    replace hW := trB hW hB0 bx
    clear bx
    generalize w59.alloc (.cells (va .u8 (List.replicate 16 0)) 22) = w69 at *
    generalize w59.heap.size = p10 at hp10 lw_p10 lp1_p10 lp2_p10 lp3_p10 lgm_p10 nAW_p10 lp7_p10 lp8_p10 lp11_p10 ⊢
    refine wpAnyH_ready (by kernel_rfl) (by simp) (readyCons 3 3 48 rfl rfl (by rfl) (fun K hK => wp_callF 20 #[.agg (va .u8 ke), .agg (noV 1 2), .int .u32 0] (by go_simp) (sblock_to9 ke 1 2 0 s0 h0q.out hel heb (by decide) (by decide) _) ?_) AllReadyH.nil)
    rintro e w70 ⟨rfl, bx⟩
    replace hp1 := blB hp1 bx
    replace hp2 := blB hp2 bx
    replace hp3 := blB hp3 bx
    replace hgm := hgm.below bx hgm.lt
    replace hAW := hAW.below bx
    replace hp7 := blB hp7 bx
    replace hp8 := blB hp8 bx
    replace hp11 := blB hp11 bx
    replace hp10 := blB hp10 bx
    replace hW := trB hW hB0 bx
    clear bx
    refine ⟨_, rfl, hK.out _ _ ⟨hp1, hp2, hp3, hgm, hAW, hp7, hp8, hW⟩ (fun _ => ?_)⟩
    clear hK K
    simp only [Ls]
    refine wpAnyH_ready (by kernel_rfl) (by simp) (readyCons 2 7 52 rfl rfl (by rfl) (fun K hK => wp_callF 20 #[.agg (va .u8 ke), .agg (noV 1 2), .int .u32 1] (by go_simp) (sblock_to9 ke 1 2 1 s1 h1q.out hel heb (by decide) (by decide) _) ?_) AllReadyH.nil)
    rintro e w71 ⟨rfl, bx⟩
    replace hp1 := blB hp1 bx
    replace hp2 := blB hp2 bx
    replace hp3 := blB hp3 bx
    replace hgm := hgm.below bx hgm.lt
    replace hAW := hAW.below bx
    replace hp7 := blB hp7 bx
    replace hp8 := blB hp8 bx
    replace hp11 := blB hp11 bx
    replace hp10 := blB hp10 bx
    replace hW := trB hW hB0 bx
    clear bx
    refine ⟨_, rfl, hK.out _ _ ⟨hp1, hp2, hp3, hgm, hAW, hp7, hp8, hW⟩ (fun _ => ?_)⟩
    clear hK K
    simp only [Ls]
    refine wpAnyH_ready (by kernel_rfl) (by simp) (readyRunS 1 10 (w71.setRow p10 (va .u8 s0)) rfl rfl (by rfl) (exec_storeRow 22 (.tmp 10) (.tmp 48) rfl p10 rfl (va .u8 s0) rfl 22 (va .u8 (List.replicate 16 0)) hp10 (sz_eq (sz__16_uint8 _ (List.length_replicate)) (sz__16_uint8 _ h0l)) (sz__16_uint8 _ h0l) (va_ones .u8 _)) ⟨hp1.rowFar (show p10 ≠ p1 from (by omega)) _, hp2.rowFar (show p10 ≠ p2 from (by omega)) _, hp3.rowFar (show p10 ≠ p3 from (by omega)) _, hgm.rowFar (show p10 ≠ gm from (by omega)) _, hAW.rowFar nAW_p10 _, hp7.rowFar (show p10 ≠ p7 from (by omega)) _, hp8.rowFar (show p10 ≠ p8 from (by omega)) _, below_setRow hW lw_p10 _⟩ (fun _ => ?_) AllReadyH.nil)
    replace hp1 := hp1.rowFar (show p10 ≠ p1 from (by omega)) (va .u8 s0)
    replace hp2 := hp2.rowFar (show p10 ≠ p2 from (by omega)) (va .u8 s0)
    replace hp3 := hp3.rowFar (show p10 ≠ p3 from (by omega)) (va .u8 s0)
    replace hgm := hgm.rowFar (show p10 ≠ gm from (by omega)) (va .u8 s0)
    replace hAW := hAW.rowFar nAW_p10 (va .u8 s0)
    replace hp7 := hp7.rowFar (show p10 ≠ p7 from (by omega)) (va .u8 s0)
    replace hp8 := hp8.rowFar (show p10 ≠ p8 from (by omega)) (va .u8 s0)
    replace hp11 := hp11.rowFar (show p10 ≠ p11 from (by omega)) (va .u8 s0)
    replace hp10 := hp10.row (va .u8 s0)
    replace hW := below_setRow hW lw_p10 (va .u8 s0)
    generalize w71.setRow p10 (va .u8 s0) = w72 at *
    refine wpAnyH_ready (by kernel_rfl) (by simp) (readyRunS 0 11 (w72.setRow p11 (va .u8 s1)) rfl rfl (by rfl) (exec_storeRow 22 (.tmp 11) (.tmp 52) rfl p11 rfl (va .u8 s1) rfl 22 (va .u8 (List.replicate 16 0)) hp11 (sz_eq (sz__16_uint8 _ (List.length_replicate)) (sz__16_uint8 _ h1l)) (sz__16_uint8 _ h1l) (va_ones .u8 _)) ⟨hp1.rowFar (show p11 ≠ p1 from (by omega)) _, hp2.rowFar (show p11 ≠ p2 from (by omega)) _, hp3.rowFar (show p11 ≠ p3 from (by omega)) _, hgm.rowFar (show p11 ≠ gm from (by omega)) _, hAW.rowFar nAW_p11 _, hp7.rowFar (show p11 ≠ p7 from (by omega)) _, hp8.rowFar (show p11 ≠ p8 from (by omega)) _, below_setRow hW lw_p11 _⟩ (fun _ => ?_) AllReadyH.nil)
    replace hp1 := hp1.rowFar (show p11 ≠ p1 from (by omega)) (va .u8 s1)
    replace hp2 := hp2.rowFar (show p11 ≠ p2 from (by omega)) (va .u8 s1)
    replace hp3 := hp3.rowFar (show p11 ≠ p3 from (by omega)) (va .u8 s1)
    replace hgm := hgm.rowFar (show p11 ≠ gm from (by omega)) (va .u8 s1)
    replace hAW := hAW.rowFar nAW_p11 (va .u8 s1)
    replace hp7 := hp7.rowFar (show p11 ≠ p7 from (by omega)) (va .u8 s1)
    replace hp8 := hp8.rowFar (show p11 ≠ p8 from (by omega)) (va .u8 s1)
    replace hp10 := hp10.rowFar (show p11 ≠ p10 from (by omega)) (va .u8 s1)
    replace hp11 := hp11.row (va .u8 s1)
    replace hW := below_setRow hW lw_p11 (va .u8 s1)
    generalize w72.setRow p11 (va .u8 s1) = w73 at *
    refine wpAnyH_done (by kernel_rfl) ?_ _
    go_wp2
    go_meet
    exact ⟨p10, p11, rfl, rfl, lw_p10, lw_p11, lp1_p10, lp2_p10, lp3_p10, lgm_p10, lp7_p10, lp8_p10, lp1_p11, lp2_p11, lp3_p11, lgm_p11, lp7_p11, lp8_p11, nAW_p10, nAW_p11, by omega, hp10, hp11, hp1, hp2, hp3, hgm, hAW, hp7, hp8, hW⟩
 case rest =>
  clear hp1 hp2 hp3 hgm hAW hp7 hp8 hW
  obtain ⟨p10, p11, rfl, rfl, lw_p10, lw_p11, lp1_p10, lp2_p10, lp3_p10, lgm_p10, lp7_p10, lp8_p10, lp1_p11, lp2_p11, lp3_p11, lgm_p11, lp7_p11, lp8_p11, nAW_p10, nAW_p11, dp11_p10, hp10, hp11, hp1, hp2, hp3, hgm, hAW, hp7, hp8, hW⟩ := hcut
  generalize wc = w74 at *
  go_upto_region 8 with fail
  refine wp_region_held_drew (S := fun wr => Blk wr p1 26 (va .u8 (ke ++ km)) ∧ Blk wr p2 30 (noV 1 2) ∧ Blk wr p3 33 (va .u8 z) ∧ Blk wr gm 5 (va .u8 (msg 3 1 2 z)) ∧ Own wr B0 AW 48 cAW (msg 3 1 2 z) ∧ Blk wr p7 33 (va .u8 x) ∧ Blk wr p8 45 (va .u8 t) ∧ Blk wr p10 22 (va .u8 s0) ∧ Blk wr p11 22 (va .u8 s1) ∧ Below B0 w wr) (by kernel_rfl) ⟨hp1.drew, hp2.drew, hp3.drew, hgm.drew, hAW.drew_, hp7.drew, hp8.drew, hp10.drew, hp11.drew, below_drewN hW 1⟩ (fun hH => ?_)
  clear hp1 hp2 hp3 hgm hAW hp7 hp8 hp10 hp11 hW
  obtain ⟨hp1, hp2, hp3, hgm, hAW, hp7, hp8, hp10, hp11, hW⟩ := hH
  generalize w74.drew = w75 at *
  refine takeH 18 0 53 (.slice (some ⟨gm, 0, none⟩) 48 48) rfl rfl (by kernel_rfl) (by kernel_rfl) (by kernel_rfl) (fun _ _ _ h => h) (Or.inl ⟨by rfl, fun w _ => by go_simp⟩) ⟨hp1, hp2, hp3, hgm, hAW, hp7, hp8, hp10, hp11, hW⟩ ?_
  simp only [Ls]
  refine takeH 17 1 54 (.int .i64 0) rfl rfl (by kernel_rfl) (by kernel_rfl) (by kernel_rfl) (fun _ _ _ h => h) (Or.inl ⟨by rfl, fun w _ => by go_simp⟩) ⟨hp1, hp2, hp3, hgm, hAW, hp7, hp8, hp10, hp11, hW⟩ ?_
  simp only [Ls]
  refine takeH 16 2 55 (.slice AW 48 cAW) rfl rfl (by kernel_rfl) (by kernel_rfl) (by kernel_rfl) (fun _ _ _ h => h) (Or.inl ⟨by rfl, fun w _ => by go_simp⟩) ⟨hp1, hp2, hp3, hgm, hAW, hp7, hp8, hp10, hp11, hW⟩ ?_
  simp only [Ls]
  refine wpAnyH_ready (by kernel_rfl) (by simp) (readyCons 15 3 56 rfl rfl (by rfl) (fun K hK => wp_callF 11 #[.slice (some ⟨gm, 0, none⟩) 48 48, .int .i64 0, .slice AW 48 cAW, .int .i64 0] (by go_simp) (same09_any (msg 3 1 2 z) _ 48 _ AW cAW _ 0 _ (hgm.readsAll (Nat.lt_succ_self _) (msg_len hzl)) hgm.lt hAW.reads (Nat.le_refl _)) ?_) AllReadyH.nil)
  rintro e w76 ⟨rfl, bx⟩
  replace hp1 := blB hp1 bx
  replace hp2 := blB hp2 bx
  replace hp3 := blB hp3 bx
  replace hgm := hgm.below bx hgm.lt
  replace hAW := hAW.below bx
  replace hp7 := blB hp7 bx
  replace hp8 := blB hp8 bx
  replace hp10 := blB hp10 bx
  replace hp11 := blB hp11 bx
  replace hW := trB hW hB0 bx
  clear bx
  refine ⟨_, rfl, hK.out _ _ ⟨hp1, hp2, hp3, hgm, hAW, hp7, hp8, hp10, hp11, hW⟩ (fun _ => ?_)⟩
  clear hK K
  simp only [Ls]
  refine takeH 14 4 57 (.bool false) rfl rfl (by kernel_rfl) (by kernel_rfl) (by kernel_rfl) (fun _ _ _ h => h) (Or.inl ⟨by rfl, fun w _ => by go_simp⟩) ⟨hp1, hp2, hp3, hgm, hAW, hp7, hp8, hp10, hp11, hW⟩ ?_
  simp only [Ls]
  refine takeH 13 5 58 (.bool false) rfl rfl (by kernel_rfl) (by kernel_rfl) (by kernel_rfl) (fun _ _ _ h => h) (Or.inl ⟨by rfl, fun w _ => by go_simp⟩) ⟨hp1, hp2, hp3, hgm, hAW, hp7, hp8, hp10, hp11, hW⟩ ?_
  simp only [Ls]
  refine takeH 12 6 59 (.int .i64 0) rfl rfl (by kernel_rfl) (by kernel_rfl) (by kernel_rfl) (fun _ _ _ h => h) (Or.inl ⟨by rfl, fun w _ => by go_simp⟩) ⟨hp1, hp2, hp3, hgm, hAW, hp7, hp8, hp10, hp11, hW⟩ ?_
  simp only [Ls]
  refine takeH 11 7 60 (.bool false) rfl rfl (by kernel_rfl) (by kernel_rfl) (by kernel_rfl) (fun _ _ _ h => h) (Or.inl ⟨by rfl, fun w _ => by go_simp⟩) ⟨hp1, hp2, hp3, hgm, hAW, hp7, hp8, hp10, hp11, hW⟩ ?_
  simp only [Ls]
  refine takeH 10 8 61 (.bool false) rfl rfl (by kernel_rfl) (by kernel_rfl) (by kernel_rfl) (fun _ _ _ h => h) (Or.inl ⟨by rfl, fun w _ => by go_simp⟩) ⟨hp1, hp2, hp3, hgm, hAW, hp7, hp8, hp10, hp11, hW⟩ ?_
  simp only [Ls]
  refine takeH 9 9 62 (.bool false) rfl rfl (by kernel_rfl) (by kernel_rfl) (by kernel_rfl) (fun _ _ _ h => h) (Or.inl ⟨by rfl, fun w _ => by go_simp⟩) ⟨hp1, hp2, hp3, hgm, hAW, hp7, hp8, hp10, hp11, hW⟩ ?_
  simp only [Ls]
  refine takeH 8 10 63 (.slice (some ⟨p7, 0, none⟩) 32 32) rfl rfl (by kernel_rfl) (by kernel_rfl) (by kernel_rfl) (fun _ _ _ h => h) (Or.inl ⟨by rfl, fun w _ => by go_simp⟩) ⟨hp1, hp2, hp3, hgm, hAW, hp7, hp8, hp10, hp11, hW⟩ ?_
  simp only [Ls]
  refine takeH 7 11 64 (.string (bst x)) rfl rfl (by kernel_rfl) (by kernel_rfl) (by kernel_rfl) (fun _ _ _ h => h) (Or.inl ⟨by rfl, fun _ h => exec_conv 34 9 (.tmp 63) rfl (.slice (some ⟨p7, 0, none⟩) 32 32) (.string (bst x)) rfl (Reads.string (h.2.2.2.2.2.1.readsAll (Nat.lt_succ_self _) hxl) _ _ Tryd.underlying34 Tryd.underlying9)⟩) ⟨hp1, hp2, hp3, hgm, hAW, hp7, hp8, hp10, hp11, hW⟩ ?_
  simp only [Ls]
  refine takeH 6 12 65 (.slice (some ⟨p10, 0, none⟩) 16 16) rfl rfl (by kernel_rfl) (by kernel_rfl) (by kernel_rfl) (fun _ _ _ h => h) (Or.inl ⟨by rfl, fun w _ => by go_simp⟩) ⟨hp1, hp2, hp3, hgm, hAW, hp7, hp8, hp10, hp11, hW⟩ ?_
  simp only [Ls]
  refine takeH 5 13 66 (.string (bst s0)) rfl rfl (by kernel_rfl) (by kernel_rfl) (by kernel_rfl) (fun _ _ _ h => h) (Or.inl ⟨by rfl, fun _ h => exec_conv 34 9 (.tmp 65) rfl (.slice (some ⟨p10, 0, none⟩) 16 16) (.string (bst s0)) rfl (Reads.string (h.2.2.2.2.2.2.2.1.readsAll (Nat.lt_succ_self _) h0l) _ _ Tryd.underlying34 Tryd.underlying9)⟩) ⟨hp1, hp2, hp3, hgm, hAW, hp7, hp8, hp10, hp11, hW⟩ ?_
  simp only [Ls]
  refine takeH 4 14 67 (.slice (some ⟨p11, 0, none⟩) 16 16) rfl rfl (by kernel_rfl) (by kernel_rfl) (by kernel_rfl) (fun _ _ _ h => h) (Or.inl ⟨by rfl, fun w _ => by go_simp⟩) ⟨hp1, hp2, hp3, hgm, hAW, hp7, hp8, hp10, hp11, hW⟩ ?_
  simp only [Ls]
  refine takeH 3 15 68 (.string (bst s1)) rfl rfl (by kernel_rfl) (by kernel_rfl) (by kernel_rfl) (fun _ _ _ h => h) (Or.inl ⟨by rfl, fun _ h => exec_conv 34 9 (.tmp 67) rfl (.slice (some ⟨p11, 0, none⟩) 16 16) (.string (bst s1)) rfl (Reads.string (h.2.2.2.2.2.2.2.2.1.readsAll (Nat.lt_succ_self _) h1l) _ _ Tryd.underlying34 Tryd.underlying9)⟩) ⟨hp1, hp2, hp3, hgm, hAW, hp7, hp8, hp10, hp11, hW⟩ ?_
  simp only [Ls]
  refine takeH 2 16 69 (.string (bst x)) rfl rfl (by kernel_rfl) (by kernel_rfl) (by kernel_rfl) (fun _ _ _ h => h) (Or.inl ⟨by rfl, fun _ _ => by go_simp; rw [hstq.out, if_neg hszq.out]⟩) ⟨hp1, hp2, hp3, hgm, hAW, hp7, hp8, hp10, hp11, hW⟩ ?_
  simp only [Ls]
  refine takeH 1 17 70 (.bool false) rfl rfl (by kernel_rfl) (by kernel_rfl) (by kernel_rfl) (fun _ _ _ h => h) (Or.inl ⟨by rfl, fun w _ => by go_simp⟩) ⟨hp1, hp2, hp3, hgm, hAW, hp7, hp8, hp10, hp11, hW⟩ ?_
  simp only [Ls]
  refine takeH 0 18 71 (.bool false) rfl rfl (by kernel_rfl) (by kernel_rfl) (by kernel_rfl) (fun _ _ _ h => h) (Or.inl ⟨by rfl, fun w _ => by go_simp⟩) ⟨hp1, hp2, hp3, hgm, hAW, hp7, hp8, hp10, hp11, hW⟩ ?_
  simp only [Ls]
  refine wpAnyH_done (by kernel_rfl) ?_ _
  go_upto_region 10 with fail
  refine wl_lit ?_
  refine runL 73 (.agg (va .u8 (ke ++ km))) rfl (by rfl) (exec_row 26 (.tmp 1) rfl p1 rfl 26 (va .u8 (ke ++ km)) _ hp1 (by exact Tryd.underlying26) rfl (sz_derives_Keys _ ((by simp [hel, hml])))) ?_
  simp only [Ls]
  refine runL 74 (.agg (noV 1 2)) rfl (by rfl) (exec_row 30 (.tmp 2) rfl p2 rfl 30 (noV 1 2) _ hp2 (by exact Tryd.underlying30) rfl (noV_sz _ _)) ?_
  simp only [Ls]
  refine runL 75 (.agg (va .u8 x)) rfl (by rfl) (exec_row 33 (.tmp 7) rfl p7 rfl 33 (va .u8 x) _ hp7 (by exact Tryd.underlying33) rfl (sz_api_Block _ hxl)) ?_
  simp only [Ls]
  refine runL 76 (.agg (va .u8 t)) rfl (by rfl) (exec_row 45 (.tmp 8) rfl p8 rfl 45 (va .u8 t) _ hp8 (by exact Tryd.underlying45) rfl (sz_api_Digest _ htl)) ?_
  simp only [Ls]
  refine callL 77 rfl (by rfl) (fun K hK => wp_callF 15 #[.agg (va .u8 (ke ++ km)), .int .i64 3, .agg (noV 1 2), .agg (va .u8 x), .agg (va .u8 t)] (by go_simp) (sopen_ok ke km hel hml heb hmb 3 1 2 x (by decide) (by decide) hxl hxb t htl htb htq.out z hbq.out hzl hzb _ (gl.out _ hW)) ?_)
  rintro e w77 ⟨rfl, bx⟩
  replace hp1 := blB hp1 bx
  replace hp2 := blB hp2 bx
  replace hp3 := blB hp3 bx
  replace hgm := hgm.below bx hgm.lt
  replace hAW := hAW.below bx
  replace hp7 := blB hp7 bx
  replace hp8 := blB hp8 bx
  replace hp10 := blB hp10 bx
  replace hp11 := blB hp11 bx
  replace hW := trB hW hB0 bx
  clear bx
  refine ⟨_, rfl, hK.out _ _ ?_⟩
  clear hK K
  simp only [Ls]
  refine runL 72 (.tuple #[.agg (va .u8 z), .int .i64 0]) rfl (by rfl) (by go_simp) ?_
  simp only [Ls]
  refine runL 78 (.agg (va .u8 z)) rfl (by rfl) (by go_simp) ?_
  simp only [Ls]
  refine runL 79 (.int .i64 0) rfl (by rfl) (by go_simp) ?_
  simp only [Ls]
  refine runWL 12 (.pointer (some ⟨w77.heap.size, 0, none⟩)) (w77.alloc (.cells (va .u8 z) 33)) rfl (by rfl) (exec_allocV 33 rfl _ (zv_blkz z hzq.out _)) ?_
  simp only [Ls]
  have lp1_p12 := hp1.lt
  have lp2_p12 := hp2.lt
  have lp3_p12 := hp3.lt
  have lgm_p12 := hgm.lt
  have nAW_p12 := hAW.new_off
  have lp7_p12 := hp7.lt
  have lp8_p12 := hp8.lt
  have lp10_p12 := hp10.lt
  have lp11_p12 := hp11.lt
  have lw_p12 := Nat.le_trans hB0 hW.size
  have hp12 := Blk.new w77 33 (va .u8 z)
  have bx := bAl w77 (.cells (va .u8 z) 33)
  replace hp1 := blB hp1 bx
  replace hp2 := blB hp2 bx
  replace hp3 := blB hp3 bx
  clear bx
  replace hgm := hgm.alloc (.cells (va .u8 z) 33)
  replace hAW := hAW.alloc (.cells (va .u8 z) 33)
  have bx := bAl w77 (.cells (va .u8 z) 33)
  replace hp7 := blB hp7 bx
  replace hp8 := blB hp8 bx
  replace hp10 := blB hp10 bx
  replace hp11 := blB hp11 bx
  replace hW := trB hW hB0 bx
  clear bx
  generalize w77.alloc (.cells (va .u8 z) 33) = w78 at *
  generalize w77.heap.size = p12 at hp12 lw_p12 lp1_p12 lp2_p12 lp3_p12 lgm_p12 nAW_p12 lp7_p12 lp8_p12 lp10_p12 lp11_p12 ⊢
  refine runSL (w78.setRow p12 (va .u8 z)) rfl (by rfl) (exec_storeRow 33 (.tmp 12) (.tmp 78) rfl p12 rfl (va .u8 z) rfl 33 (va .u8 z) hp12 (sz_eq (sz_api_Block _ hzl) (sz_api_Block _ hzl)) (sz_api_Block _ hzl) (va_ones .u8 _)) ?_
  replace hp1 := hp1.rowFar (show p12 ≠ p1 from (by omega)) (va .u8 z)
  replace hp2 := hp2.rowFar (show p12 ≠ p2 from (by omega)) (va .u8 z)
  replace hp3 := hp3.rowFar (show p12 ≠ p3 from (by omega)) (va .u8 z)
  replace hgm := hgm.rowFar (show p12 ≠ gm from (by omega)) (va .u8 z)
  replace hAW := hAW.rowFar nAW_p12 (va .u8 z)
  replace hp7 := hp7.rowFar (show p12 ≠ p7 from (by omega)) (va .u8 z)
  replace hp8 := hp8.rowFar (show p12 ≠ p8 from (by omega)) (va .u8 z)
  replace hp10 := hp10.rowFar (show p12 ≠ p10 from (by omega)) (va .u8 z)
  replace hp11 := hp11.rowFar (show p12 ≠ p11 from (by omega)) (va .u8 z)
  replace hp12 := hp12.row (va .u8 z)
  replace hW := below_setRow hW lw_p12 (va .u8 z)
  generalize w78.setRow p12 (va .u8 z) = w79 at *
  refine runL 13 (.int .i64 0) rfl (by rfl) (by go_simp) ?_
  simp only [Ls]
  refine nilL ?_
  go_upto_region 11 with fail
  refine wl_lit ?_
  refine runL 81 (.agg (va .u8 (ke ++ km))) rfl (by rfl) (exec_row 26 (.tmp 1) rfl p1 rfl 26 (va .u8 (ke ++ km)) _ hp1 (by exact Tryd.underlying26) rfl (sz_derives_Keys _ ((by simp [hel, hml])))) ?_
  simp only [Ls]
  refine runL 82 (.agg (noV 1 2)) rfl (by rfl) (exec_row 30 (.tmp 2) rfl p2 rfl 30 (noV 1 2) _ hp2 (by exact Tryd.underlying30) rfl (noV_sz _ _)) ?_
  simp only [Ls]
  refine runL 83 (.agg (va .u8 x)) rfl (by rfl) (exec_row 33 (.tmp 7) rfl p7 rfl 33 (va .u8 x) _ hp7 (by exact Tryd.underlying33) rfl (sz_api_Block _ hxl)) ?_
  simp only [Ls]
  refine runL 84 (.agg (va .u8 t)) rfl (by rfl) (exec_row 45 (.tmp 8) rfl p8 rfl 45 (va .u8 t) _ hp8 (by exact Tryd.underlying45) rfl (sz_api_Digest _ htl)) ?_
  simp only [Ls]
  refine callL 85 rfl (by rfl) (fun K hK => wp_callF 15 #[.agg (va .u8 (ke ++ km)), .int .i64 4, .agg (noV 1 2), .agg (va .u8 x), .agg (va .u8 t)] (by go_simp) (sopen_noz z hzq.out ke km hel hml heb hmb 4 1 2 x (by decide) (by decide) hxl hxb t htl htb hneq.out _ (gl.out _ hW)) ?_)
  rintro e w80 ⟨rfl, bx⟩
  replace hp1 := blB hp1 bx
  replace hp2 := blB hp2 bx
  replace hp3 := blB hp3 bx
  replace hgm := hgm.below bx hgm.lt
  replace hAW := hAW.below bx
  replace hp7 := blB hp7 bx
  replace hp8 := blB hp8 bx
  replace hp10 := blB hp10 bx
  replace hp11 := blB hp11 bx
  replace hp12 := blB hp12 bx
  replace hW := trB hW hB0 bx
  clear bx
  refine ⟨_, rfl, hK.out _ _ ?_⟩
  clear hK K
  simp only [Ls]
  refine runL 80 (.tuple #[.agg (va .u8 z), .int .i64 9]) rfl (by rfl) (by go_simp) ?_
  simp only [Ls]
  refine runL 86 (.agg (va .u8 z)) rfl (by rfl) (by go_simp) ?_
  simp only [Ls]
  refine runL 87 (.int .i64 9) rfl (by rfl) (by go_simp) ?_
  simp only [Ls]
  refine runWL 14 (.pointer (some ⟨w80.heap.size, 0, none⟩)) (w80.alloc (.cells (va .u8 z) 33)) rfl (by rfl) (exec_allocV 33 rfl _ (zv_blkz z hzq.out _)) ?_
  simp only [Ls]
  have lp1_p14 := hp1.lt
  have lp2_p14 := hp2.lt
  have lp3_p14 := hp3.lt
  have lgm_p14 := hgm.lt
  have nAW_p14 := hAW.new_off
  have lp7_p14 := hp7.lt
  have lp8_p14 := hp8.lt
  have lp10_p14 := hp10.lt
  have lp11_p14 := hp11.lt
  have lp12_p14 := hp12.lt
  have lw_p14 := Nat.le_trans hB0 hW.size
  have hp14 := Blk.new w80 33 (va .u8 z)
  have bx := bAl w80 (.cells (va .u8 z) 33)
  replace hp1 := blB hp1 bx
  replace hp2 := blB hp2 bx
  replace hp3 := blB hp3 bx
  clear bx
  replace hgm := hgm.alloc (.cells (va .u8 z) 33)
  replace hAW := hAW.alloc (.cells (va .u8 z) 33)
  have bx := bAl w80 (.cells (va .u8 z) 33)
  replace hp7 := blB hp7 bx
  replace hp8 := blB hp8 bx
  replace hp10 := blB hp10 bx
  replace hp11 := blB hp11 bx
  replace hp12 := blB hp12 bx
  replace hW := trB hW hB0 bx
  clear bx
  generalize w80.alloc (.cells (va .u8 z) 33) = w81 at *
  generalize w80.heap.size = p14 at hp14 lw_p14 lp1_p14 lp2_p14 lp3_p14 lgm_p14 nAW_p14 lp7_p14 lp8_p14 lp10_p14 lp11_p14 lp12_p14 ⊢
  refine runSL (w81.setRow p14 (va .u8 z)) rfl (by rfl) (exec_storeRow 33 (.tmp 14) (.tmp 86) rfl p14 rfl (va .u8 z) rfl 33 (va .u8 z) hp14 (sz_eq (sz_api_Block _ hzl) (sz_api_Block _ hzl)) (sz_api_Block _ hzl) (va_ones .u8 _)) ?_
  replace hp1 := hp1.rowFar (show p14 ≠ p1 from (by omega)) (va .u8 z)
  replace hp2 := hp2.rowFar (show p14 ≠ p2 from (by omega)) (va .u8 z)
  replace hp3 := hp3.rowFar (show p14 ≠ p3 from (by omega)) (va .u8 z)
  replace hgm := hgm.rowFar (show p14 ≠ gm from (by omega)) (va .u8 z)
  replace hAW := hAW.rowFar nAW_p14 (va .u8 z)
  replace hp7 := hp7.rowFar (show p14 ≠ p7 from (by omega)) (va .u8 z)
  replace hp8 := hp8.rowFar (show p14 ≠ p8 from (by omega)) (va .u8 z)
  replace hp10 := hp10.rowFar (show p14 ≠ p10 from (by omega)) (va .u8 z)
  replace hp11 := hp11.rowFar (show p14 ≠ p11 from (by omega)) (va .u8 z)
  replace hp12 := hp12.rowFar (show p14 ≠ p12 from (by omega)) (va .u8 z)
  replace hp14 := hp14.row (va .u8 z)
  replace hW := below_setRow hW lw_p14 (va .u8 z)
  generalize w81.setRow p14 (va .u8 z) = w82 at *
  refine runL 15 (.int .i64 9) rfl (by rfl) (by go_simp) ?_
  simp only [Ls]
  refine nilL ?_
  go_upto_region 12 with fail
  refine wl_lit ?_
  refine runL 89 (.agg (va .u8 (ke ++ km))) rfl (by rfl) (exec_row 26 (.tmp 1) rfl p1 rfl 26 (va .u8 (ke ++ km)) _ hp1 (by exact Tryd.underlying26) rfl (sz_derives_Keys _ ((by simp [hel, hml])))) ?_
  simp only [Ls]
  refine runL 90 (.agg (noV 1 2)) rfl (by rfl) (exec_row 30 (.tmp 2) rfl p2 rfl 30 (noV 1 2) _ hp2 (by exact Tryd.underlying30) rfl (noV_sz _ _)) ?_
  simp only [Ls]
  refine runL 91 (.agg (va .u8 z)) rfl (by rfl) (exec_row 33 (.tmp 3) rfl p3 rfl 33 (va .u8 z) _ hp3 (by exact Tryd.underlying33) rfl (sz_api_Block _ hzl)) ?_
  simp only [Ls]
  refine callL 92 rfl (by rfl) (fun K hK => wp_callF 14 #[.agg (va .u8 (ke ++ km)), .int .i64 (-1), .agg (noV 1 2), .agg (va .u8 z)] (by go_simp) (sseal_badz z hzq.out ke km hel hml heb hmb (-1) (.inl (by decide)) 1 2 z hzl _) ?_)
  rintro e w83 ⟨rfl, bx⟩
  replace hp1 := blB hp1 bx
  replace hp2 := blB hp2 bx
  replace hp3 := blB hp3 bx
  replace hgm := hgm.below bx hgm.lt
  replace hAW := hAW.below bx
  replace hp7 := blB hp7 bx
  replace hp8 := blB hp8 bx
  replace hp10 := blB hp10 bx
  replace hp11 := blB hp11 bx
  replace hp12 := blB hp12 bx
  replace hp14 := blB hp14 bx
  replace hW := trB hW hB0 bx
  clear bx
  refine ⟨_, rfl, hK.out _ _ ?_⟩
  clear hK K
  simp only [Ls]
  refine runL 88 (.tuple #[.agg (va .u8 z), .agg (va .u8 z), .int .i64 1]) rfl (by rfl) (by go_simp) ?_
  simp only [Ls]
  refine runL 93 (.agg (va .u8 z)) rfl (by rfl) (by go_simp) ?_
  simp only [Ls]
  refine runL 94 (.agg (va .u8 z)) rfl (by rfl) (by go_simp) ?_
  simp only [Ls]
  refine runL 95 (.int .i64 1) rfl (by rfl) (by go_simp) ?_
  simp only [Ls]
  refine runWL 16 (.pointer (some ⟨w83.heap.size, 0, none⟩)) (w83.alloc (.cells (va .u8 z) 33)) rfl (by rfl) (exec_allocV 33 rfl _ (zv_blkz z hzq.out _)) ?_
  simp only [Ls]
  have lp1_p16 := hp1.lt
  have lp2_p16 := hp2.lt
  have lp3_p16 := hp3.lt
  have lgm_p16 := hgm.lt
  have nAW_p16 := hAW.new_off
  have lp7_p16 := hp7.lt
  have lp8_p16 := hp8.lt
  have lp10_p16 := hp10.lt
  have lp11_p16 := hp11.lt
  have lp12_p16 := hp12.lt
  have lp14_p16 := hp14.lt
  have lw_p16 := Nat.le_trans hB0 hW.size
  have hp16 := Blk.new w83 33 (va .u8 z)
  have bx := bAl w83 (.cells (va .u8 z) 33)
  replace hp1 := blB hp1 bx
  replace hp2 := blB hp2 bx
  replace hp3 := blB hp3 bx
  clear bx
  replace hgm := hgm.alloc (.cells (va .u8 z) 33)
  replace hAW := hAW.alloc (.cells (va .u8 z) 33)
  have bx := bAl w83 (.cells (va .u8 z) 33)
  replace hp7 := blB hp7 bx
  replace hp8 := blB hp8 bx
  replace hp10 := blB hp10 bx
  replace hp11 := blB hp11 bx
  replace hp12 := blB hp12 bx
  replace hp14 := blB hp14 bx
  replace hW := trB hW hB0 bx
  clear bx
  generalize w83.alloc (.cells (va .u8 z) 33) = w84 at *
  generalize w83.heap.size = p16 at hp16 lw_p16 lp1_p16 lp2_p16 lp3_p16 lgm_p16 nAW_p16 lp7_p16 lp8_p16 lp10_p16 lp11_p16 lp12_p16 lp14_p16 ⊢
  refine runWL 17 (.pointer (some ⟨w84.heap.size, 0, none⟩)) (w84.alloc (.cells (va .u8 z) 45)) rfl (by rfl) (exec_allocV 45 rfl _ (zv_digz z hzq.out _)) ?_
  simp only [Ls]
  have lp1_p17 := hp1.lt
  have lp2_p17 := hp2.lt
  have lp3_p17 := hp3.lt
  have lgm_p17 := hgm.lt
  have nAW_p17 := hAW.new_off
  have lp7_p17 := hp7.lt
  have lp8_p17 := hp8.lt
  have lp10_p17 := hp10.lt
  have lp11_p17 := hp11.lt
  have lp12_p17 := hp12.lt
  have lp14_p17 := hp14.lt
  have lp16_p17 := hp16.lt
  have lw_p17 := Nat.le_trans hB0 hW.size
  have hp17 := Blk.new w84 45 (va .u8 z)
  have bx := bAl w84 (.cells (va .u8 z) 45)
  replace hp1 := blB hp1 bx
  replace hp2 := blB hp2 bx
  replace hp3 := blB hp3 bx
  clear bx
  replace hgm := hgm.alloc (.cells (va .u8 z) 45)
  replace hAW := hAW.alloc (.cells (va .u8 z) 45)
  have bx := bAl w84 (.cells (va .u8 z) 45)
  replace hp7 := blB hp7 bx
  replace hp8 := blB hp8 bx
  replace hp10 := blB hp10 bx
  replace hp11 := blB hp11 bx
  replace hp12 := blB hp12 bx
  replace hp14 := blB hp14 bx
  replace hp16 := blB hp16 bx
  replace hW := trB hW hB0 bx
  clear bx
  generalize w84.alloc (.cells (va .u8 z) 45) = w85 at *
  generalize w84.heap.size = p17 at hp17 lw_p17 lp1_p17 lp2_p17 lp3_p17 lgm_p17 nAW_p17 lp7_p17 lp8_p17 lp10_p17 lp11_p17 lp12_p17 lp14_p17 lp16_p17 ⊢
  refine runSL (w85.setRow p16 (va .u8 z)) rfl (by rfl) (exec_storeRow 33 (.tmp 16) (.tmp 93) rfl p16 rfl (va .u8 z) rfl 33 (va .u8 z) hp16 (sz_eq (sz_api_Block _ hzl) (sz_api_Block _ hzl)) (sz_api_Block _ hzl) (va_ones .u8 _)) ?_
  replace hp1 := hp1.rowFar (show p16 ≠ p1 from (by omega)) (va .u8 z)
  replace hp2 := hp2.rowFar (show p16 ≠ p2 from (by omega)) (va .u8 z)
  replace hp3 := hp3.rowFar (show p16 ≠ p3 from (by omega)) (va .u8 z)
  replace hgm := hgm.rowFar (show p16 ≠ gm from (by omega)) (va .u8 z)
  replace hAW := hAW.rowFar nAW_p16 (va .u8 z)
  replace hp7 := hp7.rowFar (show p16 ≠ p7 from (by omega)) (va .u8 z)
  replace hp8 := hp8.rowFar (show p16 ≠ p8 from (by omega)) (va .u8 z)
  replace hp10 := hp10.rowFar (show p16 ≠ p10 from (by omega)) (va .u8 z)
  replace hp11 := hp11.rowFar (show p16 ≠ p11 from (by omega)) (va .u8 z)
  replace hp12 := hp12.rowFar (show p16 ≠ p12 from (by omega)) (va .u8 z)
  replace hp14 := hp14.rowFar (show p16 ≠ p14 from (by omega)) (va .u8 z)
  replace hp17 := hp17.rowFar (show p16 ≠ p17 from (by omega)) (va .u8 z)
  replace hp16 := hp16.row (va .u8 z)
  replace hW := below_setRow hW lw_p16 (va .u8 z)
  generalize w85.setRow p16 (va .u8 z) = w86 at *
  refine runSL (w86.setRow p17 (va .u8 z)) rfl (by rfl) (exec_storeRow 45 (.tmp 17) (.tmp 94) rfl p17 rfl (va .u8 z) rfl 45 (va .u8 z) hp17 (sz_eq (sz_api_Digest _ hzl) (sz_api_Digest _ hzl)) (sz_api_Digest _ hzl) (va_ones .u8 _)) ?_
  replace hp1 := hp1.rowFar (show p17 ≠ p1 from (by omega)) (va .u8 z)
  replace hp2 := hp2.rowFar (show p17 ≠ p2 from (by omega)) (va .u8 z)
  replace hp3 := hp3.rowFar (show p17 ≠ p3 from (by omega)) (va .u8 z)
  replace hgm := hgm.rowFar (show p17 ≠ gm from (by omega)) (va .u8 z)
  replace hAW := hAW.rowFar nAW_p17 (va .u8 z)
  replace hp7 := hp7.rowFar (show p17 ≠ p7 from (by omega)) (va .u8 z)
  replace hp8 := hp8.rowFar (show p17 ≠ p8 from (by omega)) (va .u8 z)
  replace hp10 := hp10.rowFar (show p17 ≠ p10 from (by omega)) (va .u8 z)
  replace hp11 := hp11.rowFar (show p17 ≠ p11 from (by omega)) (va .u8 z)
  replace hp12 := hp12.rowFar (show p17 ≠ p12 from (by omega)) (va .u8 z)
  replace hp14 := hp14.rowFar (show p17 ≠ p14 from (by omega)) (va .u8 z)
  replace hp16 := hp16.rowFar (show p17 ≠ p16 from (by omega)) (va .u8 z)
  replace hp17 := hp17.row (va .u8 z)
  replace hW := below_setRow hW lw_p17 (va .u8 z)
  generalize w86.setRow p17 (va .u8 z) = w87 at *
  refine runL 18 (.int .i64 1) rfl (by rfl) (by go_simp) ?_
  simp only [Ls]
  refine nilL ?_
  go_upto_region 13 with fail
  refine wl_lit ?_
  refine runL 97 (.agg (noV 1 2)) rfl (by rfl) (exec_row 30 (.tmp 2) rfl p2 rfl 30 (noV 1 2) _ hp2 (by exact Tryd.underlying30) rfl (noV_sz _ _)) ?_
  simp only [Ls]
  refine runL 98 (.agg (va .u8 z)) rfl (by rfl) (exec_row 33 (.tmp 3) rfl p3 rfl 33 (va .u8 z) _ hp3 (by exact Tryd.underlying33) rfl (sz_api_Block _ hzl)) ?_
  simp only [Ls]
  refine callL 99 rfl (by rfl) (fun K hK => wp_callF 9 #[.int .i64 4096, .agg (noV 1 2), .agg (va .u8 z)] (by go_simp) (smessage_bad 4096 (.inr (by decide)) 1 2 z hzl _) ?_)
  rintro e w88 ⟨rfl, bx⟩
  replace hp1 := blB hp1 bx
  replace hp2 := blB hp2 bx
  replace hp3 := blB hp3 bx
  replace hgm := hgm.below bx hgm.lt
  replace hAW := hAW.below bx
  replace hp7 := blB hp7 bx
  replace hp8 := blB hp8 bx
  replace hp10 := blB hp10 bx
  replace hp11 := blB hp11 bx
  replace hp12 := blB hp12 bx
  replace hp14 := blB hp14 bx
  replace hp16 := blB hp16 bx
  replace hp17 := blB hp17 bx
  replace hW := trB hW hB0 bx
  clear bx
  refine ⟨_, rfl, hK.out _ _ ?_⟩
  clear hK K
  simp only [Ls]
  refine runL 96 (.tuple #[.slice none 0 0, .int .i64 1]) rfl (by rfl) (by go_simp) ?_
  simp only [Ls]
  refine runL 100 (.slice none 0 0) rfl (by rfl) (by go_simp) ?_
  simp only [Ls]
  refine runL 101 (.int .i64 1) rfl (by rfl) (by go_simp) ?_
  simp only [Ls]
  refine runL 19 (.slice none 0 0) rfl (by rfl) (by go_simp) ?_
  simp only [Ls]
  refine runL 20 (.int .i64 1) rfl (by rfl) (by go_simp) ?_
  simp only [Ls]
  refine nilL ?_
  go_upto_region 14 with fail
  refine wl_lit ?_
  refine runWL 103 (.slice (some ⟨w88.heap.size, 0, none⟩) 47 47) (w88.alloc (.cells (va .u8 (List.replicate 47 0)) 5)) rfl (by rfl) (exec_makeB _ _ rfl 47 (by omega) rfl rfl) ?_
  simp only [Ls]
  have lp1_q2 := hp1.lt
  have lp2_q2 := hp2.lt
  have lp3_q2 := hp3.lt
  have lgm_q2 := hgm.lt
  have nAW_q2 := hAW.new_off
  have lp7_q2 := hp7.lt
  have lp8_q2 := hp8.lt
  have lp10_q2 := hp10.lt
  have lp11_q2 := hp11.lt
  have lp12_q2 := hp12.lt
  have lp14_q2 := hp14.lt
  have lp16_q2 := hp16.lt
  have lp17_q2 := hp17.lt
  have lw_q2 := Nat.le_trans hB0 hW.size
  have hq2 : Blk (w88.alloc (.cells (va .u8 (List.replicate 47 0)) 5)) w88.heap.size 5 (va .u8 (List.replicate 47 0)) := Blk.new _ _ _
  have bx := bAl w88 (.cells (va .u8 (List.replicate 47 0)) 5)
  replace hp1 := blB hp1 bx
  replace hp2 := blB hp2 bx
  replace hp3 := blB hp3 bx
  clear bx
  replace hgm := hgm.alloc (.cells (va .u8 (List.replicate 47 0)) 5)
  replace hAW := hAW.alloc (.cells (va .u8 (List.replicate 47 0)) 5)
  have bx := bAl w88 (.cells (va .u8 (List.replicate 47 0)) 5)
  replace hp7 := blB hp7 bx
  replace hp8 := blB hp8 bx
  replace hp10 := blB hp10 bx
  replace hp11 := blB hp11 bx
  replace hp12 := blB hp12 bx
  replace hp14 := blB hp14 bx
  replace hp16 := blB hp16 bx
  replace hp17 := blB hp17 bx
  replace hW := trB hW hB0 bx
  clear bx
  generalize w88.alloc (.cells (va .u8 (List.replicate 47 0)) 5) = w89 at *
  generalize w88.heap.size = q2 at hq2 lw_q2 lp1_q2 lp2_q2 lp3_q2 lgm_q2 nAW_q2 lp7_q2 lp8_q2 lp10_q2 lp11_q2 lp12_q2 lp14_q2 lp16_q2 lp17_q2 ⊢
  refine callL 104 rfl (by rfl) (fun K hK => wp_callF 12 #[.slice (some ⟨q2, 0, none⟩) 47 47] (by go_simp) (sparse_lenz z hzq.out 47 6 (.inl ⟨by decide, rfl⟩) _ 47 _) ?_)
  rintro e w90 ⟨rfl, bx⟩
  replace hp1 := blB hp1 bx
  replace hp2 := blB hp2 bx
  replace hp3 := blB hp3 bx
  replace hgm := hgm.below bx hgm.lt
  replace hAW := hAW.below bx
  replace hp7 := blB hp7 bx
  replace hp8 := blB hp8 bx
  replace hp10 := blB hp10 bx
  replace hp11 := blB hp11 bx
  replace hp12 := blB hp12 bx
  replace hp14 := blB hp14 bx
  replace hp16 := blB hp16 bx
  replace hp17 := blB hp17 bx
  replace hq2 := hq2.below bx hq2.lt
  replace hW := trB hW hB0 bx
  clear bx
  refine ⟨_, rfl, hK.out _ _ ?_⟩
  clear hK K
  simp only [Ls]
  refine runL 102 (.tuple #[.int .i64 0, .agg (noV 0 0), .agg (va .u8 z), .int .i64 6]) rfl (by rfl) (by go_simp) ?_
  simp only [Ls]
  refine runL 105 (.int .i64 0) rfl (by rfl) (by go_simp) ?_
  simp only [Ls]
  refine runL 106 (.agg (noV 0 0)) rfl (by rfl) (by go_simp) ?_
  simp only [Ls]
  refine runL 107 (.agg (va .u8 z)) rfl (by rfl) (by go_simp) ?_
  simp only [Ls]
  refine runL 108 (.int .i64 6) rfl (by rfl) (by go_simp) ?_
  simp only [Ls]
  refine runWL 22 (.pointer (some ⟨w90.heap.size, 0, none⟩)) (w90.alloc (.cells (noV 0 0) 30)) rfl (by rfl) (exec_allocV 30 rfl _ (zv_Nonce _)) ?_
  simp only [Ls]
  have lp1_p22 := hp1.lt
  have lp2_p22 := hp2.lt
  have lp3_p22 := hp3.lt
  have lgm_p22 := hgm.lt
  have nAW_p22 := hAW.new_off
  have lp7_p22 := hp7.lt
  have lp8_p22 := hp8.lt
  have lp10_p22 := hp10.lt
  have lp11_p22 := hp11.lt
  have lp12_p22 := hp12.lt
  have lp14_p22 := hp14.lt
  have lp16_p22 := hp16.lt
  have lp17_p22 := hp17.lt
  have lq2_p22 := hq2.lt
  have lw_p22 := Nat.le_trans hB0 hW.size
  have hp22 := Blk.new w90 30 (noV 0 0)
  have bx := bAl w90 (.cells (noV 0 0) 30)
  replace hp1 := blB hp1 bx
  replace hp2 := blB hp2 bx
  replace hp3 := blB hp3 bx
  clear bx
  replace hgm := hgm.alloc (.cells (noV 0 0) 30)
  replace hAW := hAW.alloc (.cells (noV 0 0) 30)
  have bx := bAl w90 (.cells (noV 0 0) 30)
  replace hp7 := blB hp7 bx
  replace hp8 := blB hp8 bx
  replace hp10 := blB hp10 bx
  replace hp11 := blB hp11 bx
  replace hp12 := blB hp12 bx
  replace hp14 := blB hp14 bx
  replace hp16 := blB hp16 bx
  replace hp17 := blB hp17 bx
  clear bx
  replace hq2 := hq2.alloc (.cells (noV 0 0) 30)
  replace hW := alB hW hB0 (.cells (noV 0 0) 30)
  generalize w90.alloc (.cells (noV 0 0) 30) = w91 at *
  generalize w90.heap.size = p22 at hp22 lw_p22 lp1_p22 lp2_p22 lp3_p22 lgm_p22 nAW_p22 lp7_p22 lp8_p22 lp10_p22 lp11_p22 lp12_p22 lp14_p22 lp16_p22 lp17_p22 lq2_p22 ⊢
  refine runWL 23 (.pointer (some ⟨w91.heap.size, 0, none⟩)) (w91.alloc (.cells (va .u8 z) 33)) rfl (by rfl) (exec_allocV 33 rfl _ (zv_blkz z hzq.out _)) ?_
  simp only [Ls]
  have lp1_p23 := hp1.lt
  have lp2_p23 := hp2.lt
  have lp3_p23 := hp3.lt
  have lgm_p23 := hgm.lt
  have nAW_p23 := hAW.new_off
  have lp7_p23 := hp7.lt
  have lp8_p23 := hp8.lt
  have lp10_p23 := hp10.lt
  have lp11_p23 := hp11.lt
  have lp12_p23 := hp12.lt
  have lp14_p23 := hp14.lt
  have lp16_p23 := hp16.lt
  have lp17_p23 := hp17.lt
  have lq2_p23 := hq2.lt
  have lp22_p23 := hp22.lt
  have lw_p23 := Nat.le_trans hB0 hW.size
  have hp23 := Blk.new w91 33 (va .u8 z)
  replace hp1 := hp1.alloc (.cells (va .u8 z) 33)
  replace hp2 := hp2.alloc (.cells (va .u8 z) 33)
  replace hp3 := hp3.alloc (.cells (va .u8 z) 33)
  replace hgm := hgm.alloc (.cells (va .u8 z) 33)
  replace hAW := hAW.alloc (.cells (va .u8 z) 33)
  have bx := bAl w91 (.cells (va .u8 z) 33)
  replace hp7 := blB hp7 bx
  replace hp8 := blB hp8 bx
  replace hp10 := blB hp10 bx
  replace hp11 := blB hp11 bx
  replace hp12 := blB hp12 bx
  replace hp14 := blB hp14 bx
  replace hp16 := blB hp16 bx
  replace hp17 := blB hp17 bx
  clear bx
  replace hq2 := hq2.alloc (.cells (va .u8 z) 33)
  have bx := bAl w91 (.cells (va .u8 z) 33)
  replace hp22 := blB hp22 bx
  replace hW := trB hW hB0 bx
  clear bx
  generalize w91.alloc (.cells (va .u8 z) 33) = w92 at *
  generalize w91.heap.size = p23 at hp23 lw_p23 lp1_p23 lp2_p23 lp3_p23 lgm_p23 nAW_p23 lp7_p23 lp8_p23 lp10_p23 lp11_p23 lp12_p23 lp14_p23 lp16_p23 lp17_p23 lq2_p23 lp22_p23 ⊢
  refine runL 21 (.int .i64 0) rfl (by rfl) (by go_simp) ?_
  simp only [Ls]
  refine runSL (w92.setRow p22 (noV 0 0)) rfl (by rfl) (exec_storeRow 30 (.tmp 22) (.tmp 106) rfl p22 rfl (noV 0 0) rfl 30 (noV 0 0) hp22 (sz_eq (noV_sz _ _) (noV_sz _ _)) (noV_sz _ _) (noV_one _ _)) ?_
  replace hp1 := hp1.rowFar (show p22 ≠ p1 from (by omega)) (noV 0 0)
  replace hp2 := hp2.rowFar (show p22 ≠ p2 from (by omega)) (noV 0 0)
  replace hp3 := hp3.rowFar (show p22 ≠ p3 from (by omega)) (noV 0 0)
  replace hgm := hgm.rowFar (show p22 ≠ gm from (by omega)) (noV 0 0)
  replace hAW := hAW.rowFar nAW_p22 (noV 0 0)
  replace hp7 := hp7.rowFar (show p22 ≠ p7 from (by omega)) (noV 0 0)
  replace hp8 := hp8.rowFar (show p22 ≠ p8 from (by omega)) (noV 0 0)
  replace hp10 := hp10.rowFar (show p22 ≠ p10 from (by omega)) (noV 0 0)
  replace hp11 := hp11.rowFar (show p22 ≠ p11 from (by omega)) (noV 0 0)
  replace hp12 := hp12.rowFar (show p22 ≠ p12 from (by omega)) (noV 0 0)
  replace hp14 := hp14.rowFar (show p22 ≠ p14 from (by omega)) (noV 0 0)
  replace hp16 := hp16.rowFar (show p22 ≠ p16 from (by omega)) (noV 0 0)
  replace hp17 := hp17.rowFar (show p22 ≠ p17 from (by omega)) (noV 0 0)
  replace hq2 := hq2.rowFar (show p22 ≠ q2 from (by omega)) (noV 0 0)
  replace hp23 := hp23.rowFar (show p22 ≠ p23 from (by omega)) (noV 0 0)
  replace hp22 := hp22.row (noV 0 0)
  replace hW := below_setRow hW lw_p22 (noV 0 0)
  generalize w92.setRow p22 (noV 0 0) = w93 at *
  refine runSL (w93.setRow p23 (va .u8 z)) rfl (by rfl) (exec_storeRow 33 (.tmp 23) (.tmp 107) rfl p23 rfl (va .u8 z) rfl 33 (va .u8 z) hp23 (sz_eq (sz_api_Block _ hzl) (sz_api_Block _ hzl)) (sz_api_Block _ hzl) (va_ones .u8 _)) ?_
  replace hp1 := hp1.rowFar (show p23 ≠ p1 from (by omega)) (va .u8 z)
  replace hp2 := hp2.rowFar (show p23 ≠ p2 from (by omega)) (va .u8 z)
  replace hp3 := hp3.rowFar (show p23 ≠ p3 from (by omega)) (va .u8 z)
  replace hgm := hgm.rowFar (show p23 ≠ gm from (by omega)) (va .u8 z)
  replace hAW := hAW.rowFar nAW_p23 (va .u8 z)
  replace hp7 := hp7.rowFar (show p23 ≠ p7 from (by omega)) (va .u8 z)
  replace hp8 := hp8.rowFar (show p23 ≠ p8 from (by omega)) (va .u8 z)
  replace hp10 := hp10.rowFar (show p23 ≠ p10 from (by omega)) (va .u8 z)
  replace hp11 := hp11.rowFar (show p23 ≠ p11 from (by omega)) (va .u8 z)
  replace hp12 := hp12.rowFar (show p23 ≠ p12 from (by omega)) (va .u8 z)
  replace hp14 := hp14.rowFar (show p23 ≠ p14 from (by omega)) (va .u8 z)
  replace hp16 := hp16.rowFar (show p23 ≠ p16 from (by omega)) (va .u8 z)
  replace hp17 := hp17.rowFar (show p23 ≠ p17 from (by omega)) (va .u8 z)
  replace hq2 := hq2.rowFar (show p23 ≠ q2 from (by omega)) (va .u8 z)
  replace hp22 := hp22.rowFar (show p23 ≠ p22 from (by omega)) (va .u8 z)
  replace hp23 := hp23.row (va .u8 z)
  replace hW := below_setRow hW lw_p23 (va .u8 z)
  generalize w93.setRow p23 (va .u8 z) = w94 at *
  refine runL 24 (.int .i64 6) rfl (by rfl) (by go_simp) ?_
  simp only [Ls]
  refine nilL ?_
  go_upto_region 15 with fail
  refine wl_lit ?_
  refine runL 109 (.agg (va .u8 z)) rfl (by rfl) (exec_row 33 (.tmp 12) rfl p12 rfl 33 (va .u8 z) _ hp12 (by exact Tryd.underlying33) rfl (sz_api_Block _ hzl)) ?_
  simp only [Ls]
  refine runL 110 (.agg (va .u8 z)) rfl (by rfl) (exec_row 33 (.tmp 3) rfl p3 rfl 33 (va .u8 z) _ hp3 (by exact Tryd.underlying33) rfl (sz_api_Block _ hzl)) ?_
  simp only [Ls]
  refine runL 111 (.bool true) rfl (by rfl) (exec_eqB 33 32 (by kernel_rfl) (by kernel_rfl) (.tmp 109) (.tmp 110) _ rfl z z hzl hzl rfl rfl true (by simp)) ?_
  simp only [Ls]
  refine runL 112 (.bool true) rfl (by rfl) (by go_simp) ?_
  simp only [Ls]
  refine runL 113 (.int .i64 0) rfl (by rfl) (by go_simp) ?_
  simp only [Ls]
  refine runL 114 (.bool true) rfl (by rfl) (by go_simp) ?_
  simp only [Ls]
  refine runL 115 (.bool true) rfl (by rfl) (by go_simp) ?_
  simp only [Ls]
  refine runL 116 (.bool true) rfl (by rfl) (by go_simp) ?_
  simp only [Ls]
  refine runL 117 (.agg (va .u8 z)) rfl (by rfl) (exec_row 33 (.tmp 14) rfl p14 rfl 33 (va .u8 z) _ hp14 (by exact Tryd.underlying33) rfl (sz_api_Block _ hzl)) ?_
  simp only [Ls]
  refine runL 118 (.agg (va .u8 z)) rfl (by rfl) (exec_build 33 _ rfl (va .u8 z) (by rw [← hzq.out]; kernel_rfl)) ?_
  simp only [Ls]
  refine runL 119 (.bool true) rfl (by rfl) (exec_eqB 33 32 (by kernel_rfl) (by kernel_rfl) (.tmp 117) (.tmp 118) _ rfl z z hzl hzl rfl rfl true (by simp)) ?_
  simp only [Ls]
  refine runL 120 (.bool true) rfl (by rfl) (by go_simp) ?_
  simp only [Ls]
  refine runL 121 (.bool true) rfl (by rfl) (by go_simp) ?_
  simp only [Ls]
  refine runL 122 (.int .i64 9) rfl (by rfl) (by go_simp) ?_
  simp only [Ls]
  refine runL 123 (.bool true) rfl (by rfl) (by go_simp) ?_
  simp only [Ls]
  refine runL 124 (.bool true) rfl (by rfl) (by go_simp) ?_
  simp only [Ls]
  refine runL 125 (.bool true) rfl (by rfl) (by go_simp) ?_
  simp only [Ls]
  refine runL 126 (.int .i64 1) rfl (by rfl) (by go_simp) ?_
  simp only [Ls]
  refine runL 127 (.bool true) rfl (by rfl) (by go_simp) ?_
  simp only [Ls]
  refine runL 128 (.bool true) rfl (by rfl) (by go_simp) ?_
  simp only [Ls]
  refine runL 129 (.bool true) rfl (by rfl) (by go_simp) ?_
  simp only [Ls]
  refine runL 130 (.int .i64 1) rfl (by rfl) (by go_simp) ?_
  simp only [Ls]
  refine runL 131 (.bool true) rfl (by rfl) (by go_simp) ?_
  simp only [Ls]
  refine runL 132 (.bool true) rfl (by rfl) (by go_simp) ?_
  simp only [Ls]
  refine runL 133 (.bool true) rfl (by rfl) (by go_simp) ?_
  simp only [Ls]
  refine runL 134 (.int .i64 6) rfl (by rfl) (by go_simp) ?_
  simp only [Ls]
  refine runL 135 (.bool true) rfl (by rfl) (by go_simp) ?_
  simp only [Ls]
  refine runL 136 (.bool true) rfl (by rfl) (by go_simp) ?_
  simp only [Ls]
  refine runL 0 (.bool true) rfl (by rfl) (by go_simp) ?_
  simp only [ls0]
  refine nilL ?_
  go_wp2_with fail
  go_ret
  exact ⟨rfl, hW⟩
end Go.Proofs.YtcfddmplnoknlaaDoor
