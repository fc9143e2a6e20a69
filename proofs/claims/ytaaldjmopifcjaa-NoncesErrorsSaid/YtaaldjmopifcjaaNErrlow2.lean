/-
  Walks of NoncesErrors where New answers in the way 'low2'. (Printed by mkerrors08.py.)
-/
import Derived.Test.YtaaldjmopifcjaaNLives
import Derived.Deep.RegionWith
namespace Go.Proofs.Ytaaldjmopifcjaa
open Go.RowKit Sh

set_option maxRecDepth 100000 in
set_option maxHeartbeats 4000000 in
theorem errors_low2_T1 (n c m l r B : Nat) (cs : List Nat) (A : Option Addr) (k : Int) (hk : 8 < k) (hn20 : n ≤ 20) (hm64 : m < 18446744073709551616) (hl64 : l < 18446744073709551616) (hw : chk cs m l r = 0) (hk0 : 0 ≤ k) (hkn : k < (n : Int)) (w : World) (hr : Reads w B 1 A n (nv .u64 cs)) (hB : B ≤ w.heap.size) :
    Calls Try.prog 3 #[.agg (alV A n c m l r), .int .i64 k] w fun e w' => e = .returned (.bool true) ∧ Below w.heap.size w w' := by
  have h0 := Lib.hid hr
  have hn20' : (n : Int) ≤ 20 := by omega
  have HW := Lib.hid (Below.refl w.heap.size w)
  have hwq := Lib.hid hw
  clear hr hw
  unfold alV
  go_enter Try.func3, Try.ntmps3
  go_wp2_with fail
  refine (rcheck_any A n c m l r B cs _ (h0.out.below ((HW.out.alloc HW.out.size _).mono hB))).mono ?_
  rintro e w' ⟨rfl, rfl⟩
  rw [hwq.out]
  go_wp2_with fail
  refine (new_low k l r (by omega) _).mono ?_
  rintro e w1 ⟨rfl, b⟩
  have HA1z : Blk w1 (w.heap.size) 25 (alV A n c m l r) := Blk.below (Blk.newAt rfl) b (by simp <;> omega)
  have HA1 := Lib.hid HA1z
  clear HA1z
  replace HW := Lib.hid ((HW.out.alloc HW.out.size _).trans (b.mono (HW.out.alloc HW.out.size _).size))
  clear b
  obtain ⟨A10, A11, A12, A13⟩ := alV_cells HA1.out
  have lA1 := HA1.out.lt
  simp only [alV, noV]
  go_wp2_with fail
  refine (check_any A n c m l r B cs _ (h0.out.below ((HW.out.alloc HW.out.size _).mono hB)) (Nat.le_trans hB (HW.out.alloc HW.out.size _).size)).mono ?_
  rintro e w2 ⟨rfl, b⟩
  replace HA1 := Lib.hid ((HA1.out.alloc _).below b (HA1.out.alloc _).lt)
  have HSz : Blk w2 (w1.heap.size) 25 (alV none 0 0 0 0 0) := Blk.below (Blk.newAt rfl) b (by simp <;> omega)
  have HS := Lib.hid HSz
  clear HSz
  replace HW := Lib.hid ((HW.out.alloc HW.out.size _).trans (b.mono (HW.out.alloc HW.out.size _).size))
  clear b
  clear A10 A11 A12 A13 lA1
  rw [hwq.out]
  obtain ⟨A10, A11, A12, A13⟩ := alV_cells HA1.out
  have lA1 := HA1.out.lt
  obtain ⟨S0, S1, S2, S3⟩ := alV_cells HS.out
  have lS := HS.out.lt
  simp only [alV, noV]
  go_wp2_with fail
  refine (lives08 _).mono ?_
  rintro e w3 ⟨rfl, b⟩
  replace HA1 := Lib.hid (HA1.out.below b HA1.out.lt)
  replace HS := Lib.hid (HS.out.below b HS.out.lt)
  replace HW := Lib.hid (HW.out.trans (b.mono HW.out.size))
  clear b
  go_wp2
  go_ret
  exact ⟨rfl, HW.out⟩

set_option maxRecDepth 100000 in
set_option maxHeartbeats 4000000 in
theorem errors_low2_T2 (n c m l r B : Nat) (cs : List Nat) (A : Option Addr) (k : Int) (hk : 8 < k) (hn20 : n ≤ 20) (hm64 : m < 18446744073709551616) (hl64 : l < 18446744073709551616) (hw : chk cs m l r = 1) (w : World) (hr : Reads w B 1 A n (nv .u64 cs)) (hB : B ≤ w.heap.size) :
    Calls Try.prog 3 #[.agg (alV A n c m l r), .int .i64 k] w fun e w' => e = .returned (.bool true) ∧ Below w.heap.size w w' := by
  have h0 := Lib.hid hr
  have hn20' : (n : Int) ≤ 20 := by omega
  have HW := Lib.hid (Below.refl w.heap.size w)
  have hwq := Lib.hid hw
  clear hr hw
  unfold alV
  go_enter Try.func3, Try.ntmps3
  go_wp2_with fail
  refine (rcheck_any A n c m l r B cs _ (h0.out.below ((HW.out.alloc HW.out.size _).mono hB))).mono ?_
  rintro e w' ⟨rfl, rfl⟩
  rw [hwq.out]
  go_wp2_with fail
  refine (new_low k l r (by omega) _).mono ?_
  rintro e w1 ⟨rfl, b⟩
  have HA1z : Blk w1 (w.heap.size) 25 (alV A n c m l r) := Blk.below (Blk.newAt rfl) b (by simp <;> omega)
  have HA1 := Lib.hid HA1z
  clear HA1z
  replace HW := Lib.hid ((HW.out.alloc HW.out.size _).trans (b.mono (HW.out.alloc HW.out.size _).size))
  clear b
  obtain ⟨A10, A11, A12, A13⟩ := alV_cells HA1.out
  have lA1 := HA1.out.lt
  simp only [alV, noV]
  go_wp2_with fail
  refine (check_any A n c m l r B cs _ (h0.out.below ((HW.out.alloc HW.out.size _).mono hB)) (Nat.le_trans hB (HW.out.alloc HW.out.size _).size)).mono ?_
  rintro e w2 ⟨rfl, b⟩
  replace HA1 := Lib.hid ((HA1.out.alloc _).below b (HA1.out.alloc _).lt)
  have HSz : Blk w2 (w1.heap.size) 25 (alV none 0 0 0 0 0) := Blk.below (Blk.newAt rfl) b (by simp <;> omega)
  have HS := Lib.hid HSz
  clear HSz
  replace HW := Lib.hid ((HW.out.alloc HW.out.size _).trans (b.mono (HW.out.alloc HW.out.size _).size))
  clear b
  clear A10 A11 A12 A13 lA1
  rw [hwq.out]
  obtain ⟨A10, A11, A12, A13⟩ := alV_cells HA1.out
  have lA1 := HA1.out.lt
  obtain ⟨S0, S1, S2, S3⟩ := alV_cells HS.out
  have lS := HS.out.lt
  simp only [alV, noV]
  go_wp2_with fail
  refine (take_bad A n c m l r B cs k (Or.inl hwq.out) _ (h0.out.below (HW.out.mono hB)) (Nat.le_trans hB HW.out.size)).mono ?_
  rintro e w3 ⟨rfl, b⟩
  replace HA1 := Lib.hid (HA1.out.below b HA1.out.lt)
  replace HS := Lib.hid (HS.out.below b HS.out.lt)
  replace HW := Lib.hid (HW.out.trans (b.mono HW.out.size))
  clear b
  clear A10 A11 A12 A13 lA1 S0 S1 S2 S3 lS
  clear HS
  obtain ⟨A10, A11, A12, A13⟩ := alV_cells HA1.out
  have lA1 := HA1.out.lt
  simp only [alV, noV]
  go_wp2_with fail
  refine (left_bad A n c m l r B cs k (Or.inl hwq.out) _ (h0.out.below (((HW.out.alloc HW.out.size _).alloc (HW.out.alloc HW.out.size _).size _).mono hB)) (Nat.le_trans hB ((HW.out.alloc HW.out.size _).alloc (HW.out.alloc HW.out.size _).size _).size)).mono ?_
  rintro e w4 ⟨rfl, b⟩
  replace HA1 := Lib.hid (((HA1.out.alloc _).alloc _).below b ((HA1.out.alloc _).alloc _).lt)
  have Hx8z : Blk w4 (w3.heap.size) 35 (noV 0 0) := Blk.below ((Blk.newAt rfl).alloc _) b (by simp <;> omega)
  have Hx8 := Lib.hid Hx8z
  clear Hx8z
  have Hx9z : Blk w4 (w3.heap.size + 1) 25 (alV none 0 0 0 0 0) := Blk.below (Blk.newAt (by simp)) b (by simp <;> omega)
  have Hx9 := Lib.hid Hx9z
  clear Hx9z
  replace HW := Lib.hid (((HW.out.alloc HW.out.size _).alloc (HW.out.alloc HW.out.size _).size _).trans (b.mono ((HW.out.alloc HW.out.size _).alloc (HW.out.alloc HW.out.size _).size _).size))
  clear b
  clear A10 A11 A12 A13 lA1
  obtain ⟨A10, A11, A12, A13⟩ := alV_cells HA1.out
  have lA1 := HA1.out.lt
  obtain ⟨x80, x81⟩ := noV_cells Hx8.out
  have lx8 := Hx8.out.lt
  obtain ⟨x90, x91, x92, x93⟩ := alV_cells Hx9.out
  have lx9 := Hx9.out.lt
  simp only [alV, noV]
  go_wp2_with fail
  refine (extend_bad A n c m l r B cs hwq.out _ (h0.out.below (HW.out.mono hB)) (Nat.le_trans hB HW.out.size)).mono ?_
  rintro e w5 ⟨rfl, b⟩
  replace HA1 := Lib.hid (HA1.out.below b HA1.out.lt)
  replace Hx8 := Lib.hid (Hx8.out.below b Hx8.out.lt)
  replace Hx9 := Lib.hid (Hx9.out.below b Hx9.out.lt)
  replace HW := Lib.hid (HW.out.trans (b.mono HW.out.size))
  clear b
  clear A10 A11 A12 A13 lA1 x80 x81 lx8 x90 x91 x92 x93 lx9
  clear Hx8 Hx9
  obtain ⟨A10, A11, A12, A13⟩ := alV_cells HA1.out
  have lA1 := HA1.out.lt
  simp only [alV, noV]
  go_wp2_with fail
  refine (crash_bad A n c m l r B cs hwq.out _ (h0.out.below ((HW.out.alloc HW.out.size _).mono hB)) (Nat.le_trans hB (HW.out.alloc HW.out.size _).size)).mono ?_
  rintro e w6 ⟨rfl, b⟩
  replace HA1 := Lib.hid ((HA1.out.alloc _).below b (HA1.out.alloc _).lt)
  replace HW := Lib.hid ((HW.out.alloc HW.out.size _).trans (b.mono (HW.out.alloc HW.out.size _).size))
  clear b
  clear A10 A11 A12 A13 lA1
  simp only [alV, noV]
  go_wp2_with fail
  refine (lives08 _).mono ?_
  rintro e w7 ⟨rfl, b⟩
  replace HA1 := Lib.hid ((HA1.out.alloc _).below b (HA1.out.alloc _).lt)
  replace HW := Lib.hid ((HW.out.alloc HW.out.size _).trans (b.mono (HW.out.alloc HW.out.size _).size))
  clear b
  go_wp2
  go_ret
  exact ⟨rfl, HW.out⟩

set_option maxRecDepth 100000 in
set_option maxHeartbeats 4000000 in
theorem errors_low2_T3a (n c m l r B : Nat) (cs : List Nat) (ad : Addr) (k : Int) (hk : 8 < k) (hn20 : n ≤ 20) (hm64 : m < 18446744073709551616) (hl64 : l < 18446744073709551616) (hw : chk cs m l r = 0) (hko : (n : Int) ≤ k) (hn1 : 1 ≤ n) (hn8 : n ≤ 8) (hml : m ≤ l) (hmr : m + r ≤ l) (w : World) (hr : Reads w B 1 (some ad) n (nv .u64 cs)) (hB : B ≤ w.heap.size) :
    Calls Try.prog 3 #[.agg (alV (some ad) n c m l r), .int .i64 k] w fun e w' => e = .returned (.bool true) ∧ Below w.heap.size w w' := by
  have h0 := Lib.hid hr
  have hn20' : (n : Int) ≤ 20 := by omega
  have HW := Lib.hid (Below.refl w.heap.size w)
  have hwq := Lib.hid hw
  clear hr hw
  unfold alV
  go_enter Try.func3, Try.ntmps3
  go_wp2_with fail
  refine (rcheck_any (some ad) n c m l r B cs _ (h0.out.below ((HW.out.alloc HW.out.size _).mono hB))).mono ?_
  rintro e w' ⟨rfl, rfl⟩
  rw [hwq.out]
  go_wp2_with fail
  refine (new_low k l r (by omega) _).mono ?_
  rintro e w1 ⟨rfl, b⟩
  have HA1z : Blk w1 (w.heap.size) 25 (alV (some ad) n c m l r) := Blk.below (Blk.newAt rfl) b (by simp <;> omega)
  have HA1 := Lib.hid HA1z
  clear HA1z
  replace HW := Lib.hid ((HW.out.alloc HW.out.size _).trans (b.mono (HW.out.alloc HW.out.size _).size))
  clear b
  obtain ⟨A10, A11, A12, A13⟩ := alV_cells HA1.out
  have lA1 := HA1.out.lt
  simp only [alV, noV]
  go_wp2_with fail
  refine (check_any (some ad) n c m l r B cs _ (h0.out.below ((HW.out.alloc HW.out.size _).mono hB)) (Nat.le_trans hB (HW.out.alloc HW.out.size _).size)).mono ?_
  rintro e w2 ⟨rfl, b⟩
  replace HA1 := Lib.hid ((HA1.out.alloc _).below b (HA1.out.alloc _).lt)
  have HSz : Blk w2 (w1.heap.size) 25 (alV none 0 0 0 0 0) := Blk.below (Blk.newAt rfl) b (by simp <;> omega)
  have HS := Lib.hid HSz
  clear HSz
  replace HW := Lib.hid ((HW.out.alloc HW.out.size _).trans (b.mono (HW.out.alloc HW.out.size _).size))
  clear b
  clear A10 A11 A12 A13 lA1
  rw [hwq.out]
  obtain ⟨A10, A11, A12, A13⟩ := alV_cells HA1.out
  have lA1 := HA1.out.lt
  obtain ⟨S0, S1, S2, S3⟩ := alV_cells HS.out
  have lS := HS.out.lt
  simp only [alV, noV]
  go_wp2_with fail
  refine (take_bad (some ad) n c m l r B cs k (Or.inr (Or.inr hko)) _ (h0.out.below (HW.out.mono hB)) (Nat.le_trans hB HW.out.size)).mono ?_
  rintro e w3 ⟨rfl, b⟩
  replace HA1 := Lib.hid (HA1.out.below b HA1.out.lt)
  replace HS := Lib.hid (HS.out.below b HS.out.lt)
  replace HW := Lib.hid (HW.out.trans (b.mono HW.out.size))
  clear b
  clear A10 A11 A12 A13 lA1 S0 S1 S2 S3 lS
  clear HS
  obtain ⟨A10, A11, A12, A13⟩ := alV_cells HA1.out
  have lA1 := HA1.out.lt
  simp only [alV, noV]
  go_wp2_with fail
  refine (left_bad (some ad) n c m l r B cs k (Or.inr (Or.inr hko)) _ (h0.out.below (((HW.out.alloc HW.out.size _).alloc (HW.out.alloc HW.out.size _).size _).mono hB)) (Nat.le_trans hB ((HW.out.alloc HW.out.size _).alloc (HW.out.alloc HW.out.size _).size _).size)).mono ?_
  rintro e w4 ⟨rfl, b⟩
  replace HA1 := Lib.hid (((HA1.out.alloc _).alloc _).below b ((HA1.out.alloc _).alloc _).lt)
  have Hx8z : Blk w4 (w3.heap.size) 35 (noV 0 0) := Blk.below ((Blk.newAt rfl).alloc _) b (by simp <;> omega)
  have Hx8 := Lib.hid Hx8z
  clear Hx8z
  have Hx9z : Blk w4 (w3.heap.size + 1) 25 (alV none 0 0 0 0 0) := Blk.below (Blk.newAt (by simp)) b (by simp <;> omega)
  have Hx9 := Lib.hid Hx9z
  clear Hx9z
  replace HW := Lib.hid (((HW.out.alloc HW.out.size _).alloc (HW.out.alloc HW.out.size _).size _).trans (b.mono ((HW.out.alloc HW.out.size _).alloc (HW.out.alloc HW.out.size _).size _).size))
  clear b
  clear A10 A11 A12 A13 lA1
  obtain ⟨A10, A11, A12, A13⟩ := alV_cells HA1.out
  have lA1 := HA1.out.lt
  obtain ⟨x80, x81⟩ := noV_cells Hx8.out
  have lx8 := Hx8.out.lt
  obtain ⟨x90, x91, x92, x93⟩ := alV_cells Hx9.out
  have lx9 := Hx9.out.lt
  simp only [alV, noV]
  go_wp2_with fail
  refine (extend_ok ad n c m l r B cs hn1 hn8 hwq.out hml hl64 hmr _ (h0.out.below (HW.out.mono hB)) (Nat.le_trans hB HW.out.size)).mono ?_
  rintro e w5 ⟨ge, rfl, -, -, b⟩
  replace HA1 := Lib.hid (HA1.out.below b HA1.out.lt)
  replace Hx8 := Lib.hid (Hx8.out.below b Hx8.out.lt)
  replace Hx9 := Lib.hid (Hx9.out.below b Hx9.out.lt)
  replace HW := Lib.hid (HW.out.trans (b.mono HW.out.size))
  clear b
  clear A10 A11 A12 A13 lA1 x80 x81 lx8 x90 x91 x92 x93 lx9
  clear Hx8 Hx9
  obtain ⟨A10, A11, A12, A13⟩ := alV_cells HA1.out
  have lA1 := HA1.out.lt
  simp only [alV, noV]
  go_wp2_with fail
  refine (crash_ok ad n c m l r B cs hn1 hn8 hwq.out hm64 _ (h0.out.below ((HW.out.alloc HW.out.size _).mono hB)) (Nat.le_trans hB (HW.out.alloc HW.out.size _).size)).mono ?_
  rintro e w6 ⟨gx, rfl, -, -, b⟩
  replace HA1 := Lib.hid ((HA1.out.alloc _).below b (HA1.out.alloc _).lt)
  replace HW := Lib.hid ((HW.out.alloc HW.out.size _).trans (b.mono (HW.out.alloc HW.out.size _).size))
  clear b
  clear A10 A11 A12 A13 lA1
  simp only [alV, noV]
  go_wp2_with fail
  refine (lives08 _).mono ?_
  rintro e w7 ⟨rfl, b⟩
  replace HA1 := Lib.hid ((HA1.out.alloc _).below b (HA1.out.alloc _).lt)
  replace HW := Lib.hid ((HW.out.alloc HW.out.size _).trans (b.mono (HW.out.alloc HW.out.size _).size))
  clear b
  go_wp2
  go_ret
  exact ⟨rfl, HW.out⟩

set_option maxRecDepth 100000 in
set_option maxHeartbeats 4000000 in
theorem errors_low2_T3b (n c m l r B : Nat) (cs : List Nat) (ad : Addr) (k : Int) (hk : 8 < k) (hn20 : n ≤ 20) (hm64 : m < 18446744073709551616) (hl64 : l < 18446744073709551616) (hw : chk cs m l r = 0) (hko : (n : Int) ≤ k) (hn1 : 1 ≤ n) (hn8 : n ≤ 8) (hml : m ≤ l) (hmr : l < m + r) (w : World) (hr : Reads w B 1 (some ad) n (nv .u64 cs)) (hB : B ≤ w.heap.size) :
    Calls Try.prog 3 #[.agg (alV (some ad) n c m l r), .int .i64 k] w fun e w' => e = .returned (.bool true) ∧ Below w.heap.size w w' := by
  have h0 := Lib.hid hr
  have hn20' : (n : Int) ≤ 20 := by omega
  have HW := Lib.hid (Below.refl w.heap.size w)
  have hwq := Lib.hid hw
  clear hr hw
  unfold alV
  go_enter Try.func3, Try.ntmps3
  go_wp2_with fail
  refine (rcheck_any (some ad) n c m l r B cs _ (h0.out.below ((HW.out.alloc HW.out.size _).mono hB))).mono ?_
  rintro e w' ⟨rfl, rfl⟩
  rw [hwq.out]
  go_wp2_with fail
  refine (new_low k l r (by omega) _).mono ?_
  rintro e w1 ⟨rfl, b⟩
  have HA1z : Blk w1 (w.heap.size) 25 (alV (some ad) n c m l r) := Blk.below (Blk.newAt rfl) b (by simp <;> omega)
  have HA1 := Lib.hid HA1z
  clear HA1z
  replace HW := Lib.hid ((HW.out.alloc HW.out.size _).trans (b.mono (HW.out.alloc HW.out.size _).size))
  clear b
  obtain ⟨A10, A11, A12, A13⟩ := alV_cells HA1.out
  have lA1 := HA1.out.lt
  simp only [alV, noV]
  go_wp2_with fail
  refine (check_any (some ad) n c m l r B cs _ (h0.out.below ((HW.out.alloc HW.out.size _).mono hB)) (Nat.le_trans hB (HW.out.alloc HW.out.size _).size)).mono ?_
  rintro e w2 ⟨rfl, b⟩
  replace HA1 := Lib.hid ((HA1.out.alloc _).below b (HA1.out.alloc _).lt)
  have HSz : Blk w2 (w1.heap.size) 25 (alV none 0 0 0 0 0) := Blk.below (Blk.newAt rfl) b (by simp <;> omega)
  have HS := Lib.hid HSz
  clear HSz
  replace HW := Lib.hid ((HW.out.alloc HW.out.size _).trans (b.mono (HW.out.alloc HW.out.size _).size))
  clear b
  clear A10 A11 A12 A13 lA1
  rw [hwq.out]
  obtain ⟨A10, A11, A12, A13⟩ := alV_cells HA1.out
  have lA1 := HA1.out.lt
  obtain ⟨S0, S1, S2, S3⟩ := alV_cells HS.out
  have lS := HS.out.lt
  simp only [alV, noV]
  go_wp2_with fail
  refine (take_bad (some ad) n c m l r B cs k (Or.inr (Or.inr hko)) _ (h0.out.below (HW.out.mono hB)) (Nat.le_trans hB HW.out.size)).mono ?_
  rintro e w3 ⟨rfl, b⟩
  replace HA1 := Lib.hid (HA1.out.below b HA1.out.lt)
  replace HS := Lib.hid (HS.out.below b HS.out.lt)
  replace HW := Lib.hid (HW.out.trans (b.mono HW.out.size))
  clear b
  clear A10 A11 A12 A13 lA1 S0 S1 S2 S3 lS
  clear HS
  obtain ⟨A10, A11, A12, A13⟩ := alV_cells HA1.out
  have lA1 := HA1.out.lt
  simp only [alV, noV]
  go_wp2_with fail
  refine (left_bad (some ad) n c m l r B cs k (Or.inr (Or.inr hko)) _ (h0.out.below (((HW.out.alloc HW.out.size _).alloc (HW.out.alloc HW.out.size _).size _).mono hB)) (Nat.le_trans hB ((HW.out.alloc HW.out.size _).alloc (HW.out.alloc HW.out.size _).size _).size)).mono ?_
  rintro e w4 ⟨rfl, b⟩
  replace HA1 := Lib.hid (((HA1.out.alloc _).alloc _).below b ((HA1.out.alloc _).alloc _).lt)
  have Hx8z : Blk w4 (w3.heap.size) 35 (noV 0 0) := Blk.below ((Blk.newAt rfl).alloc _) b (by simp <;> omega)
  have Hx8 := Lib.hid Hx8z
  clear Hx8z
  have Hx9z : Blk w4 (w3.heap.size + 1) 25 (alV none 0 0 0 0 0) := Blk.below (Blk.newAt (by simp)) b (by simp <;> omega)
  have Hx9 := Lib.hid Hx9z
  clear Hx9z
  replace HW := Lib.hid (((HW.out.alloc HW.out.size _).alloc (HW.out.alloc HW.out.size _).size _).trans (b.mono ((HW.out.alloc HW.out.size _).alloc (HW.out.alloc HW.out.size _).size _).size))
  clear b
  clear A10 A11 A12 A13 lA1
  obtain ⟨A10, A11, A12, A13⟩ := alV_cells HA1.out
  have lA1 := HA1.out.lt
  obtain ⟨x80, x81⟩ := noV_cells Hx8.out
  have lx8 := Hx8.out.lt
  obtain ⟨x90, x91, x92, x93⟩ := alV_cells Hx9.out
  have lx9 := Hx9.out.lt
  simp only [alV, noV]
  go_wp2_with fail
  refine (extend_over (some ad) n c m l r B cs hwq.out hml hl64 hmr _ (h0.out.below (HW.out.mono hB)) (Nat.le_trans hB HW.out.size)).mono ?_
  rintro e w5 ⟨rfl, b⟩
  replace HA1 := Lib.hid (HA1.out.below b HA1.out.lt)
  replace Hx8 := Lib.hid (Hx8.out.below b Hx8.out.lt)
  replace Hx9 := Lib.hid (Hx9.out.below b Hx9.out.lt)
  replace HW := Lib.hid (HW.out.trans (b.mono HW.out.size))
  clear b
  clear A10 A11 A12 A13 lA1 x80 x81 lx8 x90 x91 x92 x93 lx9
  clear Hx8 Hx9
  obtain ⟨A10, A11, A12, A13⟩ := alV_cells HA1.out
  have lA1 := HA1.out.lt
  simp only [alV, noV]
  go_wp2_with fail
  refine (crash_ok ad n c m l r B cs hn1 hn8 hwq.out hm64 _ (h0.out.below ((HW.out.alloc HW.out.size _).mono hB)) (Nat.le_trans hB (HW.out.alloc HW.out.size _).size)).mono ?_
  rintro e w6 ⟨gx, rfl, -, -, b⟩
  replace HA1 := Lib.hid ((HA1.out.alloc _).below b (HA1.out.alloc _).lt)
  replace HW := Lib.hid ((HW.out.alloc HW.out.size _).trans (b.mono (HW.out.alloc HW.out.size _).size))
  clear b
  clear A10 A11 A12 A13 lA1
  simp only [alV, noV]
  go_wp2_with fail
  refine (lives08 _).mono ?_
  rintro e w7 ⟨rfl, b⟩
  replace HA1 := Lib.hid ((HA1.out.alloc _).below b (HA1.out.alloc _).lt)
  replace HW := Lib.hid ((HW.out.alloc HW.out.size _).trans (b.mono (HW.out.alloc HW.out.size _).size))
  clear b
  go_wp2
  go_ret
  exact ⟨rfl, HW.out⟩

end Go.Proofs.Ytaaldjmopifcjaa
