/-
  Walks of NoncesErrors where New answers in the way 'good'. (Printed by mkerrors08.py.)
-/
import Derived.Test.YtaaldjmopifcjaaNErrAux
import Derived.Deep.RegionWith
import Derived.Deep.DeepCutAuto
namespace Go.Proofs.Ytaaldjmopifcjaa
open Go.RowKit Sh

set_option maxRecDepth 100000 in
set_option maxHeartbeats 4000000 in
theorem errors_good (n c m l r B : Nat) (cs : List Nat) (A : Option Addr) (k : Nat) (hk1 : 1 ≤ k) (hk8 : k ≤ 8) (hc : chk (List.replicate k 0) 0 l r = 0) (hz : chk [0] 0 l r = 0) (hn20 : n ≤ 20) (hm64 : m < 18446744073709551616) (hl64 : l < 18446744073709551616) (q : Nat) (hq : chk cs m l r = q) (ht : (q = 0 ∧ 0 ≤ (k : Int) ∧ (k : Int) < (n : Int)) ∨ q = 1 ∨ (q = 0 ∧ (n : Int) ≤ (k : Int))) (w : World) (hr : Reads w B 1 A n (nv .u64 cs)) (hB : B ≤ w.heap.size) :
    Calls Try.prog 3 #[.agg (alV A n c m l r), .int .i64 (k : Int)] w fun e w' => e = .returned (.bool true) ∧ Below w.heap.size w w' := by
  have h0 := Lib.hid hr
  have hn20' : (n : Int) ≤ 20 := by omega
  have hk1' : (1 : Int) ≤ (k : Int) := by omega
  have hk8' : (k : Int) ≤ 8 := by omega
  have HW := Lib.hid (Below.refl w.heap.size w)
  have hlen := Lib.hid hr.len
  have hqq := Lib.hid hq
  have htq := Lib.hid ht
  clear hq ht
  have hcq := Lib.hid hc
  have hzq := Lib.hid hz
  clear hr hc hz
  have hmk := make_u64 k (by omega)
  unfold alV
  go_enter Try.func3, Try.ntmps3
  go_wp2_with fail
  refine (rcheck_any A n c m l r B cs _ (h0.out.below ((HW.out.alloc HW.out.size _).mono hB))).mono ?_
  rintro e w' ⟨rfl, rfl⟩
  rw [hqq.out]
  go_wp2_with fail
  refine (new_good k l r hk1 hk8 hcq.out _).mono ?_
  rintro e w1 ⟨g, rfl, hg, hgg, b⟩
  have HA1z : Blk w1 (w.heap.size) 25 (alV A n c m l r) := Blk.below (Blk.newAt rfl) b (by simp <;> omega)
  have HA1 := Lib.hid HA1z
  clear HA1z
  have Hg := Lib.hid hg
  replace HW := Lib.hid ((HW.out.alloc HW.out.size _).trans (b.mono (HW.out.alloc HW.out.size _).size))
  clear b hg
  obtain ⟨A10, A11, A12, A13⟩ := alV_cells HA1.out
  have lA1 := HA1.out.lt
  try simp only [alV, noV]
  go_wp2_with fail
  refine (check_any A n c m l r B cs _ (h0.out.below ((HW.out.alloc HW.out.size _).mono hB)) (Nat.le_trans hB (HW.out.alloc HW.out.size _).size)).mono ?_
  rintro e w2 ⟨rfl, b⟩
  replace HA1 := Lib.hid ((HA1.out.alloc _).below b (HA1.out.alloc _).lt)
  replace Hg := Lib.hid ((Hg.out.alloc _).below b (Hg.out.alloc _).lt)
  have HSz : Blk w2 (w1.heap.size) 25 (alV (some ⟨g, 0, none⟩) k k 0 l r) := Blk.below (Blk.newAt rfl) b (by simp <;> omega)
  have HS := Lib.hid HSz
  clear HSz
  replace HW := Lib.hid ((HW.out.alloc HW.out.size _).trans (b.mono (HW.out.alloc HW.out.size _).size))
  clear b
  clear A10 A11 A12 A13 lA1
  rw [hqq.out]
  obtain ⟨A10, A11, A12, A13⟩ := alV_cells HA1.out
  have lA1 := HA1.out.lt
  obtain ⟨S0, S1, S2, S3⟩ := alV_cells HS.out
  have lS := HS.out.lt
  try simp only [alV, noV]
  go_wp2_with fail
  refine (rcheck_any (some ⟨w2.heap.size, 0, none⟩) 1 1 0 l r (w2.heap.size + 1) [0] _ ((Blk.newAt rfl).readsAll (by omega) rfl)).mono ?_
  rintro e w' ⟨rfl, rfl⟩
  rw [hzq.out]
  try simp only [alV, noV]
  go_upto_region 10 with fail
  go_cut [80] (fun v wx => v = .bool false ∧ Blk wx w.heap.size 25 (alV A n c m l r) ∧ Below w.heap.size w wx)
  case first =>
    go_region_with (first
      | (go_at_call 12
         refine (same_true ⟨g, 0, none⟩ ⟨w2.heap.size + 1, 0, none⟩ k k 0 l r (w2.heap.size + 1 + 1) (List.replicate k 0) hk1 (by omega) _ ?h1 ?h2 ?h3).mono ?_
         case h1 => exact ((Hg.out.alloc _).alloc _).drew.readsAll (by have := Hg.out.lt; omega) (by simp)
         case h2 => exact (Blk.newAt (by simp)).drew.readsAll (by omega) (by simp)
         case h3 => simp
         rintro e w3 ⟨rfl, b⟩))
    all_goals
      have HA2 := Lib.hid (((HA1.out.alloc _).alloc _).drew.below b ((HA1.out.alloc _).alloc _).drew.lt)
      have HW2 := Lib.hid ((below_drewN ((HW.out.alloc HW.out.size _).alloc (HW.out.alloc HW.out.size _).size _) 1).trans (b.mono (below_drewN ((HW.out.alloc HW.out.size _).alloc (HW.out.alloc HW.out.size _).size _) 1).size))
      clear b hmk
      go_wp2_with fail
      go_meet
      exact ⟨rfl, HA2.out, HW2.out⟩
  case rest =>
    obtain ⟨rfl, ha, hb⟩ := hcut
    replace HA1 := Lib.hid ha
    replace HW := Lib.hid hb
    clear ha hb hmk Hg HS A10 A11 A12 A13 lA1 S0 S1 S2 S3 lS
    rcases htq.out with ⟨rfl, hk0, hkn⟩ | rfl | ⟨rfl, hko⟩
    · obtain ⟨A10, A11, A12, A13⟩ := alV_cells HA1.out
      have lA1 := HA1.out.lt
      have hwq := hqq
      try simp only [alV, noV]
      go_wp2_with fail
      refine (lives08 _).mono ?_
      rintro e w4 ⟨rfl, b⟩
      replace HA1 := Lib.hid (HA1.out.below b HA1.out.lt)
      replace HW := Lib.hid (HW.out.trans (b.mono HW.out.size))
      clear b
      go_wp2
      go_ret
      exact ⟨rfl, HW.out⟩
    · obtain ⟨A10, A11, A12, A13⟩ := alV_cells HA1.out
      have lA1 := HA1.out.lt
      have hwq := hqq
      try simp only [alV, noV]
      go_wp2_with fail
      refine (take_bad A n c m l r B cs (k : Int) (Or.inl hwq.out) _ (h0.out.below (HW.out.mono hB)) (Nat.le_trans hB HW.out.size)).mono ?_
      rintro e w4 ⟨rfl, b⟩
      replace HA1 := Lib.hid (HA1.out.below b HA1.out.lt)
      replace HW := Lib.hid (HW.out.trans (b.mono HW.out.size))
      clear b
      clear A10 A11 A12 A13 lA1
      obtain ⟨A10, A11, A12, A13⟩ := alV_cells HA1.out
      have lA1 := HA1.out.lt
      try simp only [alV, noV]
      go_wp2_with fail
      refine (left_bad A n c m l r B cs (k : Int) (Or.inl hwq.out) _ (h0.out.below (((HW.out.alloc HW.out.size _).alloc (HW.out.alloc HW.out.size _).size _).mono hB)) (Nat.le_trans hB ((HW.out.alloc HW.out.size _).alloc (HW.out.alloc HW.out.size _).size _).size)).mono ?_
      rintro e w5 ⟨rfl, b⟩
      replace HA1 := Lib.hid (((HA1.out.alloc _).alloc _).below b ((HA1.out.alloc _).alloc _).lt)
      have Hx8z : Blk w5 (w4.heap.size) 35 (noV 0 0) := Blk.below ((Blk.newAt rfl).alloc _) b (by simp <;> omega)
      have Hx8 := Lib.hid Hx8z
      clear Hx8z
      have Hx9z : Blk w5 (w4.heap.size + 1) 25 (alV none 0 0 0 0 0) := Blk.below (Blk.newAt (by simp)) b (by simp <;> omega)
      have Hx9 := Lib.hid Hx9z
      clear Hx9z
      replace HW := Lib.hid (((HW.out.alloc HW.out.size _).alloc (HW.out.alloc HW.out.size _).size _).trans (b.mono ((HW.out.alloc HW.out.size _).alloc (HW.out.alloc HW.out.size _).size _).size))
      clear b
      clear A10 A11 A12 A13 lA1
      obtain ⟨A10, A11, A12, A13⟩ := alV_cells HA1.out
      have lA1 := HA1.out.lt
      obtain ⟨x80, x81⟩ := noV_cells Hx8.out
      have lx8 := Hx8.out.lt
      obtain ⟨x90, x91, x92, x93⟩ := alV_cells Hx9.out
      have lx9 := Hx9.out.lt
      try simp only [alV, noV]
      go_wp2_with fail
      refine (extend_bad A n c m l r B cs hwq.out _ (h0.out.below (HW.out.mono hB)) (Nat.le_trans hB HW.out.size)).mono ?_
      rintro e w6 ⟨rfl, b⟩
      replace HA1 := Lib.hid (HA1.out.below b HA1.out.lt)
      replace Hx8 := Lib.hid (Hx8.out.below b Hx8.out.lt)
      replace Hx9 := Lib.hid (Hx9.out.below b Hx9.out.lt)
      replace HW := Lib.hid (HW.out.trans (b.mono HW.out.size))
      clear b
      clear A10 A11 A12 A13 lA1 x80 x81 lx8 x90 x91 x92 x93 lx9
      clear Hx8 Hx9
      obtain ⟨A10, A11, A12, A13⟩ := alV_cells HA1.out
      have lA1 := HA1.out.lt
      try simp only [alV, noV]
      go_wp2_with fail
      refine (crash_bad A n c m l r B cs hwq.out _ (h0.out.below ((HW.out.alloc HW.out.size _).mono hB)) (Nat.le_trans hB (HW.out.alloc HW.out.size _).size)).mono ?_
      rintro e w7 ⟨rfl, b⟩
      replace HA1 := Lib.hid ((HA1.out.alloc _).below b (HA1.out.alloc _).lt)
      replace HW := Lib.hid ((HW.out.alloc HW.out.size _).trans (b.mono (HW.out.alloc HW.out.size _).size))
      clear b
      clear A10 A11 A12 A13 lA1
      try simp only [alV, noV]
      go_wp2_with fail
      refine (lives08 _).mono ?_
      rintro e w8 ⟨rfl, b⟩
      replace HA1 := Lib.hid ((HA1.out.alloc _).below b (HA1.out.alloc _).lt)
      replace HW := Lib.hid ((HW.out.alloc HW.out.size _).trans (b.mono (HW.out.alloc HW.out.size _).size))
      clear b
      go_wp2
      go_ret
      exact ⟨rfl, HW.out⟩
    · obtain ⟨hn1, hn8, hml⟩ := chk_zero hlen.out hqq.out
      obtain ⟨ad, rfl, _, _⟩ := h0.out.num (i := 0) (by omega)
      have hwq := hqq
      have hkoq := Lib.hid hko
      by_cases hmr : m + r ≤ l
      · obtain ⟨A10, A11, A12, A13⟩ := alV_cells HA1.out
        have lA1 := HA1.out.lt
        try simp only [alV, noV]
        go_wp2_with fail
        refine (take_bad (some ad) n c m l r B cs (k : Int) (Or.inr (Or.inr hko)) _ (h0.out.below (HW.out.mono hB)) (Nat.le_trans hB HW.out.size)).mono ?_
        rintro e w4 ⟨rfl, b⟩
        replace HA1 := Lib.hid (HA1.out.below b HA1.out.lt)
        replace HW := Lib.hid (HW.out.trans (b.mono HW.out.size))
        clear b
        clear A10 A11 A12 A13 lA1
        obtain ⟨A10, A11, A12, A13⟩ := alV_cells HA1.out
        have lA1 := HA1.out.lt
        try simp only [alV, noV]
        go_wp2_with fail
        refine (left_bad (some ad) n c m l r B cs (k : Int) (Or.inr (Or.inr hko)) _ (h0.out.below (((HW.out.alloc HW.out.size _).alloc (HW.out.alloc HW.out.size _).size _).mono hB)) (Nat.le_trans hB ((HW.out.alloc HW.out.size _).alloc (HW.out.alloc HW.out.size _).size _).size)).mono ?_
        rintro e w5 ⟨rfl, b⟩
        replace HA1 := Lib.hid (((HA1.out.alloc _).alloc _).below b ((HA1.out.alloc _).alloc _).lt)
        have Hx8z : Blk w5 (w4.heap.size) 35 (noV 0 0) := Blk.below ((Blk.newAt rfl).alloc _) b (by simp <;> omega)
        have Hx8 := Lib.hid Hx8z
        clear Hx8z
        have Hx9z : Blk w5 (w4.heap.size + 1) 25 (alV none 0 0 0 0 0) := Blk.below (Blk.newAt (by simp)) b (by simp <;> omega)
        have Hx9 := Lib.hid Hx9z
        clear Hx9z
        replace HW := Lib.hid (((HW.out.alloc HW.out.size _).alloc (HW.out.alloc HW.out.size _).size _).trans (b.mono ((HW.out.alloc HW.out.size _).alloc (HW.out.alloc HW.out.size _).size _).size))
        clear b
        clear A10 A11 A12 A13 lA1
        obtain ⟨A10, A11, A12, A13⟩ := alV_cells HA1.out
        have lA1 := HA1.out.lt
        obtain ⟨x80, x81⟩ := noV_cells Hx8.out
        have lx8 := Hx8.out.lt
        obtain ⟨x90, x91, x92, x93⟩ := alV_cells Hx9.out
        have lx9 := Hx9.out.lt
        try simp only [alV, noV]
        go_wp2_with fail
        refine (extend_ok ad n c m l r B cs hn1 hn8 hwq.out hml hl64 hmr _ (h0.out.below (HW.out.mono hB)) (Nat.le_trans hB HW.out.size)).mono ?_
        rintro e w6 ⟨ge, rfl, -, -, b⟩
        replace HA1 := Lib.hid (HA1.out.below b HA1.out.lt)
        replace Hx8 := Lib.hid (Hx8.out.below b Hx8.out.lt)
        replace Hx9 := Lib.hid (Hx9.out.below b Hx9.out.lt)
        replace HW := Lib.hid (HW.out.trans (b.mono HW.out.size))
        clear b
        clear A10 A11 A12 A13 lA1 x80 x81 lx8 x90 x91 x92 x93 lx9
        clear Hx8 Hx9
        obtain ⟨A10, A11, A12, A13⟩ := alV_cells HA1.out
        have lA1 := HA1.out.lt
        try simp only [alV, noV]
        go_wp2_with fail
        refine (crash_ok ad n c m l r B cs hn1 hn8 hwq.out hm64 _ (h0.out.below ((HW.out.alloc HW.out.size _).mono hB)) (Nat.le_trans hB (HW.out.alloc HW.out.size _).size)).mono ?_
        rintro e w7 ⟨gx, rfl, -, -, b⟩
        replace HA1 := Lib.hid ((HA1.out.alloc _).below b (HA1.out.alloc _).lt)
        replace HW := Lib.hid ((HW.out.alloc HW.out.size _).trans (b.mono (HW.out.alloc HW.out.size _).size))
        clear b
        clear A10 A11 A12 A13 lA1
        try simp only [alV, noV]
        go_wp2_with fail
        refine (lives08 _).mono ?_
        rintro e w8 ⟨rfl, b⟩
        replace HA1 := Lib.hid ((HA1.out.alloc _).below b (HA1.out.alloc _).lt)
        replace HW := Lib.hid ((HW.out.alloc HW.out.size _).trans (b.mono (HW.out.alloc HW.out.size _).size))
        clear b
        go_wp2
        go_ret
        exact ⟨rfl, HW.out⟩
      · replace hmr : l < m + r := by omega
        obtain ⟨A10, A11, A12, A13⟩ := alV_cells HA1.out
        have lA1 := HA1.out.lt
        try simp only [alV, noV]
        go_wp2_with fail
        refine (take_bad (some ad) n c m l r B cs (k : Int) (Or.inr (Or.inr hko)) _ (h0.out.below (HW.out.mono hB)) (Nat.le_trans hB HW.out.size)).mono ?_
        rintro e w4 ⟨rfl, b⟩
        replace HA1 := Lib.hid (HA1.out.below b HA1.out.lt)
        replace HW := Lib.hid (HW.out.trans (b.mono HW.out.size))
        clear b
        clear A10 A11 A12 A13 lA1
        obtain ⟨A10, A11, A12, A13⟩ := alV_cells HA1.out
        have lA1 := HA1.out.lt
        try simp only [alV, noV]
        go_wp2_with fail
        refine (left_bad (some ad) n c m l r B cs (k : Int) (Or.inr (Or.inr hko)) _ (h0.out.below (((HW.out.alloc HW.out.size _).alloc (HW.out.alloc HW.out.size _).size _).mono hB)) (Nat.le_trans hB ((HW.out.alloc HW.out.size _).alloc (HW.out.alloc HW.out.size _).size _).size)).mono ?_
        rintro e w5 ⟨rfl, b⟩
        replace HA1 := Lib.hid (((HA1.out.alloc _).alloc _).below b ((HA1.out.alloc _).alloc _).lt)
        have Hx8z : Blk w5 (w4.heap.size) 35 (noV 0 0) := Blk.below ((Blk.newAt rfl).alloc _) b (by simp <;> omega)
        have Hx8 := Lib.hid Hx8z
        clear Hx8z
        have Hx9z : Blk w5 (w4.heap.size + 1) 25 (alV none 0 0 0 0 0) := Blk.below (Blk.newAt (by simp)) b (by simp <;> omega)
        have Hx9 := Lib.hid Hx9z
        clear Hx9z
        replace HW := Lib.hid (((HW.out.alloc HW.out.size _).alloc (HW.out.alloc HW.out.size _).size _).trans (b.mono ((HW.out.alloc HW.out.size _).alloc (HW.out.alloc HW.out.size _).size _).size))
        clear b
        clear A10 A11 A12 A13 lA1
        obtain ⟨A10, A11, A12, A13⟩ := alV_cells HA1.out
        have lA1 := HA1.out.lt
        obtain ⟨x80, x81⟩ := noV_cells Hx8.out
        have lx8 := Hx8.out.lt
        obtain ⟨x90, x91, x92, x93⟩ := alV_cells Hx9.out
        have lx9 := Hx9.out.lt
        try simp only [alV, noV]
        go_wp2_with fail
        refine (extend_over (some ad) n c m l r B cs hwq.out hml hl64 hmr _ (h0.out.below (HW.out.mono hB)) (Nat.le_trans hB HW.out.size)).mono ?_
        rintro e w6 ⟨rfl, b⟩
        replace HA1 := Lib.hid (HA1.out.below b HA1.out.lt)
        replace Hx8 := Lib.hid (Hx8.out.below b Hx8.out.lt)
        replace Hx9 := Lib.hid (Hx9.out.below b Hx9.out.lt)
        replace HW := Lib.hid (HW.out.trans (b.mono HW.out.size))
        clear b
        clear A10 A11 A12 A13 lA1 x80 x81 lx8 x90 x91 x92 x93 lx9
        clear Hx8 Hx9
        obtain ⟨A10, A11, A12, A13⟩ := alV_cells HA1.out
        have lA1 := HA1.out.lt
        try simp only [alV, noV]
        go_wp2_with fail
        refine (crash_ok ad n c m l r B cs hn1 hn8 hwq.out hm64 _ (h0.out.below ((HW.out.alloc HW.out.size _).mono hB)) (Nat.le_trans hB (HW.out.alloc HW.out.size _).size)).mono ?_
        rintro e w7 ⟨gx, rfl, -, -, b⟩
        replace HA1 := Lib.hid ((HA1.out.alloc _).below b (HA1.out.alloc _).lt)
        replace HW := Lib.hid ((HW.out.alloc HW.out.size _).trans (b.mono (HW.out.alloc HW.out.size _).size))
        clear b
        clear A10 A11 A12 A13 lA1
        try simp only [alV, noV]
        go_wp2_with fail
        refine (lives08 _).mono ?_
        rintro e w8 ⟨rfl, b⟩
        replace HA1 := Lib.hid ((HA1.out.alloc _).below b (HA1.out.alloc _).lt)
        replace HW := Lib.hid ((HW.out.alloc HW.out.size _).trans (b.mono (HW.out.alloc HW.out.size _).size))
        clear b
        go_wp2
        go_ret
        exact ⟨rfl, HW.out⟩

end Go.Proofs.Ytaaldjmopifcjaa
