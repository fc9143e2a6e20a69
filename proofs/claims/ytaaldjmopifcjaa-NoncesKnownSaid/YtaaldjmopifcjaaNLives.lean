/-
  The walk of caissonlaw08.lives: the examples of the chapter hold. (Printed by mklives08.py.)
-/
import Derived.Test.YtaaldjmopifcjaaNon7
import Derived.Test.YtaaldjmopifcjaaStr
namespace Go.Proofs.Ytaaldjmopifcjaa
open Go.RowKit Sh

theorem extend_to (ad : Addr) (n c m l r m' B : Nat) (cs : List Nat) (hm : m + r = m') (hn : 1 ≤ n) (hn8 : n ≤ 8) (hk : chk cs m l r = 0) (hml : m ≤ l) (hl : l < 18446744073709551616) (ho : m' ≤ l) (w : World) (hr : Reads w B 1 (some ad) n (nv .u64 cs)) (hB : B ≤ w.heap.size) :
    Calls Try.prog 15 #[.agg (alV (some ad) n c m l r)] w fun e w' => ∃ g, e = .returned (.tuple #[.agg (alV (some ⟨g, 0, none⟩) n n m' l r), .int .i64 0]) ∧
      Blk w' g 23 (va .u64 cs) ∧ w.heap.size ≤ g ∧ Below w.heap.size w w' := by
  subst hm
  exact extend_ok ad n c m l r B cs hn hn8 hk hml hl ho w hr hB
theorem new_good_to (k l r : Nat) (cs : List Nat) (hcs : List.replicate k 0 = cs) (hk : 1 ≤ k) (hk8 : k ≤ 8) (hc : chk cs 0 l r = 0) (w : World) :
    Calls Try.prog 10 #[.int .i64 (k : Int), .int .u64 (l : Int), .int .u64 (r : Int)] w fun e w' =>
      ∃ g, e = .returned (.tuple #[.agg (alV (some ⟨g, 0, none⟩) k k 0 l r), .int .i64 0]) ∧ Blk w' g 23 (va .u64 cs) ∧ w.heap.size ≤ g ∧ Below w.heap.size w w' := by
  subst hcs
  exact new_good k l r hk hk8 hc w
theorem take_to (A : Option Addr) (n c m l r B v : Nat) (cs cs' : List Nat) (k : Nat) (hk : k < n) (hn8 : n ≤ 8) (hc : chk cs m l r = 0) (hv : cs.getD k 0 = v) (hvm : v < m) (hm64 : m < 18446744073709551616) (hcs : cs.set k (v + 1) = cs') (w : World) (hr : Reads w B 1 A n (nv .u64 cs)) (hB : B ≤ w.heap.size) :
    Calls Try.prog 13 #[.agg (alV A n c m l r), .int .i64 (k : Int)] w fun e w' => ∃ g, e = .returned (.tuple #[.agg (noV k v), .agg (alV (some ⟨g, 0, none⟩) n n m l r), .int .i64 0]) ∧
      Blk w' g 23 (va .u64 cs') ∧ w.heap.size ≤ g ∧ Below w.heap.size w w' := by
  subst hcs
  exact take_ok A n c m l r B v cs k hk hn8 hc hv hvm hm64 w hr hB
theorem crash_to (ad : Addr) (n c m l r B : Nat) (cs cs' : List Nat) (hcs : List.replicate n m = cs') (hn : 1 ≤ n) (hn8 : n ≤ 8) (hk : chk cs m l r = 0) (hm64 : m < 18446744073709551616) (w : World) (hr : Reads w B 1 (some ad) n (nv .u64 cs)) (hB : B ≤ w.heap.size) :
    Calls Try.prog 16 #[.agg (alV (some ad) n c m l r)] w fun e w' => ∃ g, e = .returned (.tuple #[.agg (alV (some ⟨g, 0, none⟩) n n m l r), .int .i64 0]) ∧
      Blk w' g 23 (va .u64 cs') ∧ w.heap.size ≤ g ∧ Below w.heap.size w w' := by
  subst hcs
  exact crash_ok ad n c m l r B cs hn hn8 hk hm64 w hr hB
theorem left_to (A : Option Addr) (n c m l r B v d : Nat) (cs : List Nat) (k : Nat) (hk : k < n) (hc : chk cs m l r = 0) (hv : cs.getD k 0 = v) (hvm : v ≤ m) (hm64 : m < 18446744073709551616) (hd : m - v = d) (w : World) (hr : Reads w B 1 A n (nv .u64 cs)) (hB : B ≤ w.heap.size) :
    Calls Try.prog 14 #[.agg (alV A n c m l r), .int .i64 (k : Int)] w fun e w' => e = .returned (.tuple #[.int .u64 (d : Int), .int .i64 0]) ∧ Below w.heap.size w w' := by
  subst hd
  exact left_ok A n c m l r B v cs k hk hc hv hvm hm64 w hr hB
theorem put_text : bst (beB 1 4 ++ beB 258 8) = { data := #[0, 0, 0, 1, 0, 0, 0, 0, 0, 0, 1, 2] } := by kernel_rfl

set_option maxRecDepth 100000 in
set_option maxHeartbeats 4000000 in
theorem lives08 (w : World) : Calls Try.prog 8 #[] w fun e w' => e = .returned (.bool true) ∧ Below w.heap.size w w' := by
  go_enter Try.func8, Try.ntmps8
  go_wp2_with fail
  refine (new_good_to 2 10 4 [0, 0] rfl (by omega) (by omega) (by decide) _).mono ?_
  rintro e w1 ⟨ga, rfl, ha, hga, b⟩
  have HW := Lib.hid b
  clear b
  have HCa := Lib.hid ha
  clear ha
  simp only [alV, noV]
  go_wp2_with fail
  refine (extend_to ⟨ga, 0, none⟩ 2 2 0 10 4 4 (ga + 1) [0, 0] rfl (by omega) (by omega) (by decide) (by omega) (by omega) (by omega) _ ((HCa.out.alloc _).readsAll (Nat.lt_succ_self _) (by simp)) (by have := HCa.out.lt; simp <;> omega)).mono ?_
  rintro e w2 ⟨gb, rfl, hb, hgb, b⟩
  replace HCa := Lib.hid ((HCa.out.alloc _).below b (HCa.out.alloc _).lt)
  have HA0 : Blk w2 (w1.heap.size) 25 (alV (some ⟨ga, 0, none⟩) 2 2 0 10 4) := Blk.below (Blk.newAt rfl) b (by simp)
  have HA := Lib.hid HA0
  clear HA0
  replace HW := Lib.hid ((HW.out.alloc HW.out.size _).trans (b.mono (HW.out.alloc HW.out.size _).size))
  clear b
  have HCb := Lib.hid hb
  clear hb
  simp only [alV, noV]
  go_wp2_with fail
  refine (nput_any 1 258 (by omega) _).mono ?_
  rintro e w3 ⟨gp, rfl, hp, hgp, b⟩
  replace HCa := Lib.hid ((HCa.out.alloc _).below b (HCa.out.alloc _).lt)
  replace HA := Lib.hid ((HA.out.alloc _).below b (HA.out.alloc _).lt)
  replace HCb := Lib.hid ((HCb.out.alloc _).below b (HCb.out.alloc _).lt)
  have HB0 : Blk w3 (w2.heap.size) 25 (alV (some ⟨gb, 0, none⟩) 2 2 4 10 4) := Blk.below (Blk.newAt rfl) b (by simp)
  have HB := Lib.hid HB0
  clear HB0
  replace HW := Lib.hid ((HW.out.alloc HW.out.size _).trans (b.mono (HW.out.alloc HW.out.size _).size))
  clear b
  have hcv := run_string_of (w := w3) 47 9 Try.underlying47 Try.underlying9 gp 0 12 12 (beB 1 4 ++ beB 258 8) (by simp [beB_len]) (fun j v hv => by rw [Nat.zero_add, hp.cell]; simpa [va] using hv)
  rw [put_text] at hcv
  clear hp
  obtain ⟨A0, A1, A2, A3⟩ := alV_cells HA.out
  have lA := HA.out.lt
  simp only [alV, noV]
  go_wp2_with fail
  refine (take_state (some ⟨ga, 0, none⟩) 2 2 0 10 4 (ga + 1) [0, 0] 0 (by omega) (by decide) rfl _ (HCa.out.readsAll (Nat.lt_succ_self _) (by simp)) (by have := HCa.out.lt; omega)).mono ?_
  rintro e w4 ⟨rfl, b⟩
  replace HCa := Lib.hid (HCa.out.below b HCa.out.lt)
  replace HA := Lib.hid (HA.out.below b HA.out.lt)
  replace HCb := Lib.hid (HCb.out.below b HCb.out.lt)
  replace HB := Lib.hid (HB.out.below b HB.out.lt)
  replace HW := Lib.hid (HW.out.trans (b.mono HW.out.size))
  clear b
  clear A0 A1 A2 A3 lA hcv
  obtain ⟨A0, A1, A2, A3⟩ := alV_cells HA.out
  have lA := HA.out.lt
  simp only [alV, noV]
  go_wp2_with fail
  refine (take_bad (some ⟨ga, 0, none⟩) 2 2 0 10 4 (ga + 1) [0, 0] 2 (by right; right; decide) _ (((HCa.out.alloc _).alloc _).readsAll (Nat.lt_succ_self _) (by simp)) (by have := HCa.out.lt; simp <;> omega)).mono ?_
  rintro e w5 ⟨rfl, b⟩
  replace HCa := Lib.hid (((HCa.out.alloc _).alloc _).below b ((HCa.out.alloc _).alloc _).lt)
  replace HA := Lib.hid (((HA.out.alloc _).alloc _).below b ((HA.out.alloc _).alloc _).lt)
  replace HCb := Lib.hid (((HCb.out.alloc _).alloc _).below b ((HCb.out.alloc _).alloc _).lt)
  replace HB := Lib.hid (((HB.out.alloc _).alloc _).below b ((HB.out.alloc _).alloc _).lt)
  replace HW := Lib.hid (((HW.out.alloc HW.out.size _).alloc (HW.out.alloc HW.out.size _).size _).trans (b.mono ((HW.out.alloc HW.out.size _).alloc (HW.out.alloc HW.out.size _).size _).size))
  clear b
  clear A0 A1 A2 A3 lA
  obtain ⟨A0, A1, A2, A3⟩ := alV_cells HA.out
  have lA := HA.out.lt
  simp only [alV, noV]
  go_wp2_with fail
  refine (left_to (some ⟨ga, 0, none⟩) 2 2 0 10 4 (ga + 1) 0 0 [0, 0] 0 (by omega) (by decide) rfl (by omega) (by omega) rfl _ (((HCa.out.alloc _).alloc _).readsAll (Nat.lt_succ_self _) (by simp)) (by have := HCa.out.lt; simp <;> omega)).mono ?_
  rintro e w6 ⟨rfl, b⟩
  clear HCa
  clear HA
  replace HCb := Lib.hid (((HCb.out.alloc _).alloc _).below b ((HCb.out.alloc _).alloc _).lt)
  replace HB := Lib.hid (((HB.out.alloc _).alloc _).below b ((HB.out.alloc _).alloc _).lt)
  replace HW := Lib.hid (((HW.out.alloc HW.out.size _).alloc (HW.out.alloc HW.out.size _).size _).trans (b.mono ((HW.out.alloc HW.out.size _).alloc (HW.out.alloc HW.out.size _).size _).size))
  clear b
  clear A0 A1 A2 A3 lA
  obtain ⟨B0, B1, B2, B3⟩ := alV_cells HB.out
  have lB := HB.out.lt
  simp only [alV, noV]
  go_wp2_with fail
  refine (take_to (some ⟨gb, 0, none⟩) 2 2 4 10 4 (gb + 1) 0 [0, 0] [0, 1] 1 (by omega) (by omega) (by decide) rfl (by omega) (by omega) rfl _ (HCb.out.readsAll (Nat.lt_succ_self _) (by simp)) (by have := HCb.out.lt; omega)).mono ?_
  rintro e w7 ⟨gc, rfl, hc, hgc, b⟩
  replace HCb := Lib.hid (HCb.out.below b HCb.out.lt)
  replace HB := Lib.hid (HB.out.below b HB.out.lt)
  replace HW := Lib.hid (HW.out.trans (b.mono HW.out.size))
  clear b
  have HCc := Lib.hid hc
  clear hc
  clear B0 B1 B2 B3 lB
  simp only [alV, noV]
  go_wp2_with fail
  refine (same_true ⟨gc, 0, none⟩ ⟨w7.heap.size + 1 + 1, 0, none⟩ 2 2 4 10 4 (w7.heap.size + 1 + 1 + 1) [0, 1] (by omega) (by omega) _ ((((HCc.out.alloc _).alloc _).alloc _).readsAll (by have := HCc.out.lt; omega) (by simp)) ((Blk.newAt (by simp)).readsAll (by omega) (by simp)) (by simp)).mono ?_
  rintro e w8 ⟨rfl, b⟩
  replace HCb := Lib.hid ((((HCb.out.alloc _).alloc _).alloc _).below b (((HCb.out.alloc _).alloc _).alloc _).lt)
  replace HB := Lib.hid ((((HB.out.alloc _).alloc _).alloc _).below b (((HB.out.alloc _).alloc _).alloc _).lt)
  clear HCc
  replace HW := Lib.hid ((((HW.out.alloc HW.out.size _).alloc (HW.out.alloc HW.out.size _).size _).alloc ((HW.out.alloc HW.out.size _).alloc (HW.out.alloc HW.out.size _).size _).size _).trans (b.mono (((HW.out.alloc HW.out.size _).alloc (HW.out.alloc HW.out.size _).size _).alloc ((HW.out.alloc HW.out.size _).alloc (HW.out.alloc HW.out.size _).size _).size _).size))
  clear b
  obtain ⟨B0, B1, B2, B3⟩ := alV_cells HB.out
  have lB := HB.out.lt
  simp only [alV, noV]
  go_wp2_with fail
  refine (extend_to ⟨gb, 0, none⟩ 2 2 4 10 4 8 (gb + 1) [0, 0] rfl (by omega) (by omega) (by decide) (by omega) (by omega) (by omega) _ (HCb.out.readsAll (Nat.lt_succ_self _) (by simp)) (by have := HCb.out.lt; omega)).mono ?_
  rintro e w9 ⟨gd, rfl, hd, hgd, b⟩
  replace HCb := Lib.hid (HCb.out.below b HCb.out.lt)
  replace HB := Lib.hid (HB.out.below b HB.out.lt)
  replace HW := Lib.hid (HW.out.trans (b.mono HW.out.size))
  clear b
  have HCd := Lib.hid hd
  clear hd
  clear B0 B1 B2 B3 lB
  simp only [alV, noV]
  go_wp2_with fail
  refine (extend_over (some ⟨gd, 0, none⟩) 2 2 8 10 4 (gd + 1) [0, 0] (by decide) (by omega) (by omega) (by omega) _ ((HCd.out.alloc _).readsAll (Nat.lt_succ_self _) (by simp)) (by have := HCd.out.lt; simp <;> omega)).mono ?_
  rintro e w10 ⟨rfl, b⟩
  replace HCb := Lib.hid ((HCb.out.alloc _).below b (HCb.out.alloc _).lt)
  replace HB := Lib.hid ((HB.out.alloc _).below b (HB.out.alloc _).lt)
  clear HCd
  have HD0 : Blk w10 (w9.heap.size) 25 (alV (some ⟨gd, 0, none⟩) 2 2 8 10 4) := Blk.below (Blk.newAt rfl) b (by simp)
  have HD := Lib.hid HD0
  clear HD0
  replace HW := Lib.hid ((HW.out.alloc HW.out.size _).trans (b.mono (HW.out.alloc HW.out.size _).size))
  clear b
  obtain ⟨B0, B1, B2, B3⟩ := alV_cells HB.out
  have lB := HB.out.lt
  simp only [alV, noV]
  go_wp2_with fail
  refine (crash_to ⟨gb, 0, none⟩ 2 2 4 10 4 (gb + 1) [0, 0] [4, 4] rfl (by omega) (by omega) (by decide) (by omega) _ ((HCb.out.alloc _).readsAll (Nat.lt_succ_self _) (by simp)) (by have := HCb.out.lt; simp <;> omega)).mono ?_
  rintro e w11 ⟨gx, rfl, hx, hgx, b⟩
  clear HCb
  clear HB
  replace HD := Lib.hid ((HD.out.alloc _).below b (HD.out.alloc _).lt)
  replace HW := Lib.hid ((HW.out.alloc HW.out.size _).trans (b.mono (HW.out.alloc HW.out.size _).size))
  clear b
  have HCx := Lib.hid hx
  clear hx
  clear B0 B1 B2 B3 lB
  simp only [alV, noV]
  go_wp2_with fail
  refine (new_low 0 10 4 (by omega) _).mono ?_
  rintro e w12 ⟨rfl, b⟩
  replace HD := Lib.hid ((HD.out.alloc _).below b (HD.out.alloc _).lt)
  replace HCx := Lib.hid ((HCx.out.alloc _).below b (HCx.out.alloc _).lt)
  have HX0 : Blk w12 (w11.heap.size) 25 (alV (some ⟨gx, 0, none⟩) 2 2 4 10 4) := Blk.below (Blk.newAt rfl) b (by simp)
  have HX := Lib.hid HX0
  clear HX0
  replace HW := Lib.hid ((HW.out.alloc HW.out.size _).trans (b.mono (HW.out.alloc HW.out.size _).size))
  clear b
  simp only [alV, noV]
  go_wp2_with fail
  refine (new_low 9 10 4 (by omega) _).mono ?_
  rintro e w13 ⟨rfl, b⟩
  replace HD := Lib.hid ((HD.out.alloc _).below b (HD.out.alloc _).lt)
  replace HCx := Lib.hid ((HCx.out.alloc _).below b (HCx.out.alloc _).lt)
  replace HX := Lib.hid ((HX.out.alloc _).below b (HX.out.alloc _).lt)
  replace HW := Lib.hid ((HW.out.alloc HW.out.size _).trans (b.mono (HW.out.alloc HW.out.size _).size))
  clear b
  simp only [alV, noV]
  go_wp2_with fail
  refine (new_bad 1 3 4 (by omega) (by omega) (by decide) _).mono ?_
  rintro e w14 ⟨rfl, b⟩
  replace HD := Lib.hid ((HD.out.alloc _).below b (HD.out.alloc _).lt)
  replace HCx := Lib.hid ((HCx.out.alloc _).below b (HCx.out.alloc _).lt)
  replace HX := Lib.hid ((HX.out.alloc _).below b (HX.out.alloc _).lt)
  replace HW := Lib.hid ((HW.out.alloc HW.out.size _).trans (b.mono (HW.out.alloc HW.out.size _).size))
  clear b
  simp only [alV, noV]
  go_wp2_with fail
  refine (new_bad 1 3 0 (by omega) (by omega) (by decide) _).mono ?_
  rintro e w15 ⟨rfl, b⟩
  replace HD := Lib.hid ((HD.out.alloc _).below b (HD.out.alloc _).lt)
  replace HCx := Lib.hid ((HCx.out.alloc _).below b (HCx.out.alloc _).lt)
  replace HX := Lib.hid ((HX.out.alloc _).below b (HX.out.alloc _).lt)
  replace HW := Lib.hid ((HW.out.alloc HW.out.size _).trans (b.mono (HW.out.alloc HW.out.size _).size))
  clear b
  obtain ⟨D0, D1, D2, D3⟩ := alV_cells HD.out
  have lD := HD.out.lt
  obtain ⟨X0, X1, X2, X3⟩ := alV_cells HX.out
  have lX := HX.out.lt
  simp only [alV, noV]
  go_wp2_with fail
  refine (same_true ⟨gx, 0, none⟩ ⟨w15.heap.size + 1, 0, none⟩ 2 2 4 10 4 (w15.heap.size + 1 + 1) [4, 4] (by omega) (by omega) _ (((HCx.out.alloc _).alloc _).readsAll (by have := HCx.out.lt; omega) (by simp)) ((Blk.newAt (by simp)).readsAll (by omega) (by simp)) (by simp)).mono ?_
  rintro e w16 ⟨rfl, b⟩
  replace HD := Lib.hid (((HD.out.alloc _).alloc _).below b ((HD.out.alloc _).alloc _).lt)
  replace HCx := Lib.hid (((HCx.out.alloc _).alloc _).below b ((HCx.out.alloc _).alloc _).lt)
  replace HX := Lib.hid (((HX.out.alloc _).alloc _).below b ((HX.out.alloc _).alloc _).lt)
  replace HW := Lib.hid (((HW.out.alloc HW.out.size _).alloc (HW.out.alloc HW.out.size _).size _).trans (b.mono ((HW.out.alloc HW.out.size _).alloc (HW.out.alloc HW.out.size _).size _).size))
  clear b
  go_wp2
  go_ret
  exact ⟨rfl, HW.out⟩
end Go.Proofs.Ytaaldjmopifcjaa
