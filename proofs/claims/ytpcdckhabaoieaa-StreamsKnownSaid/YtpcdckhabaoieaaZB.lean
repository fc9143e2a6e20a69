/-
  Walks through package caissonref05: coefficients, Mul, Inverse, Substitute, Sub.
-/
import Derived.Test.YtpcdckhabaoieaaZA
import Derived.BigRegion
import Derived.Deep.AppendLies
namespace Go.Proofs.Ytpcdckhabaoieaa
open Go.RowKit

theorem int_info : (Try.prog.info? 3).map (fun i => (i.zero, i.size, i.bytes)) = some (some (.int .i64 0), 1, 8) := by kernel_rfl

/-- the coefficients of a byte, that of x^0 first -/
def coef (a : Nat) (n : Nat) : List Value := (List.range n).map fun i => Value.int .i64 ((a : Int) / 2 ^ i % 2)
theorem coef_succ (a n : Nat) : coef a (n + 1) = coef a n ++ [Value.int .i64 ((a : Int) / 2 ^ n % 2)] := by
  unfold coef; rw [List.range_succ, List.map_append]; rfl
theorem shr_bounds (a k : Nat) (ha : a < 256) : 0 ≤ (a : Int) / 2 ^ k ∧ (a : Int) / 2 ^ k ≤ 255 := by
  have e : (a : Int) / 2 ^ k = ((a / 2 ^ k : Nat) : Int) := by rw [Int.natCast_ediv, Int.natCast_pow]; rfl
  rw [e]
  have := Nat.div_le_self a (2 ^ k)
  generalize a / 2 ^ k = q at *
  omega

set_option maxHeartbeats 400000 in
theorem coef_any (a : Nat) (ha : a < 256) (w : World) :
    Calls Try.prog 49 #[.int .u8 (a : Int)] w fun e w' => ∃ v, e = .returned v ∧ w'.ownsRow w.heap.size 3 1 v 8 (coef a 8) ∧ Below w.heap.size w w' := by
  obtain ⟨i0, hi, hz0, hz1, hz2⟩ := info_parts int_info
  go_enter Try.func49, Try.ntmps49
  go_wp2
  go_loopw [3, 4] (fun v i wr => ∃ k : Nat, k ≤ 8 ∧ i = .int .i64 (k : Int) ∧ wr.ownsRow w.heap.size 3 1 v k (coef a k) ∧ Below w.heap.size w wr) (fun _ i _ => 8 - (intOf i).toNat)
  case atStart => exact ⟨0, by omega, rfl, ⟨by simp [coef], .inl ⟨rfl, rfl⟩⟩, Below.refl _ _⟩
  case round =>
    obtain ⟨k, hk, rfl, hown, hb⟩ := hrel
    by_cases hlt : k < 8
    · obtain ⟨hp0, hp1⟩ := shr_bounds a k ha
      have hnew : ∀ j u, [Value.int .i64 ((a : Int) / 2 ^ k % 2)][j]? = some u → (wr.alloc (Obj.cells #[Value.int .i64 ((a : Int) / 2 ^ k % 2)] 3)).cell? ((⟨wr.heap.size, 0, none⟩ : Addr).add j) = some u := by
        intro j u hu
        cases j with
        | zero => simp at hu; subst hu; exact World.cell?_alloc_at _ _ _ _ rfl
        | succ j => simp at hu
      have hnew' := Lib.hid hnew
      clear hnew
      go_wp2_with (at_builtin; refine wpList_append_own _ rfl (.tmp 9) (.tmp 15) 85 rfl w.heap.size 3 i0 (.int .i64 0) 1 8 Try.underlying85 hi hz0 hz1 hz2 rfl (by decide) _ k (coef a k) rfl (hown.alloc _) ⟨wr.heap.size, 0, none⟩ 1 1 [_] rfl rfl hnew'.out (by intro u hu; simp at hu; subst hu; rfl) (by unfold maxLen; omega) (by omega) (by have := hb.size; simp; omega) ?_; intro v' w1 hown' hgrow _)
      go_roundw
      case rel => exact ⟨k + 1, by omega, by go_num, by rw [coef_succ]; exact hown', (hb.alloc hb.size _).grown hgrow (by have := hb.size; simp; omega) (fun j hj => (hown.lt j hj).1)⟩
      case measure => simp [intOf]; omega
    · obtain rfl : k = 8 := by omega
      go_wp2
      go_ret
      exact ⟨_, rfl, hown, hb⟩

def bi (b : Bool) : Int := if b then 1 else 0
def p0 : Array Value := Array.replicate 15 (Value.int .i64 0)
theorem make15 (u : World) : (Instr.makeSlice 85 (.int .i64 15) (.int .i64 15)).run Try.prog u = .ok (.slice (some ⟨u.heap.size, 0, none⟩) 15 15) (u.alloc (.cells p0 3)) := by kernel_rfl

theorem p0_get (m : Nat) (hm : m < 15) : p0[m]? = some (.int .i64 (bi false)) := by
  unfold p0; rw [Array.getElem?_replicate, if_pos hm]; rfl
theorem coef_get (a m n : Nat) (hm : m < n) : (coef a n)[m]? = some (.int .i64 (bi (a.testBit m))) := by
  unfold coef
  rw [List.getElem?_map, List.getElem?_range hm]
  have e : (a : Int) / 2 ^ m % 2 = ((a / 2 ^ m % 2 : Nat) : Int) := by rw [Int.natCast_emod, Int.natCast_ediv, Int.natCast_pow]; rfl
  simp only [Option.map_some, e, Nat.testBit_eq_decide_div_mod_eq, bi]
  have := Nat.mod_lt (a / 2 ^ m) (show 0 < 2 by omega)
  split <;> (rename_i h; simp at h; congr 2; omega)

theorem bi_b (b : Bool) : 0 ≤ bi b ∧ bi b ≤ 1 := by cases b <;> simp [bi]
theorem bi_mul (b c : Bool) : 0 ≤ bi b * bi c ∧ bi b * bi c ≤ 1 := by cases b <;> cases c <;> simp [bi]

/-- what memory holds while the coefficients are multiplied -/
structure MulMem (a b G gx gy : Nat) (P : Nat → Bool) (w wr : World) : Prop where
  p : ∀ m, m < 15 → wr.cell? ⟨G, m, none⟩ = some (.int .i64 (bi (P m)))
  f : ∀ m, wr.frozen? ⟨G, m, none⟩ = false
  x : ∀ m, m < 8 → wr.cell? ⟨gx, m, none⟩ = some (.int .i64 (bi (a.testBit m)))
  y : ∀ m, m < 8 → wr.cell? ⟨gy, m, none⟩ = some (.int .i64 (bi (b.testBit m)))
  bel : Below G w wr

theorem MulMem.store {a b G gx gy : Nat} {P P' : Nat → Bool} {w wr : World} (h : MulMem a b G gx gy P w wr) (hx : G < gx) (hy : G < gy) (j : Nat) (hj : j < 15) (v : Int) (hv : v = bi (P' j))
    (ho : ∀ m, m ≠ j → P' m = P m) : MulMem a b G gx gy P' w (wr.setCell ⟨G, j, none⟩ (.int .i64 v)) := by
  refine ⟨fun m hm => ?_, fun m => ?_, fun m hm => ?_, fun m hm => ?_, h.bel.setCell (Nat.le_refl G) _⟩
  · by_cases e : m = j
    · subst e; rw [cell_set_same (h.p m hm), hv]
    · rw [cell_set_off (Ne.symm e), h.p m hm, ho m e]
  · rw [World.frozen?_setCell]; exact h.f m
  · rw [cell_set_blk (by omega), h.x m hm]
  · rw [cell_set_blk (by omega), h.y m hm]
theorem MulMem.four {a b G gx gy : Nat} {P : Nat → Bool} {w wr : World} (h : MulMem a b G gx gy P w wr) (hx : G < gx) (hy : G < gy) (n : Nat) (h8 : 7 < n) (h14 : n ≤ 14) (hb : P n = true) :
    MulMem a b G gx gy (Gf.rdI P n) w ((((wr.setCell ⟨G, n - 4, none⟩ (.int .i64 (1 - bi (P (n - 4))))).setCell ⟨G, n - 5, none⟩ (.int .i64 (1 - bi (P (n - 5))))).setCell ⟨G, n - 7, none⟩ (.int .i64 (1 - bi (P (n - 7))))).setCell ⟨G, n - 8, none⟩ (.int .i64 (1 - bi (P (n - 8))))) := by
  have e1 : ∀ c : Bool, 1 - bi c = bi (!c) := by intro c; cases c <;> rfl
  have s1 := h.store (P' := fun m => if m = n - 4 then !P m else P m) hx hy (n - 4) (by omega) (1 - bi (P (n - 4))) (by simp [e1]) (fun m hm => if_neg hm)
  have s2 := s1.store (P' := fun m => if m = n - 4 ∨ m = n - 5 then !P m else P m) hx hy (n - 5) (by omega) (1 - bi (P (n - 5))) (by simp [e1]) (fun m hm => by simp [hm])
  have s3 := s2.store (P' := fun m => if m = n - 4 ∨ m = n - 5 ∨ m = n - 7 then !P m else P m) hx hy (n - 7) (by omega) (1 - bi (P (n - 7))) (by simp [e1]) (fun m hm => by simp [hm])
  exact s3.store (P' := Gf.rdI P n) hx hy (n - 8) (by omega) (1 - bi (P (n - 8))) (by simp [e1, Gf.rdI, hb]) (fun m hm => by simp [hm, Gf.rdI, hb])
theorem MulMem.drew_ {a b G gx gy : Nat} {P : Nat → Bool} {w wr : World} (h : MulMem a b G gx gy P w wr) : MulMem a b G gx gy P w wr.drew :=
  ⟨h.p, h.f, h.x, h.y, h.bel.drew⟩
theorem MulMem.cong {a b G gx gy : Nat} {P P' : Nat → Bool} {w wr : World} (h : MulMem a b G gx gy P w wr) (e : ∀ m, P' m = P m) : MulMem a b G gx gy P' w wr :=
  ⟨fun m hm => by rw [e]; exact h.p m hm, h.f, h.x, h.y, h.bel⟩
theorem rd_succ (p : Nat → Bool) (n : Nat) (h7 : 7 < n) (h14 : n ≤ 14) : Gf.rd p (14 - (n - 1)) = Gf.rdI (Gf.rd p (14 - n)) n := by
  have e : 14 - (n - 1) = (14 - n) + 1 := by omega
  rw [e]
  show Gf.rdI (Gf.rd p (14 - n)) (14 - (14 - n)) = _
  rw [show 14 - (14 - n) = n from by omega]
theorem rd_no (p : Nat → Bool) (n m : Nat) (h7 : 7 < n) (h14 : n ≤ 14) (hb : Gf.rd p (14 - n) n = false) : Gf.rd p (14 - (n - 1)) m = Gf.rd p (14 - n) m := by
  rw [rd_succ p n h7 h14]; unfold Gf.rdI; rw [hb]; simp
theorem outN_lt (R : Nat → Bool) (j : Nat) : Gf.outN R j < 2 ^ j := by
  induction j with
  | zero => simp [Gf.outN]
  | succ j ih => simp only [Gf.outN]; rw [Nat.pow_succ]; cases R (7 - j) <;> simp <;> omega
theorem outN_int (R : Nat → Bool) (j : Nat) : ((Gf.outN R (j + 1) : Nat) : Int) = 2 * (Gf.outN R j : Nat) + bi (R (7 - j)) := by
  simp only [Gf.outN]; cases R (7 - j) <;> simp [bi]
theorem cf_step (a b i k m : Nat) (hk : k < 8) (hm : m ≠ i + k) : Gf.cf a b (8 * i + k + 1) m = Gf.cf a b (8 * i + k) m := by
  have e1 : (8 * i + k) / 8 = i := by omega
  have e2 : (8 * i + k) % 8 = k := by omega
  simp only [Gf.cf, e1, e2, if_neg hm]

set_option maxHeartbeats 400000 in
theorem rmul_any (a b : Nat) (ha : a < 256) (hb : b < 256) (w : World) :
    Calls Try.prog 46 #[.int .u8 (a : Int), .int .u8 (b : Int)] w fun e w' => e = .returned (.int .u8 (Gf.gm a b : Nat)) ∧ Below w.heap.size w w' := by
  have hmk := make15
  go_enter Try.func46, Try.ntmps46
  go_wp2_with fail
  refine (coef_any a ha _).mono ?_
  rintro e w1 ⟨v1, rfl, hown1, hb1⟩
  go_wp2_with fail
  refine (coef_any b hb _).mono ?_
  rintro e w2 ⟨v2, rfl, hown2, hb2⟩
  obtain ⟨gx, cx, rfl, hgx, hgx'⟩ := hown1.form (by omega)
  obtain ⟨gy, cy, rfl, hgy, hgy'⟩ := hown2.form (by omega)
  have hG1 : w.heap.size < w1.heap.size := by have := hb1.size; simp at this; omega
  have hG2 : w1.heap.size ≤ w2.heap.size := hb2.size
  have hx : ∀ m, m < 8 → w2.cell? ⟨gx, m, none⟩ = some (.int .i64 (bi (a.testBit m))) := fun m hm => by
    rw [hb2.cell (p := ⟨gx, m, none⟩) hgx', hown1.cellAt m (by omega), coef_get a m 8 hm]
  have hy : ∀ m, m < 8 → w2.cell? ⟨gy, m, none⟩ = some (.int .i64 (bi (b.testBit m))) := fun m hm => by
    rw [hown2.cellAt m (by omega), coef_get b m 8 hm]
  have hp : ∀ m, m < 15 → w2.cell? ⟨w.heap.size, m, none⟩ = some (.int .i64 (bi false)) := fun m hm => by
    rw [hb2.cell (p := ⟨w.heap.size, m, none⟩) hG1, hb1.cell (p := ⟨w.heap.size, m, none⟩) (by simp), World.cell?_alloc_at _ _ _ _ rfl]
    exact p0_get m hm
  have hf : ∀ m, w2.frozen? ⟨w.heap.size, m, none⟩ = false := fun m => by
    rw [hb2.frozen (p := ⟨w.heap.size, m, none⟩) hG1, hb1.frozen (p := ⟨w.heap.size, m, none⟩) (by simp), World.frozen?_alloc_at _ _ _ _ rfl]
  have hbw : Below w.heap.size w w2 := below_trans ((Below.refl _ _).alloc (Nat.le_refl _) _) (below_trans hb1 hb2)
  have hgx2 : w.heap.size < gx := by simp at hgx; omega
  have hgy2 : w.heap.size < gy := by omega
  generalize hGG : w.heap.size = G at *
  clear hown1 hown2 hb1 hb2 hmk hgx hgy hgx' hgy' hG1 hG2
  go_wp2
  go_loopw [8, 9] (fun s _ wr => ∃ i : Nat, i ≤ 8 ∧ s = .int .i64 (i : Int) ∧ MulMem a b G gx gy (Gf.cf a b (8 * i)) w wr) (fun s _ _ => 8 - (intOf s).toNat)
  case atStart => exact ⟨0, by omega, rfl, hp, hf, hx, hy, hbw⟩
  case round =>
    obtain ⟨i, hi, rfl, hmem⟩ := hrel
    by_cases hlt : i < 8
    · obtain ⟨wo, rfl⟩ : ∃ wo : World, wo = wr := ⟨_, rfl⟩
      have hlt' : (i : Int) < 8 := by omega
      go_wp2
      go_loopw [9] (fun s wr => ∃ k : Nat, k ≤ 8 ∧ s = .int .i64 (k : Int) ∧ MulMem a b G gx gy (Gf.cf a b (8 * i + k)) w wr) (fun s _ => 8 - (intOf s).toNat)
      case atStart => exact ⟨0, by omega, rfl, hmem⟩
      case round =>
        obtain ⟨k, hk, rfl, hmem⟩ := hrel
        by_cases hlk : k < 8
        · have hlk' : (k : Int) < 8 := by omega
          have cp := hmem.p (i + k) (by omega)
          have cx := hmem.x i hlt
          have cy := hmem.y k hlk
          have cf := hmem.f (i + k)
          have hval : (bi (Gf.cf a b (8 * i + k) (i + k)) + bi (a.testBit i) * bi (b.testBit k)) % 2 = bi (Gf.cf a b (8 * i + k + 1) (i + k)) := by
            have e1 : (8 * i + k) / 8 = i := by omega
            have e2 : (8 * i + k) % 8 = k := by omega
            simp only [Gf.cf, e1, e2, if_true]
            cases Gf.cf a b (8 * i + k) (i + k) <;> cases a.testBit i <;> cases b.testBit k <;> rfl
          have hval' := Lib.hid hval
          clear hval
          have b1 := bi_b (Gf.cf a b (8 * i + k) (i + k))
          have b2 := bi_b (a.testBit i)
          have b3 := bi_b (b.testBit k)
          have b4 := bi_mul (a.testBit i) (b.testBit k)
          obtain ⟨b10, b11⟩ := b1
          obtain ⟨b20, b21⟩ := b2
          obtain ⟨b30, b31⟩ := b3
          obtain ⟨b40, b41⟩ := b4
          generalize bi (Gf.cf a b (8 * i + k) (i + k)) = q1 at *
          generalize bi (a.testBit i) = q2 at *
          generalize bi (b.testBit k) = q3 at *
          go_wp2
          go_region
          all_goals go_wp2
          all_goals go_roundw
          case rel =>
            exact ⟨k + 1, by omega, by go_num, (hmem.store hgx2 hgy2 (i + k) (by omega) _ hval'.out (fun m hm => cf_step a b i k m hlk hm)).drew_⟩
          case measure => simp [intOf]; omega
        · obtain rfl : k = 8 := by omega
          go_wp2
          go_roundw
          case rel => exact ⟨i + 1, by omega, by go_num, hmem⟩
          case measure => simp [intOf]; omega
    · obtain rfl : i = 8 := by omega
      go_wp2
      go_loopw [10] (fun s wr => ∃ n : Nat, 7 ≤ n ∧ n ≤ 14 ∧ s = .int .i64 (n : Int) ∧ MulMem a b G gx gy (Gf.rd (Gf.cf a b 64) (14 - n)) w wr) (fun s _ => (intOf s).toNat)
      case atStart => exact ⟨14, by omega, by omega, rfl, hmem⟩
      case round =>
        obtain ⟨n, hn, hn', rfl, hmem⟩ := hrel
        by_cases hlt : 7 < n
        · have hlt' : 7 < (n : Int) := by omega
          have h14 : (n : Int) ≤ 14 := by omega
          have ci := hmem.p n (by omega)
          have c4 := hmem.p (n - 4) (by omega)
          have c5 := hmem.p (n - 5) (by omega)
          have c7 := hmem.p (n - 7) (by omega)
          have c8 := hmem.p (n - 8) (by omega)
          have f4 := hmem.f (n - 4)
          have f5 := hmem.f (n - 5)
          have f7 := hmem.f (n - 7)
          have f8 := hmem.f (n - 8)
          have n45 : ¬ n - 4 = n - 5 := by omega
          have n47 : ¬ n - 4 = n - 7 := by omega
          have n48 : ¬ n - 4 = n - 8 := by omega
          have n57 : ¬ n - 5 = n - 7 := by omega
          have n58 : ¬ n - 5 = n - 8 := by omega
          have n78 : ¬ n - 7 = n - 8 := by omega
          obtain ⟨b40, b41⟩ := bi_b (Gf.rd (Gf.cf a b 64) (14 - n) (n - 4))
          obtain ⟨b50, b51⟩ := bi_b (Gf.rd (Gf.cf a b 64) (14 - n) (n - 5))
          obtain ⟨b70, b71⟩ := bi_b (Gf.rd (Gf.cf a b 64) (14 - n) (n - 7))
          obtain ⟨b80, b81⟩ := bi_b (Gf.rd (Gf.cf a b 64) (14 - n) (n - 8))
          cases hbit : Gf.rd (Gf.cf a b 64) (14 - n) n
          · rw [hbit] at ci
            have ci' : wr.cell? ⟨G, n, none⟩ = some (.int .i64 0) := ci
            clear ci
            have hbit' := Lib.hid hbit
            clear hbit
            go_wp2
            go_roundw
            case rel => exact ⟨n - 1, by omega, by omega, by go_num, hmem.cong fun m => rd_no _ n m hlt hn' hbit'.out⟩
            case measure => simp [intOf]; omega
          · rw [hbit] at ci
            have ci' : wr.cell? ⟨G, n, none⟩ = some (.int .i64 1) := ci
            clear ci
            have hbit' := Lib.hid hbit
            clear hbit
            go_wp2
            go_roundw
            case rel =>
              refine ⟨n - 1, by omega, by omega, by go_num, ?_⟩
              rw [rd_succ _ n hlt hn']
              exact hmem.four hgx2 hgy2 n hlt hn' hbit'.out
            case measure => simp [intOf]; omega
        · obtain rfl : n = 7 := by omega
          have hm0 : MulMem a b G gx gy (Gf.rd (Gf.cf a b 64) 7) w wr := hmem
          clear hmem
          generalize hR : Gf.rd (Gf.cf a b 64) 7 = R at *
          have hR' := Lib.hid hR
          clear hR
          go_wp2
          go_loopw [11, 12] (fun o s wr' => ∃ j : Nat, j ≤ 8 ∧ s = .int .i64 (7 - (j : Int)) ∧ o = .int .i64 (Gf.outN R j : Nat) ∧ wr' = wr) (fun _ s _ => (intOf s + 1).toNat)
          case atStart => exact ⟨0, by omega, rfl, rfl, rfl⟩
          case round =>
            obtain ⟨j, hj, rfl, rfl, rfl⟩ := hrel
            have ho := outN_lt R j
            have ho2 : Gf.outN R j < 256 := by
              have := Nat.pow_le_pow_right (n := 2) (by omega) hj; omega
            by_cases hlt : j < 8
            · have cj := hm0.p (7 - j) (by omega)
              obtain ⟨b10, b11⟩ := bi_b (R (7 - j))
              have hidx : ((7 : Int) - (j : Int)).toNat = 7 - j := by omega
              go_wp2
              go_roundw
              case rel => exact ⟨j + 1, by omega, by go_num, by rw [outN_int], by trivial⟩
              case measure => simp [intOf]; omega
            · obtain rfl : j = 8 := by omega
              go_wp2
              go_ret
              refine ⟨ret_int ?_, by rw [hGG]; exact hm0.bel⟩
              rw [← hR'.out]
              exact congrArg Nat.cast (Gf.rm_eq a b ha hb)

end Go.Proofs.Ytpcdckhabaoieaa

/-
  Walks through package caissonref05: Inverse, Substitute, Sub.
-/
namespace Go.Proofs.Ytpcdckhabaoieaa
open Go.RowKit

/-- the reference's Mul, at given bytes -/
theorem rmul_at (a b : Int) (c : Nat) (a0 : 0 ≤ a) (a1 : a ≤ 255) (b0 : 0 ≤ b) (b1 : b ≤ 255) (hc : Gf.gm a.toNat b.toNat = c) (w : World) :
    Calls Try.prog 46 #[.int .u8 a, .int .u8 b] w fun e w' => e = .returned (.int .u8 (c : Int)) ∧ Below w.heap.size w w' := by
  obtain ⟨x, rfl⟩ := Int.eq_ofNat_of_zero_le a0
  obtain ⟨y, rfl⟩ := Int.eq_ofNat_of_zero_le b0
  rw [← hc]
  exact rmul_any x y (by omega) (by omega) w




/-! the reference's Substitute -/
def sbSum (x i : Nat) : Nat → Nat
  | 0 => 99 / 2 ^ i
  | k + 1 => sbSum x i k + x / 2 ^ ((i + (4 + k)) % 8)
def sbOut (x : Nat) : Nat → Nat
  | 0 => 0
  | j + 1 => 2 * sbOut x j + sbSum x (7 - j) 5 % 2
theorem sb_eq : ∀ x, x < 256 → sbOut x 8 = Gf.aff x := by decide +kernel
theorem sbSum_lt (x i k : Nat) (hx : x < 256) : sbSum x i k ≤ 99 + 256 * k := by
  induction k with
  | zero => simp only [sbSum]; have := Nat.div_le_self 99 (2 ^ i); omega
  | succ k ih => simp only [sbSum]; have := Nat.div_le_self x (2 ^ ((i + (4 + k)) % 8)); omega
theorem sbOut_lt (x j : Nat) : sbOut x j < 2 ^ j := by
  induction j with
  | zero => simp [sbOut]
  | succ j ih => simp only [sbOut]; rw [Nat.pow_succ]; omega

set_option maxHeartbeats 400000 in
theorem subst_any (x : Nat) (hx : x < 256) (w : World) :
    Calls Try.prog 48 #[.int .u8 (x : Int)] w fun e w' => e = .returned (.int .u8 (Gf.aff x : Nat)) ∧ w = w' := by
  go_enter Try.func48, Try.ntmps48
  go_wp2
  go_loop [3, 4] (fun o s => ∃ j : Nat, j ≤ 8 ∧ s = .int .i64 (7 - (j : Int)) ∧ o = .int .i64 (sbOut x j : Nat)) (fun _ s => (intOf s + 1).toNat)
  case atStart => exact ⟨0, by omega, rfl, rfl⟩
  case round =>
    obtain ⟨j, hj, rfl, rfl⟩ := hrel
    have ho := sbOut_lt x j
    have ho2 : sbOut x j < 256 := by
      have := Nat.pow_le_pow_right (n := 2) (by omega) hj; omega
    by_cases hlt : j < 8
    · have hlt' : (j : Int) < 8 := by omega
      go_wp2
      go_loop [5, 6] (fun t s => ∃ k : Nat, k ≤ 5 ∧ s = .int .i64 (4 + (k : Int)) ∧ t = .int .i64 (sbSum x (7 - j) k : Nat)) (fun _ s => 9 - (intOf s).toNat)
      case atStart => exact ⟨0, by omega, rfl, by simp only [sbSum]; rw [Int.natCast_ediv, Int.natCast_pow]; rfl⟩
      case round =>
        obtain ⟨k, hk, rfl, rfl⟩ := hrel
        have hs := sbSum_lt x (7 - j) k hx
        by_cases hlk : k < 5
        · have hlk' : (k : Int) < 5 := by omega
          have hmod : (((7 : Int) - (j : Int)) + (4 + (k : Int))) % 8 = (((7 - j + (4 + k)) % 8 : Nat) : Int) := by omega
          obtain ⟨p0, p1⟩ := shr_bounds x ((7 - j + (4 + k)) % 8) hx
          go_wp2
          go_round
          case rel => exact ⟨k + 1, by omega, by go_num, by simp only [sbSum]; rw [Int.natCast_add, Int.natCast_ediv, Int.natCast_pow]; rfl⟩
          case measure => simp [intOf]; omega
        · obtain rfl : k = 5 := by omega
          go_wp2
          go_round
          case rel => exact ⟨j + 1, by omega, by go_num, by simp only [sbOut]; go_num⟩
          case measure => simp [intOf]; omega
    · obtain rfl : j = 8 := by omega
      go_wp2
      go_ret
      exact ⟨ret_int (by rw [sb_eq x hx]), rfl⟩

end Go.Proofs.Ytpcdckhabaoieaa
