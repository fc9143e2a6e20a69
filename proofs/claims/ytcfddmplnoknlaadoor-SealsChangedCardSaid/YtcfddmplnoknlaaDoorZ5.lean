/-
  Walks through package caissonref05: coefficients, Mul, Inverse, Substitute, Sub.
-/
import Derived.Test.YtcfddmplnoknlaaDoorZ4
import Derived.BigRegion
import Derived.Deep.AppendLies
import Derived.StillTailTactics
import Derived.Deep.RegionWith
namespace Go.Proofs.YtcfddmplnoknlaaDoor
set_option maxRecDepth 16384
open Go.RowKit

theorem int_info : (Tryd.prog.info? 3).map (fun i => (i.zero, i.size, i.bytes)) = some (some (.int .i64 0), 1, 8) := by kernel_rfl

/-- the coefficients of a byte, that of x^0 first -/
def coef (a : Nat) (n : Nat) : List Value := (List.range n).map fun i => Value.int .i64 ((a : Int) / 2 ^ i % 2)
theorem coef_succ (a n : Nat) : coef a (n + 1) = coef a n ++ [Value.int .i64 ((a : Int) / 2 ^ n % 2)] := by
 unfold coef; rw [List.range_succ, List.map_append]; rfl
theorem shr_bounds (a k : Nat) (ha : a < 256) : 0 ≤ (a : Int) / 2 ^ k ∧ (a : Int) / 2 ^ k ≤ 255 := by
 have e : (a : Int) / 2 ^ k = ((a / 2 ^ k : Nat) : Int) := by rw [Int.natCast_ediv, Int.natCast_pow]; rfl
 rw [e]
 have := Nat.div_le_self a (2 ^ k)
 generalize a / 2 ^ k = q at *
 omega

set_option maxHeartbeats 400000 in
theorem coef_any (a : Nat) (ha : a < 256) (w : World) :
    Calls Tryd.prog 94 #[.int .u8 (a : Int)] w fun e w' => ∃ v, e = .returned v ∧ w'.ownsRow w.heap.size 3 1 v 8 (coef a 8) ∧ Below w.heap.size w w' := by
  obtain ⟨i0, hi, hz0, hz1, hz2⟩ := info_parts int_info
  go_enter Tryd.func94, Tryd.ntmps94
  go_wp2
  go_loopw [3, 4] (fun v i wr => ∃ k : Nat, k ≤ 8 ∧ i = .int .i64 (k : Int) ∧ wr.ownsRow w.heap.size 3 1 v k (coef a k) ∧ Below w.heap.size w wr) (fun _ i _ => 8 - (intOf i).toNat)
  case atStart => exact ⟨0, by omega, rfl, ⟨by simp [coef], .inl ⟨rfl, rfl⟩⟩, Below.refl _ _⟩
  case round =>
    obtain ⟨k, hk, rfl, hown, hb⟩ := hrel
    by_cases hlt : k < 8
    · obtain ⟨hp0, hp1⟩ := shr_bounds a k ha
      have hnew : ∀ j u, [Value.int .i64 ((a : Int) / 2 ^ k % 2)][j]? = some u → (wr.alloc (Obj.cells #[Value.int .i64 ((a : Int) / 2 ^ k % 2)] 3)).cell? ((⟨wr.heap.size, 0, none⟩ : Addr).add j) = some u := by
        intro j u hu
        cases j with
        | zero => simp at hu; subst hu; exact World.cell?_alloc_at _ _ _ _ rfl
        | succ j => simp at hu
      have hnew' := Lib.hid hnew
      clear hnew
      go_wp2_with (at_builtin; refine wpList_append_own _ rfl (.tmp 9) (.tmp 15) 60 rfl w.heap.size 3 i0 (.int .i64 0) 1 8 Tryd.underlying60 hi hz0 hz1 hz2 rfl (by decide) _ k (coef a k) rfl (hown.alloc _) ⟨wr.heap.size, 0, none⟩ 1 1 [_] rfl rfl hnew'.out (by intro u hu; simp at hu; subst hu; rfl) (by unfold maxLen; omega) (by omega) (by have := hb.size; simp; omega) ?_; intro v' w1 hown' hgrow _)
      go_roundw
      case rel => exact ⟨k + 1, by omega, by go_num, by rw [coef_succ]; exact hown', (hb.alloc hb.size _).grown hgrow (by have := hb.size; simp; omega) (fun j hj => (hown.lt j hj).1)⟩
      case measure => simp [intOf]; omega
    · obtain rfl : k = 8 := by omega
      go_wp2
      go_ret
      exact ⟨_, rfl, hown, hb⟩

def bi (b : Bool) : Int := if b then 1 else 0
def p0 : Array Value := Array.replicate 15 (Value.int .i64 0)
theorem make15 (u : World) : (Instr.makeSlice 60 (.int .i64 15) (.int .i64 15)).run Tryd.prog u = .ok (.slice (some ⟨u.heap.size, 0, none⟩) 15 15) (u.alloc (.cells p0 3)) := by kernel_rfl

theorem p0_get (m : Nat) (hm : m < 15) : p0[m]? = some (.int .i64 (bi false)) := by
 unfold p0; rw [Array.getElem?_replicate, if_pos hm]; rfl
theorem coef_get (a m n : Nat) (hm : m < n) : (coef a n)[m]? = some (.int .i64 (bi (a.testBit m))) := by
 unfold coef
 rw [List.getElem?_map, List.getElem?_range hm]
 have e : (a : Int) / 2 ^ m % 2 = ((a / 2 ^ m % 2 : Nat) : Int) := by rw [Int.natCast_emod, Int.natCast_ediv, Int.natCast_pow]; rfl
 simp only [Option.map_some, e, Nat.testBit_eq_decide_div_mod_eq, bi]
 have := Nat.mod_lt (a / 2 ^ m) (show 0 < 2 by omega)
 split <;> (rename_i h; simp at h; congr 2; omega)

theorem bi_b (b : Bool) : 0 ≤ bi b ∧ bi b ≤ 1 := by cases b <;> simp [bi]
theorem bi_mul (b c : Bool) : 0 ≤ bi b * bi c ∧ bi b * bi c ≤ 1 := by cases b <;> cases c <;> simp [bi]

/-- what memory holds while the coefficients are multiplied -/
structure MulMem (a b G gx gy : Nat) (P : Nat → Bool) (w wr : World) : Prop where
 p : ∀ m, m < 15 → wr.cell? ⟨G, m, none⟩ = some (.int .i64 (bi (P m)))
 f : ∀ m, wr.frozen? ⟨G, m, none⟩ = false
 x : ∀ m, m < 8 → wr.cell? ⟨gx, m, none⟩ = some (.int .i64 (bi (a.testBit m)))
 y : ∀ m, m < 8 → wr.cell? ⟨gy, m, none⟩ = some (.int .i64 (bi (b.testBit m)))
 bel : Below G w wr

theorem MulMem.store {a b G gx gy : Nat} {P P' : Nat → Bool} {w wr : World} (h : MulMem a b G gx gy P w wr) (hx : G < gx) (hy : G < gy) (j : Nat) (hj : j < 15) (v : Int) (hv : v = bi (P' j))
    (ho : ∀ m, m ≠ j → P' m = P m) : MulMem a b G gx gy P' w (wr.setCell ⟨G, j, none⟩ (.int .i64 v)) := by
  refine ⟨fun m hm => ?_, fun m => ?_, fun m hm => ?_, fun m hm => ?_, h.bel.setCell (Nat.le_refl G) _⟩
  · by_cases e : m = j
    · subst e; rw [cell_set_same (h.p m hm), hv]
    · rw [cell_set_off (Ne.symm e), h.p m hm, ho m e]
  · rw [World.frozen?_setCell]; exact h.f m
  · rw [cell_set_blk (by omega), h.x m hm]
  · rw [cell_set_blk (by omega), h.y m hm]
theorem MulMem.four {a b G gx gy : Nat} {P : Nat → Bool} {w wr : World} (h : MulMem a b G gx gy P w wr) (hx : G < gx) (hy : G < gy) (n : Nat) (h8 : 7 < n) (h14 : n ≤ 14) (hb : P n = true) :
  MulMem a b G gx gy (Gf.rdI P n) w ((((wr.setCell ⟨G, n - 4, none⟩ (.int .i64 (1 - bi (P (n - 4))))).setCell ⟨G, n - 5, none⟩ (.int .i64 (1 - bi (P (n - 5))))).setCell ⟨G, n - 7, none⟩ (.int .i64 (1 - bi (P (n - 7))))).setCell ⟨G, n - 8, none⟩ (.int .i64 (1 - bi (P (n - 8))))) := by
 have e1 : ∀ c : Bool, 1 - bi c = bi (!c) := by intro c; cases c <;> rfl
 have s1 := h.store (P' := fun m => if m = n - 4 then !P m else P m) hx hy (n - 4) (by omega) (1 - bi (P (n - 4))) (by simp [e1]) (fun m hm => if_neg hm)
 have s2 := s1.store (P' := fun m => if m = n - 4 ∨ m = n - 5 then !P m else P m) hx hy (n - 5) (by omega) (1 - bi (P (n - 5))) (by simp [e1]) (fun m hm => by simp [hm])
 have s3 := s2.store (P' := fun m => if m = n - 4 ∨ m = n - 5 ∨ m = n - 7 then !P m else P m) hx hy (n - 7) (by omega) (1 - bi (P (n - 7))) (by simp [e1]) (fun m hm => by simp [hm])
 exact s3.store (P' := Gf.rdI P n) hx hy (n - 8) (by omega) (1 - bi (P (n - 8))) (by simp [e1, Gf.rdI, hb]) (fun m hm => by simp [hm, Gf.rdI, hb])
theorem MulMem.drew_ {a b G gx gy : Nat} {P : Nat → Bool} {w wr : World} (h : MulMem a b G gx gy P w wr) : MulMem a b G gx gy P w wr.drew :=
 ⟨h.p, h.f, h.x, h.y, h.bel.drew⟩
theorem MulMem.cong {a b G gx gy : Nat} {P P' : Nat → Bool} {w wr : World} (h : MulMem a b G gx gy P w wr) (e : ∀ m, P' m = P m) : MulMem a b G gx gy P' w wr :=
 ⟨fun m hm => by rw [e]; exact h.p m hm, h.f, h.x, h.y, h.bel⟩
theorem rd_succ (p : Nat → Bool) (n : Nat) (h7 : 7 < n) (h14 : n ≤ 14) : Gf.rd p (14 - (n - 1)) = Gf.rdI (Gf.rd p (14 - n)) n := by
 have e : 14 - (n - 1) = (14 - n) + 1 := by omega
 rw [e]
 show Gf.rdI (Gf.rd p (14 - n)) (14 - (14 - n)) = _
 rw [show 14 - (14 - n) = n from by omega]
theorem rd_no (p : Nat → Bool) (n m : Nat) (h7 : 7 < n) (h14 : n ≤ 14) (hb : Gf.rd p (14 - n) n = false) : Gf.rd p (14 - (n - 1)) m = Gf.rd p (14 - n) m := by
 rw [rd_succ p n h7 h14]; unfold Gf.rdI; rw [hb]; simp
theorem outN_lt (R : Nat → Bool) (j : Nat) : Gf.outN R j < 2 ^ j := by
 induction j with
 | zero => simp [Gf.outN]
 | succ j ih => simp only [Gf.outN]; rw [Nat.pow_succ]; cases R (7 - j) <;> simp <;> omega
theorem outN_int (R : Nat → Bool) (j : Nat) : ((Gf.outN R (j + 1) : Nat) : Int) = 2 * (Gf.outN R j : Nat) + bi (R (7 - j)) := by
 simp only [Gf.outN]; cases R (7 - j) <;> simp [bi]
theorem cf_step (a b i k m : Nat) (hk : k < 8) (hm : m ≠ i + k) : Gf.cf a b (8 * i + k + 1) m = Gf.cf a b (8 * i + k) m := by
 have e1 : (8 * i + k) / 8 = i := by omega
 have e2 : (8 * i + k) % 8 = k := by omega
 simp only [Gf.cf, e1, e2, if_neg hm]

set_option maxHeartbeats 400000 in
theorem rmul_any (a b : Nat) (ha : a < 256) (hb : b < 256) (w : World) :
    Calls Tryd.prog 92 #[.int .u8 (a : Int), .int .u8 (b : Int)] w fun e w' => e = .returned (.int .u8 (Gf.gm a b : Nat)) ∧ Below w.heap.size w w' := by
  have hmk := make15
  go_enter Tryd.func92, Tryd.ntmps92
  go_wp2_with fail
  refine (coef_any a ha _).mono ?_
  rintro e w1 ⟨v1, rfl, hown1, hb1⟩
  go_wp2_with fail
  refine (coef_any b hb _).mono ?_
  rintro e w2 ⟨v2, rfl, hown2, hb2⟩
  obtain ⟨gx, cx, rfl, hgx, hgx'⟩ := hown1.form (by omega)
  obtain ⟨gy, cy, rfl, hgy, hgy'⟩ := hown2.form (by omega)
  have hG1 : w.heap.size < w1.heap.size := by have := hb1.size; simp at this; omega
  have hG2 : w1.heap.size ≤ w2.heap.size := hb2.size
  have hx : ∀ m, m < 8 → w2.cell? ⟨gx, m, none⟩ = some (.int .i64 (bi (a.testBit m))) := fun m hm => by
    rw [hb2.cell (p := ⟨gx, m, none⟩) hgx', hown1.cellAt m (by omega), coef_get a m 8 hm]
  have hy : ∀ m, m < 8 → w2.cell? ⟨gy, m, none⟩ = some (.int .i64 (bi (b.testBit m))) := fun m hm => by
    rw [hown2.cellAt m (by omega), coef_get b m 8 hm]
  have hp : ∀ m, m < 15 → w2.cell? ⟨w.heap.size, m, none⟩ = some (.int .i64 (bi false)) := fun m hm => by
    rw [hb2.cell (p := ⟨w.heap.size, m, none⟩) hG1, hb1.cell (p := ⟨w.heap.size, m, none⟩) (by simp), World.cell?_alloc_at _ _ _ _ rfl]
    exact p0_get m hm
  have hf : ∀ m, w2.frozen? ⟨w.heap.size, m, none⟩ = false := fun m => by
    rw [hb2.frozen (p := ⟨w.heap.size, m, none⟩) hG1, hb1.frozen (p := ⟨w.heap.size, m, none⟩) (by simp), World.frozen?_alloc_at _ _ _ _ rfl]
  have hbw : Below w.heap.size w w2 := below_trans ((Below.refl _ _).alloc (Nat.le_refl _) _) (below_trans hb1 hb2)
  have hgx2 : w.heap.size < gx := by simp at hgx; omega
  have hgy2 : w.heap.size < gy := by omega
  generalize hGG : w.heap.size = G at *
  clear hown1 hown2 hb1 hb2 hmk hgx hgy hgx' hgy' hG1 hG2
  go_wp2
  go_loopw [8, 9] (fun s _ wr => ∃ i : Nat, i ≤ 8 ∧ s = .int .i64 (i : Int) ∧ MulMem a b G gx gy (Gf.cf a b (8 * i)) w wr) (fun s _ _ => 8 - (intOf s).toNat)
  case atStart => exact ⟨0, by omega, rfl, hp, hf, hx, hy, hbw⟩
  case round =>
    obtain ⟨i, hi, rfl, hmem⟩ := hrel
    by_cases hlt : i < 8
    · obtain ⟨wo, rfl⟩ : ∃ wo : World, wo = wr := ⟨_, rfl⟩
      have hlt' : (i : Int) < 8 := by omega
      go_wp2
      go_loopw [9] (fun s wr => ∃ k : Nat, k ≤ 8 ∧ s = .int .i64 (k : Int) ∧ MulMem a b G gx gy (Gf.cf a b (8 * i + k)) w wr) (fun s _ => 8 - (intOf s).toNat)
      case atStart => exact ⟨0, by omega, rfl, hmem⟩
      case round =>
        obtain ⟨k, hk, rfl, hmem⟩ := hrel
        by_cases hlk : k < 8
        · have hlk' : (k : Int) < 8 := by omega
          have cp := hmem.p (i + k) (by omega)
          have cx := hmem.x i hlt
          have cy := hmem.y k hlk
          have cf := hmem.f (i + k)
          have hval : (bi (Gf.cf a b (8 * i + k) (i + k)) + bi (a.testBit i) * bi (b.testBit k)) % 2 = bi (Gf.cf a b (8 * i + k + 1) (i + k)) := by
            have e1 : (8 * i + k) / 8 = i := by omega
            have e2 : (8 * i + k) % 8 = k := by omega
            simp only [Gf.cf, e1, e2, if_true]
            cases Gf.cf a b (8 * i + k) (i + k) <;> cases a.testBit i <;> cases b.testBit k <;> rfl
          have hval' := Lib.hid hval
          clear hval
          have b1 := bi_b (Gf.cf a b (8 * i + k) (i + k))
          have b2 := bi_b (a.testBit i)
          have b3 := bi_b (b.testBit k)
          have b4 := bi_mul (a.testBit i) (b.testBit k)
          obtain ⟨b10, b11⟩ := b1
          obtain ⟨b20, b21⟩ := b2
          obtain ⟨b30, b31⟩ := b3
          obtain ⟨b40, b41⟩ := b4
          generalize bi (Gf.cf a b (8 * i + k) (i + k)) = q1 at *
          generalize bi (a.testBit i) = q2 at *
          generalize bi (b.testBit k) = q3 at *
          go_wp2
          go_region
          all_goals go_wp2
          all_goals go_roundw
          case rel =>
            exact ⟨k + 1, by omega, by go_num, (hmem.store hgx2 hgy2 (i + k) (by omega) _ hval'.out (fun m hm => cf_step a b i k m hlk hm)).drew_⟩
          case measure => simp [intOf]; omega
        · obtain rfl : k = 8 := by omega
          go_wp2
          go_roundw
          case rel => exact ⟨i + 1, by omega, by go_num, hmem⟩
          case measure => simp [intOf]; omega
    · obtain rfl : i = 8 := by omega
      go_wp2
      go_loopw [10] (fun s wr => ∃ n : Nat, 7 ≤ n ∧ n ≤ 14 ∧ s = .int .i64 (n : Int) ∧ MulMem a b G gx gy (Gf.rd (Gf.cf a b 64) (14 - n)) w wr) (fun s _ => (intOf s).toNat)
      case atStart => exact ⟨14, by omega, by omega, rfl, hmem⟩
      case round =>
        obtain ⟨n, hn, hn', rfl, hmem⟩ := hrel
        by_cases hlt : 7 < n
        · have hlt' : 7 < (n : Int) := by omega
          have h14 : (n : Int) ≤ 14 := by omega
          have ci := hmem.p n (by omega)
          have c4 := hmem.p (n - 4) (by omega)
          have c5 := hmem.p (n - 5) (by omega)
          have c7 := hmem.p (n - 7) (by omega)
          have c8 := hmem.p (n - 8) (by omega)
          have f4 := hmem.f (n - 4)
          have f5 := hmem.f (n - 5)
          have f7 := hmem.f (n - 7)
          have f8 := hmem.f (n - 8)
          have n45 : ¬ n - 4 = n - 5 := by omega
          have n47 : ¬ n - 4 = n - 7 := by omega
          have n48 : ¬ n - 4 = n - 8 := by omega
          have n57 : ¬ n - 5 = n - 7 := by omega
          have n58 : ¬ n - 5 = n - 8 := by omega
          have n78 : ¬ n - 7 = n - 8 := by omega
          obtain ⟨b40, b41⟩ := bi_b (Gf.rd (Gf.cf a b 64) (14 - n) (n - 4))
          obtain ⟨b50, b51⟩ := bi_b (Gf.rd (Gf.cf a b 64) (14 - n) (n - 5))
          obtain ⟨b70, b71⟩ := bi_b (Gf.rd (Gf.cf a b 64) (14 - n) (n - 7))
          obtain ⟨b80, b81⟩ := bi_b (Gf.rd (Gf.cf a b 64) (14 - n) (n - 8))
          cases hbit : Gf.rd (Gf.cf a b 64) (14 - n) n
          · rw [hbit] at ci
            have ci' : wr.cell? ⟨G, n, none⟩ = some (.int .i64 0) := ci
            clear ci
            have hbit' := Lib.hid hbit
            clear hbit
            go_wp2
            go_roundw
            case rel => exact ⟨n - 1, by omega, by omega, by go_num, hmem.cong fun m => rd_no _ n m hlt hn' hbit'.out⟩
            case measure => simp [intOf]; omega
          · rw [hbit] at ci
            have ci' : wr.cell? ⟨G, n, none⟩ = some (.int .i64 1) := ci
            clear ci
            have hbit' := Lib.hid hbit
            clear hbit
            go_wp2
            go_roundw
            case rel =>
              refine ⟨n - 1, by omega, by omega, by go_num, ?_⟩
              rw [rd_succ _ n hlt hn']
              exact hmem.four hgx2 hgy2 n hlt hn' hbit'.out
            case measure => simp [intOf]; omega
        · obtain rfl : n = 7 := by omega
          have hm0 : MulMem a b G gx gy (Gf.rd (Gf.cf a b 64) 7) w wr := hmem
          clear hmem
          generalize hR : Gf.rd (Gf.cf a b 64) 7 = R at *
          have hR' := Lib.hid hR
          clear hR
          go_wp2
          go_loopw [11, 12] (fun o s wr' => ∃ j : Nat, j ≤ 8 ∧ s = .int .i64 (7 - (j : Int)) ∧ o = .int .i64 (Gf.outN R j : Nat) ∧ wr' = wr) (fun _ s _ => (intOf s + 1).toNat)
          case atStart => exact ⟨0, by omega, rfl, rfl, rfl⟩
          case round =>
            obtain ⟨j, hj, rfl, rfl, rfl⟩ := hrel
            have ho := outN_lt R j
            have ho2 : Gf.outN R j < 256 := by
              have := Nat.pow_le_pow_right (n := 2) (by omega) hj; omega
            by_cases hlt : j < 8
            · have cj := hm0.p (7 - j) (by omega)
              obtain ⟨b10, b11⟩ := bi_b (R (7 - j))
              have hidx : ((7 : Int) - (j : Int)).toNat = 7 - j := by omega
              go_wp2
              go_roundw
              case rel => exact ⟨j + 1, by omega, by go_num, by rw [outN_int], by trivial⟩
              case measure => simp [intOf]; omega
            · obtain rfl : j = 8 := by omega
              go_wp2
              go_ret
              refine ⟨ret_int ?_, by rw [hGG]; exact hm0.bel⟩
              rw [← hR'.out]
              exact congrArg Nat.cast (Gf.rm_eq a b ha hb)

end Go.Proofs.YtcfddmplnoknlaaDoor
/-
  Walks through package caissonref05: Inverse, Substitute, Sub.
-/
namespace Go.Proofs.YtcfddmplnoknlaaDoor
set_option maxRecDepth 16384
open Go.RowKit

/-! the reference's Substitute -/
def sbSum (x i : Nat) : Nat → Nat
 | 0 => 99 / 2 ^ i
 | k + 1 => sbSum x i k + x / 2 ^ ((i + (4 + k)) % 8)
def sbOut (x : Nat) : Nat → Nat
 | 0 => 0
 | j + 1 => 2 * sbOut x j + sbSum x (7 - j) 5 % 2
theorem sb_eq : ∀ x, x < 256 → sbOut x 8 = Gf.aff x := by decide +kernel
theorem sbSum_lt (x i k : Nat) (hx : x < 256) : sbSum x i k ≤ 99 + 256 * k := by
 induction k with
 | zero => simp only [sbSum]; have := Nat.div_le_self 99 (2 ^ i); omega
 | succ k ih => simp only [sbSum]; have := Nat.div_le_self x (2 ^ ((i + (4 + k)) % 8)); omega
theorem sbOut_lt (x j : Nat) : sbOut x j < 2 ^ j := by
 induction j with
 | zero => simp [sbOut]
 | succ j ih => simp only [sbOut]; rw [Nat.pow_succ]; omega

set_option maxHeartbeats 400000 in
theorem subst_any (x : Nat) (hx : x < 256) (w : World) :
    Calls Tryd.prog 93 #[.int .u8 (x : Int)] w fun e w' => e = .returned (.int .u8 (Gf.aff x : Nat)) ∧ w = w' := by
  go_enter Tryd.func93, Tryd.ntmps93
  go_wp2
  go_loop [3, 4] (fun o s => ∃ j : Nat, j ≤ 8 ∧ s = .int .i64 (7 - (j : Int)) ∧ o = .int .i64 (sbOut x j : Nat)) (fun _ s => (intOf s + 1).toNat)
  case atStart => exact ⟨0, by omega, rfl, rfl⟩
  case round =>
    obtain ⟨j, hj, rfl, rfl⟩ := hrel
    have ho := sbOut_lt x j
    have ho2 : sbOut x j < 256 := by
      have := Nat.pow_le_pow_right (n := 2) (by omega) hj; omega
    by_cases hlt : j < 8
    · have hlt' : (j : Int) < 8 := by omega
      go_wp2
      go_loop [5, 6] (fun t s => ∃ k : Nat, k ≤ 5 ∧ s = .int .i64 (4 + (k : Int)) ∧ t = .int .i64 (sbSum x (7 - j) k : Nat)) (fun _ s => 9 - (intOf s).toNat)
      case atStart => exact ⟨0, by omega, rfl, by simp only [sbSum]; rw [Int.natCast_ediv, Int.natCast_pow]; rfl⟩
      case round =>
        obtain ⟨k, hk, rfl, rfl⟩ := hrel
        have hs := sbSum_lt x (7 - j) k hx
        by_cases hlk : k < 5
        · have hlk' : (k : Int) < 5 := by omega
          have hmod : (((7 : Int) - (j : Int)) + (4 + (k : Int))) % 8 = (((7 - j + (4 + k)) % 8 : Nat) : Int) := by omega
          obtain ⟨p0, p1⟩ := shr_bounds x ((7 - j + (4 + k)) % 8) hx
          go_wp2
          go_round
          case rel => exact ⟨k + 1, by omega, by go_num, by simp only [sbSum]; rw [Int.natCast_add, Int.natCast_ediv, Int.natCast_pow]; rfl⟩
          case measure => simp [intOf]; omega
        · obtain rfl : k = 5 := by omega
          go_wp2
          go_round
          case rel => exact ⟨j + 1, by omega, by go_num, by simp only [sbOut]; go_num⟩
          case measure => simp [intOf]; omega
    · obtain rfl : j = 8 := by omega
      go_wp2
      go_ret
      exact ⟨ret_int (by rw [sb_eq x hx]), rfl⟩

end Go.Proofs.YtcfddmplnoknlaaDoor
/-
  The walk of caissonref05.Table: all substitutes.
-/
namespace Go.Proofs.YtcfddmplnoknlaaDoor
set_option maxRecDepth 16384
open Go.RowKit

/-- 256 zeros -/
def z256 : List Nat := List.replicate 256 0
theorem zv30 (w : World) : (zeroValue 139).run Tryd.prog w = .ok (.agg (va .u8 z256)) w := by kernel_rfl
theorem z256_len : z256.length = 256 := List.length_replicate ..

theorem getD_set_eq {l : List Nat} {i v : Nat} (h : i < l.length) : (l.set i v).getD i 0 = v := by
 simp [List.getD_eq_getElem?_getD, h]
theorem getD_set_ne {l : List Nat} {i j v : Nat} (h : i ≠ j) : (l.set i v).getD j 0 = l.getD j 0 := by
 simp [List.getD_eq_getElem?_getD, h]

/-- the two arrays of Table, and its result -/
structure TabMem (G : Nat) (o p : List Nat) (w wr : World) : Prop where
 r : Blk wr G 139 (va .u8 z256)
 bo : Blk wr (G + 1) 139 (va .u8 o)
 bp : Blk wr (G + 1 + 1) 139 (va .u8 p)
 ol : o.length = 256
 pl : p.length = 256
 bel : Below G w wr
theorem TabMem.setP {G : Nat} {o p : List Nat} {w wr : World} (h : TabMem G o p w wr) (i v : Nat) : TabMem G o (p.set i v) w (wr.setCell ⟨G + 1 + 1, i, none⟩ (.int .u8 (v : Int))) :=
 ⟨h.r.far (p := ⟨G + 1 + 1, i, none⟩) (by simp; omega) _, h.bo.far (p := ⟨G + 1 + 1, i, none⟩) (by simp) _, h.bp.setNum i v, h.ol, by rw [List.length_set]; exact h.pl, h.bel.setCell (by simp; omega) _⟩
theorem TabMem.setO {G : Nat} {o p : List Nat} {w wr : World} (h : TabMem G o p w wr) (i v : Nat) : TabMem G (o.set i v) p w (wr.setCell ⟨G + 1, i, none⟩ (.int .u8 (v : Int))) :=
 ⟨h.r.far (p := ⟨G + 1, i, none⟩) (by simp) _, h.bo.setNum i v, h.bp.far (p := ⟨G + 1, i, none⟩) (by simp) _, by rw [List.length_set]; exact h.ol, h.pl, h.bel.setCell (by simp) _⟩
theorem TabMem.drew_ {G : Nat} {o p : List Nat} {w wr : World} (h : TabMem G o p w wr) : TabMem G o p w wr.drew := ⟨h.r, h.bo, h.bp, h.ol, h.pl, h.bel.drew⟩

def subs : List Nat := (List.range 256).map Gf.sub
theorem subs_len : subs.length = 256 := by simp [subs]
def pows (p : List Nat) (k : Nat) : Prop := ∀ j, j < k → p.getD j 0 = Gf.ex j
def subd (o : List Nat) (k : Nat) : Prop := ∀ j, j < k → o.getD (Gf.ex j) 0 = Gf.sub (Gf.ex j)
theorem pows_step {p : List Nat} {k : Nat} (h : pows p k) (hl : k < p.length) : pows (p.set k (Gf.ex k)) (k + 1) := by
  intro j hj
  by_cases e : k = j
  · subst e; exact getD_set_eq hl
  · rw [getD_set_ne e]; exact h j (by omega)
theorem subd_step {o : List Nat} {k : Nat} (h : subd o k) (hl : Gf.ex k < o.length) : subd (o.set (Gf.ex k) (Gf.sub (Gf.ex k))) (k + 1) := by
  intro j hj
  by_cases e : Gf.ex k = Gf.ex j
  · rw [e]; exact getD_set_eq (by rw [← e]; exact hl)
  · rw [getD_set_ne e]; exact h j (by
      have : j ≠ k := by rintro rfl; exact e rfl
      omega)
theorem subd_all {o : List Nat} (h : subd o 255) (hl : o.length = 256) : o.set 0 (Gf.sub 0) = subs := by
  apply List.ext_getElem?
  intro i
  by_cases hi : i < 256
  · have e1 : (o.set 0 (Gf.sub 0)).getD i 0 = Gf.sub i := by
      by_cases h0 : 0 = i
      · subst h0; exact getD_set_eq (by omega)
      · rw [getD_set_ne h0]
        have := h (Gf.lg i) (Gf.lg_lt i hi)
        rw [Gf.ex_lg i hi (by omega)] at this; exact this
    have hi' : i < (o.set 0 (Gf.sub 0)).length := by rw [List.length_set]; omega
    rw [List.getD_eq_getElem?_getD, List.getElem?_eq_getElem hi'] at e1
    rw [List.getElem?_eq_getElem hi']
    simp only [Option.getD_some] at e1
    rw [e1]; unfold subs; rw [List.getElem?_map, List.getElem?_range hi]; rfl
  · rw [List.getElem?_eq_none (by rw [List.length_set]; omega), List.getElem?_eq_none (by simp [subs]; omega)]

theorem tw_lo (p : Nat) (hp : p < 256) (h : ¬ 255 < 2 * p) : bits .xor .u8 (2 * (p : Int)) (p : Int) = ((Gf.xt p ^^^ p : Nat) : Int) := by
 have e := Gf.xt_twice p hp
 rw [if_neg h, Nat.mod_eq_of_lt (by omega)] at e
 rw [show (2 * (p : Int)) = ((2 * p : Nat) : Int) from by omega, u8_xor_nat _ _ (by omega) hp, e]
theorem tw_hi (p : Nat) (hp : p < 256) (h : 255 < 2 * p) : bits .xor .u8 (bits .xor .i64 (2 * (p : Int)) 283 % 256) (p : Int) = ((Gf.xt p ^^^ p : Nat) : Int) := by
 have e := Gf.xt_twice p hp
 rw [if_pos h] at e
 rw [show (2 * (p : Int)) = ((2 * p : Nat) : Int) from by omega, show (283 : Int) = ((283 : Nat) : Int) from rfl, i64_xor_nat _ _ (by omega) (by omega)]
 rw [show (((2 * p ^^^ 283 : Nat) : Int) % 256) = (((2 * p ^^^ 283) % 256 : Nat) : Int) from by omega, u8_xor_nat _ _ (by omega) hp, e]

set_option maxRecDepth 100000 in
set_option maxHeartbeats 400000 in
theorem table_any (w : World) :
    Calls Tryd.prog 90 #[] w fun e w' => e = .returned (.agg (va .u8 subs)) ∧ Below w.heap.size w w' := by
  have hzv := zv30
  have hz0 : (va .u8 z256)[0]? = some (.int .u8 0) := by rw [va_get (by rw [z256_len]; omega)]; rfl
  go_enter Tryd.func90, Tryd.ntmps90
  go_wp2
  have hm : TabMem w.heap.size z256 (z256.set 0 1) w (((w.alloc (Obj.cells (va .u8 z256) 139)).alloc (Obj.cells (va .u8 z256) 139)).alloc (Obj.cells ((va .u8 z256).setIfInBounds 0 (.int .u8 1)) 139)) := by
    have e : (va .u8 z256).setIfInBounds 0 (.int .u8 1) = va .u8 (z256.set 0 1) := va_set .u8 z256 0 1
    rw [e]
    refine ⟨((Blk.new w _ _).alloc _).alloc _, ?_, ?_, z256_len, by rw [List.length_set]; exact z256_len, (((Below.refl _ _).alloc (Nat.le_refl _) _).alloc (by simp) _).alloc (by simp; omega) _⟩
    · have := (Blk.new (w.alloc (Obj.cells (va .u8 z256) 139)) 139 (va .u8 z256)).alloc (Obj.cells (va .u8 (z256.set 0 1)) 139)
      simpa using this
    · have := Blk.new ((w.alloc (Obj.cells (va .u8 z256) 139)).alloc (Obj.cells (va .u8 z256) 139)) 139 (va .u8 (z256.set 0 1))
      simpa using this
  have hp1 : pows (z256.set 0 1) 1 := by
    intro j hj
    obtain rfl : j = 0 := by omega
    rw [getD_set_eq (by rw [z256_len]; omega), Gf.ex_zero]
  generalize hGG : w.heap.size = G at *
  generalize z256.set 0 1 = P at hm hp1
  clear hzv hz0
  go_loopw [3, 4] (fun s _ wr => ∃ (k : Nat) (p : List Nat), 1 ≤ k ∧ k ≤ 256 ∧ s = .int .i64 (k : Int) ∧ pows p k ∧ TabMem G z256 p w wr) (fun s _ _ => 256 - (intOf s).toNat)
  case atStart => exact ⟨1, P, by omega, by omega, rfl, hp1, hm⟩
  case round =>
    obtain ⟨k, p, hk1, hk, rfl, hp, hmem⟩ := hrel
    clear hm hp1 P
    by_cases hlt : k < 256
    · have hlt' : (k : Int) < 256 := by omega
      have hk1' : 1 ≤ (k : Int) := by omega
      have hidx : ((k : Int) - 1).toNat = k - 1 := by omega
      have hl := hmem.pl
      have hc0 := hmem.bp.num (i := k - 1) (by omega)
      have hc1 := hmem.bp.num (i := k) (by omega)
      have hf1 := hmem.bp.frozen k
      rw [hp (k - 1) (by omega)] at hc0
      have hx := Gf.ex_lt (k - 1)
      generalize p.getD k 0 = pk at *
      have hs := Gf.ex_succ (k - 1) (by omega)
      rw [show k - 1 + 1 = k from by omega] at hs
      have hs' := Lib.hid hs
      clear hs
      by_cases hbig : 255 < 2 * Gf.ex (k - 1)
      · have hbig' : 255 < 2 * (Gf.ex (k - 1) : Int) := by omega
        go_wp2
        go_roundw
        case rel => exact ⟨k + 1, p.set k (Gf.ex k), by omega, by omega, by go_num, pows_step hp (by omega), by rw [tw_hi _ hx hbig, ← hs'.out]; exact hmem.setP k _⟩
        case measure => simp [intOf]; omega
      · have hbig' : 2 * (Gf.ex (k - 1) : Int) ≤ 255 := by omega
        go_wp2
        go_roundw
        case rel => exact ⟨k + 1, p.set k (Gf.ex k), by omega, by omega, by go_num, pows_step hp (by omega), by rw [tw_lo _ hx hbig, ← hs'.out]; exact hmem.setP k _⟩
        case measure => simp [intOf]; omega
    · have ek : (k : Int) = 256 := by omega
      replace hp : pows p 256 := fun j hj => hp j (by omega)
      go_wp2
      clear ek hk hk1 hlt
      go_loopw [5] (fun s wr => ∃ (k : Nat) (o : List Nat), k ≤ 255 ∧ s = .int .i64 (k : Int) ∧ subd o k ∧ TabMem G o p w wr) (fun s _ => 255 - (intOf s).toNat)
      case atStart => exact ⟨0, z256, by omega, rfl, fun j hj => by omega, hmem⟩
      case round =>
        obtain ⟨k, o, hk, rfl, ho, hmem⟩ := hrel
        by_cases hlt : k < 255
        · have hlt' : (k : Int) < 255 := by omega
          have hl := hmem.pl
          have hlo := hmem.ol
          have hc0 := hmem.bp.num (i := k) (by omega)
          have hc1 := hmem.bp.num (i := 255 - k) (by omega)
          have hx := Gf.ex_lt k
          have hc2 := hmem.bo.num (i := Gf.ex k) (by omega)
          have hf2 := hmem.bo.frozen (Gf.ex k)
          rw [hp k (by omega)] at hc0
          rw [hp (255 - k) (by omega), Gf.ex_inv k (by omega)] at hc1
          have hi := Gf.inv_lt (Gf.ex k)
          have hidx : ((255 : Int) - (k : Int)).toNat = 255 - k := by omega
          generalize o.getD (Gf.ex k) 0 = ok at *
          have hs := Lib.hid (Gf.sub_eq (Gf.ex k) hx)
          go_wp2
          have q1 : (k : Int) < 256 := by omega
          have q2 : (255 : Int) - (k : Int) < 256 := by omega
          have q3 : 0 ≤ (255 : Int) - (k : Int) := by omega
          have q3' : (k : Int) ≤ 255 := by omega
          have q4 : (Gf.ex k : Int) < 256 := by omega
          have q5 : IntKind.i64.wrap ((255 : Int) - (k : Int)) = (255 : Int) - (k : Int) := IntWalk.i64_in _ (by omega)
          refine wp_region_still_tail 9 (by kernel_rfl) (by kernel_rfl) ?_
          simp only [List.take_succ_cons, List.take_zero, List.drop_succ_cons, List.drop_zero]
          change wpStill _ _ wr.drew _ _ _
          iterate 7 still_step
          still_call ((subst_any _ hi _).mono (fun e w' h => ⟨h.1, h.2.symm⟩))
          still_step
          refine wpStill_nil ?_
          change wpList _ _ _ _ _ wr.drew
          go_wp2
          go_roundw
          case rel => exact ⟨k + 1, o.set (Gf.ex k) (Gf.sub (Gf.ex k)), by omega, by go_num, subd_step ho (by omega), by rw [hs.out]; first | exact (hmem.setO _ _).drew_ | exact hmem.drew_.setO _ _⟩
          case measure => simp [intOf]; omega
        · have ek : (k : Int) = 255 := by omega
          obtain rfl : k = 255 := by omega
          have hc0 := hmem.bo.num (i := 0) (by have := hmem.ol; omega)
          have hf0 := hmem.bo.frozen 0
          have hall := Lib.hid (subd_all ho hmem.ol)
          generalize o.getD 0 0 = o0 at *
          go_wp2_with fail
          refine (subst_any 0 (by omega) _).mono ?_
          rintro e w3 ⟨rfl, rfl⟩
          have haff : Gf.aff 0 = Gf.sub 0 := Gf.sub_eq 0 (by omega)
          have hm2 : TabMem G subs p w (wr.setCell ⟨G + 1, 0, none⟩ (.int .u8 (Gf.aff 0 : Nat))) := by rw [← hall.out, haff]; exact hmem.setO 0 _
          have hm3 := Lib.hid hm2
          clear haff hm2 hall hmem
          go_wp2
          have hm2 := hm3.out
          generalize wr.setCell ⟨G + 1, 0, none⟩ (.int .u8 (Gf.aff 0 : Nat)) = w3 at *
          have hsz : (Tryd.prog.info? 139).map (·.size) = some (va .u8 subs).size := by rw [va_size, subs_len]; kernel_rfl
          refine wp_load_row 139 (.tmp 1) rfl (G + 1) rfl 139 (va .u8 subs) (0, 0) _ hm2.bo Tryd.underlying139 rfl hsz ?_
          clear hsz
          have hst := run_storeBlk (P := Tryd.prog) hm2.r .u8 subs (by rw [va_size, subs_len, z256_len])
          go_wp2
          have hsz : (Tryd.prog.info? 139).map (·.size) = some (va .u8 subs).size := by rw [va_size, subs_len]; kernel_rfl
          exact bodyPost_ret (results_cell_row rfl _ _ G 139 (va .u8 subs) (0, 0) _ rfl (hm2.r.row _) Tryd.underlying139 rfl hsz) rfl ⟨rfl, by rw [hGG]; exact below_setRow hm2.bel (Nat.le_refl _) _⟩
end Go.Proofs.YtcfddmplnoknlaaDoor
/-
  The functions of package fields, and of its reference, with results that the caller names.
-/
namespace Go.Proofs.YtcfddmplnoknlaaDoor
set_option maxRecDepth 16384
open Go.RowKit

theorem mul_to (a b c : Nat) (ha : a < 256) (hb : b < 256) (hc : Gf.gm a b = c) (w : World) :
  Calls Tryd.prog 78 #[.int .u8 (a : Int), .int .u8 (b : Int)] w fun e w' => e = .returned (.int .u8 (c : Int)) ∧ Below w.heap.size w w' := by
 rw [← hc]; exact mul_nat a b ha hb w
theorem rmul_to (a b c : Nat) (ha : a < 256) (hb : b < 256) (hc : Gf.gm a b = c) (w : World) :
  Calls Tryd.prog 92 #[.int .u8 (a : Int), .int .u8 (b : Int)] w fun e w' => e = .returned (.int .u8 (c : Int)) ∧ Below w.heap.size w w' := by
 rw [← hc]; exact rmul_any a b ha hb w
theorem power_to (a : Nat) (n : Int) (c : Nat) (ha : a < 256) (hc : Gf.powZ a n = c) (w : World) :
  Calls Tryd.prog 60 #[.int .u8 (a : Int), .int .i64 n] w fun e w' => e = .returned (.int .u8 (c : Int)) ∧ Below w.heap.size w w' :=
 power_any a n c (by omega) (by omega) hc w
theorem sub_to (a c : Nat) (ha : a < 256) (hc : Gf.sub a = c) (w : World) :
  Calls Tryd.prog 59 #[.int .u8 (a : Int)] w fun e w' => e = .returned (.int .u8 (c : Int)) ∧ Below w.heap.size w w' :=
 sub_any a c (by omega) (by omega) hc w
end Go.Proofs.YtcfddmplnoknlaaDoor
/-
  Plain words for ciphers: blocks as lists of 16 bytes.
-/
namespace Go.Proofs.YtcfddmplnoknlaaDoor.Ci
set_option maxRecDepth 16384

/-- a list whose first k elements are written anew -/
def upd (f : Nat → Nat) (b : List Nat) (k : Nat) : List Nat := (List.range b.length).map fun i => if i < k then f i else b.getD i 0
theorem upd_len (f : Nat → Nat) (b : List Nat) (k : Nat) : (upd f b k).length = b.length := by simp [upd]
theorem upd_get (f : Nat → Nat) (b : List Nat) (k i : Nat) (hi : i < b.length) : (upd f b k).getD i 0 = if i < k then f i else b.getD i 0 := by
 simp [upd, List.getD_eq_getElem?_getD, hi]
theorem upd_zero (f : Nat → Nat) (b : List Nat) : upd f b 0 = b := by
  apply List.ext_getElem
  · simp [upd]
  · intro i h1 h2
    simp [upd, List.getD_eq_getElem?_getD, h2]
theorem upd_set (f : Nat → Nat) (b : List Nat) (k : Nat) : (upd f b k).set k (f k) = upd f b (k + 1) := by
  apply List.ext_getElem
  · simp [upd]
  · intro i h1 h2
    have hi : i < b.length := by simpa [upd] using h2
    rw [List.getElem_set]
    by_cases e : k = i
    · subst e
      simp [upd]
    · rw [if_neg e]
      simp only [upd, List.getElem_map, List.getElem_range]
      by_cases h : i < k
      · rw [if_pos h, if_pos (by omega)]
      · rw [if_neg h, if_neg (by omega)]
theorem upd_all (f : Nat → Nat) (b : List Nat) (k : Nat) (hk : b.length ≤ k) : upd f b k = (List.range b.length).map f := by
 apply List.map_congr_left
 intro i hi
 rw [if_pos (by have := List.mem_range.1 hi; omega)]

/-- the steps of a round -/
def addK (b key : List Nat) : List Nat := (List.range 16).map fun i => b.getD i 0 ^^^ key.getD i 0
def each (s : Nat → Nat) (b : List Nat) : List Nat := (List.range 16).map fun i => s (b.getD i 0)
def rot (p : Nat) (b : List Nat) : List Nat := (List.range 16).map fun i => b.getD (4 * ((i / 4 + p * (i % 4)) % 4) + i % 4) 0
def mixS (f b : List Nat) (c r : Nat) : Nat → Nat
 | 0 => 0
 | j + 1 => mixS f b c r j ^^^ Gf.gm (f.getD j 0) (b.getD (4 * c + (r + j) % 4) 0)
def mix (f b : List Nat) : List Nat := (List.range 16).map fun i => mixS f b (i / 4) (i % 4) 4

def Byt (l : List Nat) : Prop := ∀ x ∈ l, x < 256
theorem Byt.get {l : List Nat} (h : Byt l) (i : Nat) : l.getD i 0 < 256 := by
  rw [List.getD_eq_getElem?_getD]
  rcases Nat.lt_or_ge i l.length with hi | hi
  · rw [List.getElem?_eq_getElem hi]; exact h _ (List.getElem_mem hi)
  · rw [List.getElem?_eq_none hi]; simp
theorem byt_map {f : Nat → Nat} {n : Nat} (h : ∀ i, i < n → f i < 256) : Byt ((List.range n).map f) := by
 intro x hx
 obtain ⟨i, hi, rfl⟩ := List.mem_map.1 hx
 exact h i (List.mem_range.1 hi)
theorem addK_byt {b k : List Nat} (hb : Byt b) (hk : Byt k) : Byt (addK b k) := byt_map fun i _ => Nat.xor_lt_two_pow (n := 8) (hb.get i) (hk.get i)
theorem rot_byt {p : Nat} {b : List Nat} (hb : Byt b) : Byt (rot p b) := byt_map fun i _ => hb.get _
theorem addK_len (b k : List Nat) : (addK b k).length = 16 := by simp [addK]
theorem each_len (s : Nat → Nat) (b : List Nat) : (each s b).length = 16 := by simp [each]
theorem rot_len (p : Nat) (b : List Nat) : (rot p b).length = 16 := by simp [rot]
theorem mix_len (f b : List Nat) : (mix f b).length = 16 := by simp [mix]
theorem mixS_lt (f b : List Nat) (hf : Byt f) (hb : Byt b) (c r : Nat) : ∀ j, mixS f b c r j < 256
 | 0 => by simp [mixS]
 | j + 1 => by
  unfold mixS
  exact Nat.xor_lt_two_pow (n := 8) (mixS_lt f b hf hb c r j) (Gf.gm_lt _ _ (hf.get j))
theorem mix_byt {f b : List Nat} (hf : Byt f) (hb : Byt b) : Byt (mix f b) := byt_map fun i _ => mixS_lt f b hf hb _ _ 4
end Go.Proofs.YtcfddmplnoknlaaDoor.Ci
/-
  Walks through package ciphers: add, each, rotate, mix.
-/
namespace Go.Proofs.YtcfddmplnoknlaaDoor
set_option maxRecDepth 16384
open Go.RowKit

/-- a state's block behind a step, and everything below it as it was -/
structure StMem (S : Nat) (b : List Nat) (w wr : World) : Prop where
 s : Blk wr S 110 (va .u8 b)
 bel : Below S w wr

set_option maxHeartbeats 800000 in
theorem add_any (S : Nat) (b key : List Nat) (hbl : b.length = 16) (hkl : key.length = 16) (hb : Ci.Byt b) (hk : Ci.Byt key) (w : World) (hs : Blk w S 110 (va .u8 b)) :
    Calls Tryd.prog 61 #[.pointer (some ⟨S, 0, none⟩), .agg (va .u8 key)] w fun e w' => e = .returned (.tuple #[]) ∧ StMem S (Ci.addK b key) w w' := by
  have hlt := hs.lt
  have hm : StMem S (Ci.upd (fun i => b.getD i 0 ^^^ key.getD i 0) b 0) w (w.alloc (.cells (va .u8 key) 22)) := by
    rw [Ci.upd_zero]; exact ⟨hs.alloc _, (Below.refl _ _).alloc (by omega) _⟩
  have hkk : Blk (w.alloc (.cells (va .u8 key) 22)) w.heap.size 22 (va .u8 key) := Blk.new _ _ _
  have hmm := Lib.hid hm
  have hkh := Lib.hid hkk
  clear hs hm hkk
  go_enter Tryd.func61, Tryd.ntmps61
  go_wp2
  generalize w.alloc (.cells (va .u8 key) 22) = w1 at *
  go_loopw [5] (fun s wr => ∃ k : Nat, k ≤ 16 ∧ s = .int .i64 (k : Int) ∧ StMem S (Ci.upd (fun i => b.getD i 0 ^^^ key.getD i 0) b k) w wr ∧ Blk wr w.heap.size 22 (va .u8 key)) (fun s _ => 16 - (intOf s).toNat)
  case atStart => exact ⟨0, by omega, rfl, hmm.out, hkh.out⟩
  case round =>
    clear hmm hkh
    obtain ⟨k, hk16, rfl, hmem, hkey⟩ := hrel
    by_cases hlt : k < 16
    · have hltI : (k : Int) < 16 := by omega
      have hc := hmem.s.num (i := k) (by rw [Ci.upd_len]; omega)
      have hf := hmem.s.frozen k
      rw [Ci.upd_get _ _ _ _ (by omega), if_neg (by omega)] at hc
      have hc2 := hkey.num (i := k) (by omega)
      have hx := hb.get k
      have hy := hk.get k
      have hset := Lib.hid (Ci.upd_set (fun i => b.getD i 0 ^^^ key.getD i 0) b k)
      have hxy := Lib.hid (rfl : b.getD k 0 ^^^ key.getD k 0 = b.getD k 0 ^^^ key.getD k 0)
      have hmh := Lib.hid hmem
      have hkh := Lib.hid hkey
      clear hmem hkey
      obtain ⟨x, hxe⟩ : ∃ x, b.getD k 0 = x := ⟨_, rfl⟩
      obtain ⟨y, hye⟩ : ∃ y, key.getD k 0 = y := ⟨_, rfl⟩
      rw [hxe] at hc hx
      rw [hye] at hc2 hy
      have hxe' := Lib.hid hxe
      have hye' := Lib.hid hye
      have hxr : bits BinOp.xor IntKind.u8 (x : Int) (y : Int) = ((x ^^^ y : Nat) : Int) := u8_xor_nat x y hx hy
      clear hxe hye hxy
      go_wp2
      refine wp_region_still_tail 13 (by kernel_rfl) (by kernel_rfl) ?_
      simp only [List.take_succ_cons, List.take_zero, List.drop_succ_cons, List.drop_zero]
      change wpStill _ _ wr.drew _ _ _
      iterate 13 still_step
      refine wpStill_nil ?_
      change wpList _ _ _ _ _ wr.drew
      go_wp2
      go_roundw
      case rel =>
        refine ⟨k + 1, by omega, by go_num, ⟨?_, (below_drewN hmh.out.bel 1).setCell (Nat.le_refl _) _⟩, ?_⟩
        · rw [← hset.out, hxe'.out, hye'.out]
          have := hmh.out.s.drew.setNum k (x ^^^ y)
          first | exact this | simpa using this
        · exact hkh.out.drew.far (by simp; omega) _
      case measure => simp [intOf]; omega
    · obtain rfl : k = 16 := by omega
      go_wp2
      go_end0
      refine ⟨rfl, ?_, hmem.bel⟩
      have := hmem.s
      rw [Ci.upd_all _ _ _ (by omega), hbl] at this
      exact this
end Go.Proofs.YtcfddmplnoknlaaDoor
/-
  Walks through package ciphers: each, with Sub and with Back.
-/
namespace Go.Proofs.YtcfddmplnoknlaaDoor
set_option maxRecDepth 16384
open Go.RowKit

set_option maxHeartbeats 800000 in
theorem each_sub (S : Nat) (b : List Nat) (hbl : b.length = 16) (hb : Ci.Byt b) (w : World) (hs : Blk w S 110 (va .u8 b)) :
    Calls Tryd.prog 62 #[.pointer (some ⟨S, 0, none⟩), .func (.func 59) #[] #[]] w fun e w' => e = .returned (.tuple #[]) ∧ StMem S (Ci.each Gf.sub b) w w' := by
  have hlt0 := hs.lt
  have hm : StMem S (Ci.upd (fun i => Gf.sub (b.getD i 0)) b 0) w w := by
    rw [Ci.upd_zero]; exact ⟨hs, Below.refl _ _⟩
  have hmm := Lib.hid hm
  have hsz0 : (Tryd.prog.info? 22).map (·.size) = some (va .u8 b).size := by rw [va_size, hbl]; kernel_rfl
  have hsz := Lib.hid hsz0
  obtain ⟨ie, hie, _, his, _⟩ := info_parts byte_info
  have hix : ∀ (k : Nat) (W : World), k < 16 → (Instr.index 22 (.agg (va .u8 b)) (.int .i64 (k : Int))).run Tryd.prog W = .ok (.int .u8 ((b.getD k 0 : Nat) : Int)) W := fun k W hk => run_index_num Tryd.underlying22 Tryd.underlying5 hie his hbl hk W
  have hixh := Lib.hid hix
  have hsh := Lib.hid hs
  clear hm hsz0 hix hs
  go_enter Tryd.func62, Tryd.ntmps62
  go_wp2_with (refine wpList_load_row rfl 22 (.tmp 8) rfl S rfl 110 (va .u8 b) (0, 0) _ hsh.out Tryd.underlying22 rfl hsz.out ?_)
  go_loopw [10] (fun s wr => ∃ k : Nat, k ≤ 16 ∧ s = .int .i64 (k : Int) ∧ StMem S (Ci.upd (fun i => Gf.sub (b.getD i 0)) b k) w wr) (fun s _ => 16 - (intOf s).toNat)
  case atStart => exact ⟨0, by omega, rfl, hmm.out⟩
  case round =>
    clear hmm
    obtain ⟨k, hk16, rfl, hmem⟩ := hrel
    by_cases hlt : k < 16
    · have hltI : (k : Int) < 16 := by omega
      have hrun := fun W => hixh.out k W hlt
      have hx := hb.get k
      have hset := Lib.hid (Ci.upd_set (fun i => Gf.sub (b.getD i 0)) b k)
      have hmh := Lib.hid hmem
      obtain ⟨x, hxe⟩ : ∃ x, b.getD k 0 = x := ⟨_, rfl⟩
      simp only [hxe] at hrun
      rw [hxe] at hx
      have hxe' := Lib.hid hxe
      clear hxe hmem
      go_wp2
      go_region_with (first
        | (go_at_call 59
           refine (sub_to x (Gf.sub x) hx rfl _).mono ?_
           rintro e w1 ⟨rfl, b1⟩
           have hS1 := Lib.hid (hmh.out.s.drew.below b1 hmh.out.s.lt)
           have hB1 := Lib.hid ((below_drewN hmh.out.bel 1).trans (b1.mono (Nat.le_of_lt hmh.out.s.lt)))
           have c1 := hS1.out.num (i := k) (by rw [Ci.upd_len]; omega)
           have f1 := hS1.out.frozen k
           clear b1))
      all_goals
        go_wp2
        go_roundw
      all_goals first
        | (refine ⟨k + 1, by omega, by go_num, ⟨?_, hB1.out.setCell (Nat.le_refl _) _⟩⟩
           rw [← hset.out, hxe'.out]
           exact hS1.out.setNum k (Gf.sub x))
        | (simp [intOf]; omega)
    · obtain rfl : k = 16 := by omega
      go_wp2
      go_end0
      refine ⟨rfl, ?_, hmem.bel⟩
      have := hmem.s
      rw [Ci.upd_all _ _ _ (by omega), hbl] at this
      exact this

end Go.Proofs.YtcfddmplnoknlaaDoor
/-
  Walks through package ciphers: rotate, by one place and by three.
-/
namespace Go.Proofs.YtcfddmplnoknlaaDoor
set_option maxRecDepth 16384
open Go.RowKit

def z16 : List Nat := List.replicate 16 0
theorem z16_len : z16.length = 16 := List.length_replicate ..
theorem zero16 (w : World) : (zeroValue 22).run Tryd.prog w = .ok (.agg (va .u8 z16)) w := by kernel_rfl

set_option maxRecDepth 8000 in
set_option maxHeartbeats 800000 in
theorem rotate1_any (S : Nat) (b : List Nat) (hbl : b.length = 16) (hb : Ci.Byt b) (w : World) (hs : Blk w S 110 (va .u8 b)) :
    Calls Tryd.prog 63 #[.pointer (some ⟨S, 0, none⟩), .int .i64 1] w fun e w' => e = .returned (.tuple #[]) ∧ StMem S (Ci.rot 1 b) w w' := by
  have hlt0 := hs.lt
  have hm : StMem S (Ci.upd (fun i => b.getD (4 * ((i / 4 + 1 * (i % 4)) % 4) + i % 4) 0) b 0) w (w.alloc (.cells (va .u8 b) 22)) := by
    rw [Ci.upd_zero]; exact ⟨hs.alloc _, (Below.refl _ _).alloc (by omega) _⟩
  have hkk : Blk (w.alloc (.cells (va .u8 b) 22)) w.heap.size 22 (va .u8 b) := Blk.new _ _ _
  have hmm := Lib.hid hm
  have hkh := Lib.hid hkk
  have hsz0 : (Tryd.prog.info? 22).map (·.size) = some (va .u8 b).size := by rw [va_size, hbl]; kernel_rfl
  have hsz := Lib.hid hsz0
  have hvs : (va .u8 b).size = 16 := by rw [va_size, hbl]
  have hzv := zero16
  have hst := run_storeNew (P := Tryd.prog) w 22 (va .u8 z16) .u8 b (by rw [va_size, hbl, z16_len])
  have hsh := Lib.hid hs
  clear hm hkk hsz0 hs
  go_enter Tryd.func63, Tryd.ntmps63
  go_wp2_with (refine wpList_load_row rfl 22 (.tmp 9) rfl S rfl 110 (va .u8 b) (0, 0) _ hsh.out Tryd.underlying22 rfl hsz.out ?_)
  clear hst hvs hzv
  generalize w.alloc (.cells (va .u8 b) 22) = w1 at *
  go_loopw [11] (fun s wr => ∃ c : Nat, c ≤ 4 ∧ s = .int .i64 (c : Int) ∧ StMem S (Ci.upd (fun i => b.getD (4 * ((i / 4 + 1 * (i % 4)) % 4) + i % 4) 0) b (4 * c)) w wr ∧ Blk wr w.heap.size 22 (va .u8 b)) (fun s _ => 4 - (intOf s).toNat)
  case atStart => exact ⟨0, by omega, rfl, hmm.out, hkh.out⟩
  case round =>
    clear hmm hkh
    obtain ⟨c, hc4, rfl, hmem, hold⟩ := hrel
    by_cases hlc : c < 4
    · have hlcI : (c : Int) < 4 := by omega
      have hmm := Lib.hid hmem
      have hkh := Lib.hid hold
      clear hmem hold
      go_wp2
      go_loopw [14] (fun s wr => ∃ r : Nat, r ≤ 4 ∧ s = .int .i64 (r : Int) ∧ StMem S (Ci.upd (fun i => b.getD (4 * ((i / 4 + 1 * (i % 4)) % 4) + i % 4) 0) b (4 * c + r)) w wr ∧ Blk wr w.heap.size 22 (va .u8 b)) (fun s _ => 4 - (intOf s).toNat)
      case atStart => exact ⟨0, by omega, rfl, hmm.out, hkh.out⟩
      case round =>
        clear hmm hkh
        obtain ⟨r, hr4, rfl, hmem, hold⟩ := hrel
        by_cases hlr : r < 4
        · have hlrI : (r : Int) < 4 := by omega
          obtain ⟨q, hq⟩ : ∃ q, (c + r) % 4 = q := ⟨_, rfl⟩
          obtain ⟨j, hj⟩ : ∃ j, 4 * q + r = j := ⟨_, rfl⟩
          obtain ⟨i, hi⟩ : ∃ i, 4 * c + r = i := ⟨_, rfl⟩
          have hq4 : q < 4 := by omega
          have hj16 : j < 16 := by omega
          have hi16 : i < 16 := by omega
          have hqe : ((c : Int) + (r : Int)) % 4 = (q : Int) := by omega
          have hqt : ((c : Int) + (r : Int)).tmod 4 = (q : Int) := by rw [Int.tmod_eq_emod_of_nonneg (by omega)]; exact hqe
          have hjI : 4 * (q : Int) + (r : Int) = (j : Int) := by omega
          have hiI : 4 * (c : Int) + (r : Int) = (i : Int) := by omega
          have hj16I : (j : Int) < 16 := by omega
          have hi16I : (i : Int) < 16 := by omega
          have w1 : IntKind.i64.wrap ((r : Int)) = (r : Int) := IntWalk.i64_in _ (by omega)
          have w2 : IntKind.i64.wrap ((c : Int) + (r : Int)) = (c : Int) + (r : Int) := IntWalk.i64_in _ (by omega)
          have w4 : IntKind.i64.wrap (4 * (q : Int)) = 4 * (q : Int) := IntWalk.i64_in _ (by omega)
          have w5 : IntKind.i64.wrap (j : Int) = (j : Int) := IntWalk.i64_in _ (by omega)
          have w6 : IntKind.i64.wrap (4 * (c : Int)) = 4 * (c : Int) := IntWalk.i64_in _ (by omega)
          have w7 : IntKind.i64.wrap (i : Int) = (i : Int) := IntWalk.i64_in _ (by omega)
          rw [hi] at hmem
          have hfi : b.getD (4 * ((i / 4 + 1 * (i % 4)) % 4) + i % 4) 0 = b.getD j 0 := by
            have e1 : i / 4 = c := by omega
            have e2 : i % 4 = r := by omega
            rw [e1, e2]
            have e3 : (c + 1 * r) % 4 = q := by omega
            rw [e3, hj]
          have hc0 := hmem.s.num (i := i) (by rw [Ci.upd_len]; omega)
          have hf := hmem.s.frozen i
          have hc2 := hold.num (i := j) (by omega)
          have hset := Ci.upd_set (fun i => b.getD (4 * ((i / 4 + 1 * (i % 4)) % 4) + i % 4) 0) b i
          rw [hfi] at hset
          obtain ⟨x, hxe⟩ : ∃ x, b.getD j 0 = x := ⟨_, rfl⟩
          rw [hxe] at hc2 hset
          have hset' := Lib.hid hset
          have hih := Lib.hid hi
          have hmh := Lib.hid hmem
          have hkh := Lib.hid hold
          generalize (Ci.upd (fun i => b.getD (4 * ((i / 4 + 1 * (i % 4)) % 4) + i % 4) 0) b i).getD i 0 = y0 at *
          clear hmem hold hset hxe hi hj hq hfi
          go_wp2
          refine wp_region_still_tail 19 (by kernel_rfl) (by kernel_rfl) ?_
          simp only [List.take_succ_cons, List.take_zero, List.drop_succ_cons, List.drop_zero]
          change wpStill _ _ wr.drew _ _ _
          iterate 19 still_step
          refine wpStill_nil ?_
          change wpList _ _ _ _ _ wr.drew
          go_wp2
          go_roundw
          case rel =>
            refine ⟨r + 1, by omega, by go_num, ⟨?_, (below_drewN hmh.out.bel 1).setCell (Nat.le_refl _) _⟩, hkh.out.drew.far (by simp; omega) _⟩
            have e4 : 4 * c + (r + 1) = i + 1 := by rw [← hih.out]; omega
            rw [e4, ← hset'.out]
            exact hmh.out.s.drew.setNum i x
          case measure => simp [intOf]; omega
        · obtain rfl : r = 4 := by omega
          have hmm := Lib.hid hmem
          have hkh := Lib.hid hold
          clear hmem hold
          go_wp2
          go_roundw
          case rel => exact ⟨c + 1, by omega, by go_num, by rw [show 4 * (c + 1) = 4 * c + 4 from by omega]; exact hmm.out, hkh.out⟩
          case measure => simp [intOf]; omega
    · obtain rfl : c = 4 := by omega
      go_wp2
      go_end0
      refine ⟨rfl, ?_, hmem.bel⟩
      have := hmem.s
      rw [Ci.upd_all _ _ _ (by omega), hbl] at this
      exact this

end Go.Proofs.YtcfddmplnoknlaaDoor
/-
  Walks through package ciphers: mix.
-/
namespace Go.Proofs.YtcfddmplnoknlaaDoor
set_option maxRecDepth 16384
open Go.RowKit

set_option maxHeartbeats 1600000 in
theorem mix_any (S : Nat) (f b : List Nat) (hfl : f.length = 4) (hbl : b.length = 16) (hfb : Ci.Byt f) (hb : Ci.Byt b) (w : World) (hs : Blk w S 110 (va .u8 b)) :
    Calls Tryd.prog 64 #[.pointer (some ⟨S, 0, none⟩), .agg (va .u8 f)] w fun e w' => e = .returned (.tuple #[]) ∧ StMem S (Ci.mix f b) w w' := by
  have hlt0 := hs.lt
  have hm : StMem S (Ci.upd (fun i => Ci.mixS f b (i / 4) (i % 4) 4) b 0) w ((w.alloc (.cells (va .u8 f) 106)).alloc (.cells (va .u8 b) 22)) := by
    rw [Ci.upd_zero]; exact ⟨(hs.alloc _).alloc _, ((Below.refl _ _).alloc (by omega) _).alloc (by simp; omega) _⟩
  have hkk : Blk ((w.alloc (.cells (va .u8 f) 106)).alloc (.cells (va .u8 b) 22)) (w.heap.size + 1) 22 (va .u8 b) := by
    have := Blk.new (w.alloc (.cells (va .u8 f) 106)) 22 (va .u8 b)
    simpa using this
  have hff : Blk ((w.alloc (.cells (va .u8 f) 106)).alloc (.cells (va .u8 b) 22)) w.heap.size 106 (va .u8 f) := (Blk.new _ _ _).alloc _
  have hmm := Lib.hid hm
  have hkh := Lib.hid hkk
  have hfh := Lib.hid hff
  have hsz0 : (Tryd.prog.info? 22).map (·.size) = some (va .u8 b).size := by rw [va_size, hbl]; kernel_rfl
  have hsz := Lib.hid hsz0
  have hsz40 : (Tryd.prog.info? 106).map (·.size) = some (va .u8 f).size := by rw [va_size, hfl]; kernel_rfl
  have hsz4 := Lib.hid hsz40
  have hvs : (va .u8 b).size = 16 := by rw [va_size, hbl]
  have hzv := zero16
  have hst := run_storeNew (P := Tryd.prog) (w.alloc (.cells (va .u8 f) 106)) 22 (va .u8 z16) .u8 b (by rw [va_size, hbl, z16_len])
  rw [show (w.alloc (.cells (va .u8 f) 106)).heap.size = w.heap.size + 1 from by simp] at hst
  have hsh := Lib.hid (hs.alloc (.cells (va .u8 f) 106))
  obtain ⟨ie, hie, _, his, _⟩ := info_parts byte_info
  have hix : ∀ (k : Nat) (W : World), k < 4 → (Instr.index 106 (.agg (va .u8 f)) (.int .i64 (k : Int))).run Tryd.prog W = .ok (.int .u8 ((f.getD k 0 : Nat) : Int)) W := fun k W hk => run_index_num Tryd.underlying106 Tryd.underlying5 hie his hfl hk W
  have hixh := Lib.hid hix
  clear hm hkk hff hsz0 hsz40 hs hix
  go_enter Tryd.func64, Tryd.ntmps64
  go_wp2_with (refine wpList_load_row rfl 22 (.tmp 12) rfl S rfl 110 (va .u8 b) (0, 0) _ hsh.out Tryd.underlying22 rfl hsz.out ?_)
  clear hst hvs hzv
  generalize (w.alloc (.cells (va .u8 f) 106)).alloc (.cells (va .u8 b) 22) = w1 at *
  go_loopw [14] (fun s wr => ∃ c : Nat, c ≤ 4 ∧ s = .int .i64 (c : Int) ∧ StMem S (Ci.upd (fun i => Ci.mixS f b (i / 4) (i % 4) 4) b (4 * c)) w wr ∧ Blk wr (w.heap.size + 1) 22 (va .u8 b) ∧ Blk wr w.heap.size 106 (va .u8 f)) (fun s _ => 4 - (intOf s).toNat)
  case atStart => exact ⟨0, by omega, rfl, hmm.out, hkh.out, hfh.out⟩
  case round =>
    clear hmm hkh hfh hsh
    obtain ⟨c, hc4, rfl, hmem, hold, hfac⟩ := hrel
    by_cases hlc : c < 4
    · have hlcI : (c : Int) < 4 := by omega
      have hmm := Lib.hid hmem
      have hkh := Lib.hid hold
      have hfh := Lib.hid hfac
      clear hmem hold hfac
      go_wp2
      go_loopw [17] (fun s wr => ∃ r : Nat, r ≤ 4 ∧ s = .int .i64 (r : Int) ∧ StMem S (Ci.upd (fun i => Ci.mixS f b (i / 4) (i % 4) 4) b (4 * c + r)) w wr ∧ Blk wr (w.heap.size + 1) 22 (va .u8 b) ∧ Blk wr w.heap.size 106 (va .u8 f)) (fun s _ => 4 - (intOf s).toNat)
      case atStart => exact ⟨0, by omega, rfl, hmm.out, hkh.out, hfh.out⟩
      case round =>
        clear hmm hkh hfh
        obtain ⟨r, hr4, rfl, hmem, hold, hfac⟩ := hrel
        by_cases hlr : r < 4
        · have hlrI : (r : Int) < 4 := by omega
          have hmm := Lib.hid hmem
          have hkh := Lib.hid hold
          have hfh := Lib.hid hfac
          clear hmem hold hfac
          go_wp2_with (refine wpList_load_row rfl 106 (.tmp 3) rfl w.heap.size rfl 106 (va .u8 f) (0, 0) _ hfh.out Tryd.underlying106 rfl hsz4.out ?_)
          go_loopw [7, 21] (fun v s wx => ∃ j : Nat, j ≤ 4 ∧ s = .int .i64 (j : Int) ∧ v = .int .u8 (Ci.mixS f b c r j : Nat) ∧ StMem S (Ci.upd (fun i => Ci.mixS f b (i / 4) (i % 4) 4) b (4 * c + r)) w wx ∧ Blk wx (w.heap.size + 1) 22 (va .u8 b) ∧ Blk wx w.heap.size 106 (va .u8 f)) (fun _ s _ => 4 - (intOf s).toNat)
          case atStart => exact ⟨0, by omega, rfl, rfl, hmm.out, hkh.out, hfh.out⟩
          case round =>
            clear hmm hkh hfh
            obtain ⟨j, hj4, rfl, rfl, hmem, hold, hfac⟩ := hrel
            by_cases hlj : j < 4
            · have hljI : (j : Int) < 4 := by omega
              have hrun := fun W => hixh.out j W hlj
              obtain ⟨q, hq⟩ : ∃ q, (r + j) % 4 = q := ⟨_, rfl⟩
              obtain ⟨i, hi⟩ : ∃ i, 4 * c + q = i := ⟨_, rfl⟩
              have hq4 : q < 4 := by omega
              have hi16 : i < 16 := by omega
              have hqt : ((r : Int) + (j : Int)).tmod 4 = (q : Int) := by rw [Int.tmod_eq_emod_of_nonneg (by omega)]; omega
              have hqe : ((r : Int) + (j : Int)) % 4 = (q : Int) := by omega
              have hiI : 4 * (c : Int) + (q : Int) = (i : Int) := by omega
              have hi16I : (i : Int) < 16 := by omega
              have hc2 := hold.num (i := i) (by omega)
              have hfx := hfb.get j
              have hbx := hb.get i
              have hmx := Ci.mixS_lt f b hfb hb c r j
              have hstep : Ci.mixS f b c r (j + 1) = Ci.mixS f b c r j ^^^ Gf.gm (f.getD j 0) (b.getD i 0) := by
                show Ci.mixS f b c r j ^^^ Gf.gm (f.getD j 0) (b.getD (4 * c + (r + j) % 4) 0) = _
                rw [hq, hi]
              obtain ⟨x, hxe⟩ : ∃ x, f.getD j 0 = x := ⟨_, rfl⟩
              obtain ⟨y, hye⟩ : ∃ y, b.getD i 0 = y := ⟨_, rfl⟩
              simp only [hxe] at hrun
              rw [hxe] at hfx hstep
              rw [hye] at hbx hc2 hstep
              obtain ⟨z, hze⟩ : ∃ z, Gf.gm x y = z := ⟨_, rfl⟩
              have hz8 : z < 256 := by rw [← hze]; exact Gf.gm_lt _ _ hfx
              rw [hze] at hstep
              have hxor : bits BinOp.xor IntKind.u8 ((Ci.mixS f b c r j : Nat) : Int) (z : Int) = ((Ci.mixS f b c r (j + 1) : Nat) : Int) := by rw [hstep]; exact u8_xor_nat _ _ hmx hz8
              have hxor' := Lib.hid hxor
              generalize Ci.mixS f b c r j = m0 at *
              obtain ⟨m1, hm1⟩ : ∃ m1, Ci.mixS f b c r (j + 1) = m1 := ⟨_, rfl⟩
              rw [hm1] at hxor
              have hm1' := Lib.hid hm1
              clear hm1
              have hze' := Lib.hid hze
              have hmm := Lib.hid hmem
              have hkh := Lib.hid hold
              have hfh := Lib.hid hfac
              clear hmem hold hfac hxe hye hq hi hstep hze hxor'
              go_wp2_with fail
              refine (mul_to x y z hfx hbx hze'.out _).mono ?_
              rintro e w2 ⟨rfl, b2⟩
              have hmm2 := Lib.hid (StMem.mk (S := S) (w := w) (hmm.out.s.below b2 hmm.out.s.lt) (hmm.out.bel.trans (b2.mono (Nat.le_of_lt hmm.out.s.lt))))
              have hkh2 := Lib.hid (hkh.out.below b2 hkh.out.lt)
              have hfh2 := Lib.hid (hfh.out.below b2 hfh.out.lt)
              clear hmm hkh hfh b2 hc2 hrun
              go_wp2
              go_roundw
              case rel => exact ⟨j + 1, by omega, by go_num, by rw [hm1'.out], hmm2.out, hkh2.out, hfh2.out⟩
              case measure => simp [intOf]; omega
            · obtain rfl : j = 4 := by omega
              obtain ⟨i, hi⟩ : ∃ i, 4 * c + r = i := ⟨_, rfl⟩
              have hi16 : i < 16 := by omega
              have hiI : 4 * (c : Int) + (r : Int) = (i : Int) := by omega
              have hi16I : (i : Int) < 16 := by omega
              have hfi : Ci.mixS f b (i / 4) (i % 4) 4 = Ci.mixS f b c r 4 := by
                rw [show i / 4 = c from by omega, show i % 4 = r from by omega]
              have hset := Ci.upd_set (fun i => Ci.mixS f b (i / 4) (i % 4) 4) b i
              simp only [hfi] at hset
              rw [hi] at hmem
              have hc0 := hmem.s.num (i := i) (by rw [Ci.upd_len]; omega)
              have hf0 := hmem.s.frozen i
              generalize (Ci.upd (fun i => Ci.mixS f b (i / 4) (i % 4) 4) b i).getD i 0 = y0 at *
              generalize Ci.mixS f b c r 4 = m4 at *
              have hset' := Lib.hid hset
              have hih := Lib.hid hi
              have hmm := Lib.hid hmem
              have hkh := Lib.hid hold
              have hfh := Lib.hid hfac
              clear hmem hold hfac hset hi hfi
              go_wp2
              go_roundw
              case rel =>
                refine ⟨r + 1, by omega, by go_num, ⟨?_, hmm.out.bel.setCell (Nat.le_refl _) _⟩, hkh.out.far (by simp; omega) _, hfh.out.far (by simp; omega) _⟩
                have e4 : 4 * c + (r + 1) = i + 1 := by rw [← hih.out]; omega
                rw [e4, ← hset'.out]
                exact hmm.out.s.setNum i m4
              case measure => simp [intOf]; omega
        · obtain rfl : r = 4 := by omega
          have hmm := Lib.hid hmem
          have hkh := Lib.hid hold
          have hfh := Lib.hid hfac
          clear hmem hold hfac
          go_wp2
          go_roundw
          case rel => exact ⟨c + 1, by omega, by go_num, by rw [show 4 * (c + 1) = 4 * c + 4 from by omega]; exact hmm.out, hkh.out, hfh.out⟩
          case measure => simp [intOf]; omega
    · obtain rfl : c = 4 := by omega
      go_wp2
      go_end0
      refine ⟨rfl, ?_, hmem.bel⟩
      have := hmem.s
      rw [Ci.upd_all _ _ _ (by omega), hbl] at this
      exact this
end Go.Proofs.YtcfddmplnoknlaaDoor
