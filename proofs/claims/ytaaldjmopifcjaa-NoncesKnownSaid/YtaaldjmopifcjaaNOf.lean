/-
  The walk of A.Of (caissonlaw08).
-/
import Derived.Test.YtaaldjmopifcjaaNErrAux
import Derived.Test.YtaaldjmopifcjaaNArg
import Derived.StillTailTactics
import Derived.OneCell
import Derived.Deep.RegionLaw
namespace Go.Proofs.Ytaaldjmopifcjaa
open Go.RowKit Sh

/-- the plain data of an allocator as a value -/
def daV (A : Option Addr) (n c mk rs rm : Nat) : Array Value := #[.slice A n c, .int .u8 (mk : Int), .int .u8 (rs : Int), .int .u16 (rm : Int)]
def ofR (rs : Nat) : Nat := rs % 20 + 1
def ofM (mk rs : Nat) : Nat := ofR rs * (mk % 10)
def ofL (mk rs rm : Nat) : Nat := max (ofM mk rs) (ofR rs) + rm % 100
def ofXs (cs : List Nat) (M k : Nat) : List Nat := (cs.take k).map (fun x => x % (M + 1))
def ofC (cs : List Nat) (mk rs : Nat) : List Nat := if cs.isEmpty then [ofM mk rs / 2] else ofXs cs (ofM mk rs) 8
theorem ofXs_len (cs : List Nat) (M k : Nat) (hk : k ≤ cs.length) : (ofXs cs M k).length = k := by simp [ofXs]; omega
theorem ofXs_succ (cs : List Nat) (M k : Nat) (hk : k < cs.length) : ofXs cs M (k + 1) = ofXs cs M k ++ [cs.getD k 0 % (M + 1)] := by
  unfold ofXs
  rw [List.take_succ_eq_append_getElem hk, List.map_append]
  simp [List.getD_eq_getElem?_getD, hk]
theorem ofC_many (cs : List Nat) (mk rs M k : Nat) (hM : ofM mk rs = M) (h0 : 0 < cs.length) (hk : k = 8 ∨ (cs.length = k ∧ k ≤ 8)) : ofC cs mk rs = ofXs cs M k := by
  have hne : cs.isEmpty = false := by cases cs with
    | nil => simp at h0
    | cons => rfl
  unfold ofC
  rw [hne, hM]
  rcases hk with rfl | ⟨h1, h2⟩
  · rfl
  · simp only [Bool.false_eq_true, if_false]
    unfold ofXs
    rw [List.take_of_length_le (by omega), List.take_of_length_le (by omega)]
theorem daV_cells {w : World} {g : Nat} {t : TypeId} {A : Option Addr} {n c a b d : Nat} (h : Blk w g t (daV A n c a b d)) :
    w.cell? ⟨g, 0, none⟩ = some (.slice A n c) ∧ w.cell? ⟨g, 1, none⟩ = some (.int .u8 (a : Int)) ∧ w.cell? ⟨g, 2, none⟩ = some (.int .u8 (b : Int)) ∧ w.cell? ⟨g, 3, none⟩ = some (.int .u16 (d : Int)) :=
  ⟨h.cell 0, h.cell 1, h.cell 2, h.cell 3⟩

/-- the blocks of Of -/
structure OfMem (G : Nat) (A : Option Addr) (n c mk rs rm M L R : Nat) (A' : Option Addr) (k c' : Nat) (xs : List Nat) (w wr : World) : Prop where
  a : Blk wr G 45 (daV A n c mk rs rm)
  y : Blk wr (G + 1) 25 (alV none 0 0 0 0 0)
  b : Blk wr (G + 1 + 1) 25 (alV A' k c' M L R)
  o : wr.ownsRow G 23 1 (.slice A' k c') k (nv .u64 xs)
  bel : Below G w wr
theorem OfMem.drew_ {G : Nat} {A : Option Addr} {n c mk rs rm M L R : Nat} {A' : Option Addr} {k c' : Nat} {xs : List Nat} {w wr : World} (h : OfMem G A n c mk rs rm M L R A' k c' xs w wr) : OfMem G A n c mk rs rm M L R A' k c' xs w wr.drew :=
  ⟨h.a.drew, h.y.drew, h.b.drew, h.o, below_drewN h.bel 1⟩

set_option maxHeartbeats 2000000 in
theorem of_any08 (A : Option Addr) (n c mk rs rm M L R B : Nat) (cs : List Nat) (hM0 : ofM mk rs = M) (hL0 : ofL mk rs rm = L) (hR0 : ofR rs = R) (hcs : ∀ x ∈ cs, x < 65536) (w : World) (hr : Reads w B 1 A n (nv .u16 cs)) (hB : B ≤ w.heap.size) :
    Calls Try.prog 17 #[.agg (daV A n c mk rs rm)] w fun e w' => ∃ A' n' c', e = .returned (.agg (alV A' n' c' M L R)) ∧
      w'.ownsRow w.heap.size 23 1 (.slice A' n' c') n' (nv .u64 (ofC cs mk rs)) ∧ Below w.heap.size w w' := by
  have hRb : 1 ≤ R ∧ R ≤ 20 := by rw [← hR0]; unfold ofR; omega
  have hMb : M ≤ 200 := by
    rw [← hM0]; unfold ofM; rw [hR0]
    have h1 : mk % 10 ≤ 9 := by omega
    calc R * (mk % 10) ≤ 20 * 9 := Nat.mul_le_mul hRb.2 h1
      _ ≤ 200 := by omega
  have hR : (rs : Int) % 20 + 1 = (R : Int) := by rw [← hR0]; unfold ofR; omega
  have hM : IntKind.u64.wrap ((R : Int) * ((mk : Int) % 10)) = (M : Int) := by
    have e : (R : Int) * ((mk : Int) % 10) = (M : Int) := by rw [← hM0]; unfold ofM; rw [hR0]; simp
    rw [e]; exact IntWalk.u64_in _ (by omega)
  have hL1 : R ≤ M → IntKind.u64.wrap ((M : Int) + (rm : Int) % 100) = (L : Int) := fun h => by
    have e : (M : Int) + (rm : Int) % 100 = (L : Int) := by rw [← hL0]; unfold ofL; rw [hM0, hR0]; omega
    rw [e, ← e]; exact IntWalk.u64_in _ (by omega)
  have hL2 : M ≤ R → IntKind.u64.wrap ((R : Int) + (rm : Int) % 100) = (L : Int) := fun h => by
    have e : (R : Int) + (rm : Int) % 100 = (L : Int) := by rw [← hL0]; unfold ofL; rw [hM0, hR0]; omega
    rw [e, ← e]; exact IntWalk.u64_in _ (by omega)
  have hlen := Lib.hid hr.len
  have h0 := Lib.hid hr
  have hcs' := Lib.hid hcs
  have hMM := Lib.hid hM0
  obtain ⟨i0, hi0, hz0, hz1, hz2⟩ := info_parts u64_info
  have hLL := Lib.hid hL1
  have hLL2 := Lib.hid hL2
  have hmem : OfMem w.heap.size A n c mk rs rm M L R none 0 0 (ofXs cs M 0) w (((w.alloc (.cells (daV A n c mk rs rm) 45)).alloc (.cells (alV none 0 0 0 0 0) 25)).alloc (.cells (alV none 0 0 M L R) 25)) :=
    ⟨((Blk.newAt rfl).alloc _).alloc _, (Blk.newAt (by simp)).alloc _, Blk.newAt (by simp), World.ownsRow_nil _ _ _ _, (((Below.refl _ _).alloc (Nat.le_refl _) _).alloc (by simp) _).alloc (by simp <;> omega) _⟩
  have hmm := Lib.hid hmem
  clear hr hcs hM0 hL0 hR0 hL1 hL2 hmem
  obtain ⟨M1, hM1⟩ : ∃ M1 : Nat, M + 1 = M1 := ⟨_, rfl⟩
  have hwM : IntKind.u64.wrap ((M : Int) + 1) = (M1 : Int) := by rw [← hM1]; exact IntWalk.u64_in _ (by omega)
  have hM1z : ¬ M1 = 0 := by omega
  have hmod : ∀ x : Nat, (x : Int).tmod (M1 : Int) = ((x % (M + 1) : Nat) : Int) := fun x => by rw [hM1]; exact (Int.ofNat_tmod x M1).symm
  have hmd := Lib.hid hmod
  have hM1h := Lib.hid hM1
  clear hmod hM1
  unfold daV
  go_enter Try.func17, Try.ntmps17
  have hmm2 : ∃ w1, OfMem w.heap.size A n c mk rs rm M L R none 0 0 (ofXs cs M 0) w w1 ∧ w1 = ((w.alloc (.cells #[.slice A n c, .int .u8 (mk : Int), .int .u8 (rs : Int), .int .u16 (rm : Int)] 45)).alloc (.cells #[.slice none 0 0, .int .u64 0, .int .u64 0, .int .u64 0] 25)).alloc (.cells #[.slice none 0 0, .int .u64 (M : Int), .int .u64 (L : Int), .int .u64 (R : Int)] 25) := ⟨_, hmm.out, rfl⟩
  clear hmm
  by_cases hlt : M < R
  all_goals
    first
      | have hq := hLL2.out (by omega)
      | have hq := hLL.out (by omega)
    first
      | have hltI : (M : Int) < (R : Int) := by omega
      | have hltI : (R : Int) ≤ (M : Int) := by omega
    go_wp2
    obtain ⟨w1, hm1, hw1⟩ := hmm2
    rw [← hw1]
    clear hw1 hq hltI hlt hM
    have hmm := Lib.hid hm1
    clear hm1
    go_loopw [4] (fun s wr => ∃ (k : Nat) (A' : Option Addr) (c' : Nat), k ≤ n ∧ k ≤ 8 ∧ s = .int .i64 (k : Int) ∧ OfMem w.heap.size A n c mk rs rm M L R A' k c' (ofXs cs M k) w wr) (fun s _ => n - (intOf s).toNat)
    case atStart => exact ⟨0, none, 0, by omega, by omega, rfl, hmm.out⟩
    case round =>
      clear hmm
      obtain ⟨k, A', c', hkn, hk8, rfl, hmem⟩ := hrel
      have hmm := Lib.hid hmem
      obtain ⟨a0, a1, a2, a3⟩ := daV_cells hmem.a
      obtain ⟨b0, b1, b2, b3⟩ := alV_cells hmem.b
      obtain ⟨f0, _, _, _⟩ := blk_frozen4 hmem.b
      by_cases hkn2 : k < n
      · have hkI : (k : Int) < (n : Int) := by omega
        by_cases hk82 : k < 8
        · have hk8I : (k : Int) < 8 := by omega
          obtain ⟨ad, rfl, hadB, hcx⟩ := (h0.out.below (hmem.bel.mono hB)).num hkn2
          have hst := Lib.hid (ofXs_succ cs M k (by have := hlen.out; omega))
          have hlx := Lib.hid (ofXs_len cs M k (by have := hlen.out; omega))
          have hx6 : cs.getD k 0 < 65536 := by
            have : k < cs.length := by have := hlen.out; omega
            rw [List.getD_eq_getElem?_getD, List.getElem?_eq_getElem this]
            exact hcs'.out _ (List.getElem_mem this)
          generalize cs.getD k 0 = x at *
          have hy := hmd.out x
          have hwx : IntKind.u64.wrap (x : Int) = (x : Int) := IntWalk.u64_in _ (by omega)
          have hyM : x % (M + 1) < 18446744073709551616 := Nat.lt_of_lt_of_le (Nat.mod_lt _ (by omega)) (by omega)
          generalize x % (M + 1) = yy at *
          clear hmem
          go_wp2
          have hlt3 : w.heap.size + 1 + 1 < wr.heap.size := hmm.out.b.lt
          have hltA : w.heap.size < wr.heap.size := hmm.out.a.lt
          have hltB : ad.block < wr.heap.size := by have := hmm.out.bel.size; omega
          go_region_law (first
            | (refine step_append_any _ rfl (.tmp 42) (.tmp 53) 22 rfl w.heap.size 23 i0 (.int .u64 0) 1 8 Try.underlying22 hi0 hz0 hz1 hz2 rfl (by omega) (.slice A' k c') k (nv .u64 (ofXs cs M k)) rfl ?q1 (wr.heap.size + 1) (some ⟨wr.heap.size, 0, none⟩) 1 1 (nv .u64 [yy]) rfl ?q2 (nv_one _ _) ?q3 ?q4 ?q5 ?_
               case q1 => exact hmm.out.o.alloc _
               case q2 => exact ((Blk.newAt (t := 23) (cs := va .u64 [yy]) rfl).readsAll (by omega) rfl).drew
               case q3 => have : maxLen = 9223372036854775807 := rfl; omega
               case q4 => omega
               case q5 => have := hmm.out.bel.size; simp; omega
               intro v' w' ho hgr hor
               obtain ⟨g', cap', rfl, hbg', hlt'⟩ := ho.form (by omega)
               have hbA := Lib.hid (Blk.grown (hmm.out.a.alloc _).drew hgr (fun e => own_blk_ne hmm.out.o hmm.out.a (by decide) e.symm))
               have hbY := Lib.hid (Blk.grown (hmm.out.y.alloc _).drew hgr (fun e => own_blk_ne hmm.out.o hmm.out.y (by decide) e.symm))
               have hbB := Lib.hid (Blk.grown (hmm.out.b.alloc _).drew hgr (fun e => own_blk_ne hmm.out.o hmm.out.b (by decide) e.symm))
               have hbel := Lib.hid ((below_drewN (hmm.out.bel.alloc hmm.out.bel.size _) 1).grown hgr (by have := hmm.out.bel.size; simp; omega) (fun k hk => (hmm.out.o.lt k hk).1))
               have ho' := Lib.hid ho
               obtain ⟨b0, b1, b2, b3⟩ := alV_cells hbB.out
               obtain ⟨f0, _, _, _⟩ := blk_frozen4 hbB.out
               clear ho hgr hor))
          all_goals
            go_wp2
            go_roundw
          all_goals first
            | (refine ⟨k + 1, some ⟨g', 0, none⟩, cap', by omega, by omega, by go_num, ⟨hbA.out.far (by simp <;> omega) _, hbY.out.far (by simp <;> omega) _, hbB.out.set_ 0 _, ?_, hbel.out.setCell (by simp <;> omega) _⟩⟩
               have ho2 := ho'.out
               rw [nv_app, ← hst.out] at ho2
               exact ownsRow_setCell_other ho2 (own_blk_ne ho'.out hbB.out (by decide)) _)
            | (simp [intOf]; omega)
        · obtain rfl : k = 8 := by omega
          have hxs := ofC_many cs mk rs M 8 hMM.out (by have := hlen.out; omega) (Or.inl rfl)
          obtain ⟨y0, y1, y2, y3⟩ := alV_cells hmem.y
          obtain ⟨g0, g1, g2, g3⟩ := blk_frozen4 hmem.y
          clear hmem
          have hxs' := Lib.hid hxs
          clear hxs
          go_wp2
          have ho2 := hmm.out.o
          rw [← hxs'.out] at ho2
          have hne := own_blk_ne hmm.out.o hmm.out.y (by decide)
          exact bodyPost_ret (results_cell_row rfl _ _ (w.heap.size + 1) 25 (alV A' 8 c' M L R) (0, 0) _ rfl ((((hmm.out.y.set_ 0 _).set_ 1 _).set_ 2 _).set_ 3 _) Try.underlying25 rfl (alV_info _ _ _ _ _ _)) rfl
            ⟨A', 8, c', rfl, ownsRow_setCell_other (ownsRow_setCell_other (ownsRow_setCell_other (ownsRow_setCell_other ho2 hne _) hne _) hne _) hne _,
              (((hmm.out.bel.setCell (by simp <;> omega) _).setCell (by simp <;> omega) _).setCell (by simp <;> omega) _).setCell (by simp <;> omega) _⟩
      · obtain rfl : n = k := by omega
        obtain ⟨y0, y1, y2, y3⟩ := alV_cells hmem.y
        obtain ⟨g0, g1, g2, g3⟩ := blk_frozen4 hmem.y
        by_cases hn0 : n = 0
        · subst hn0
          obtain ⟨f1, f2, f3, f4⟩ := blk_frozen4 hmem.b
          have hdv : (M : Int).tdiv 2 = ((M / 2 : Nat) : Int) := by rw [Int.tdiv_eq_ediv_of_nonneg (by omega)]; omega
          have hdv2 : (M : Int) / 2 = ((M / 2 : Nat) : Int) := by omega
          have hd8 : M / 2 < 18446744073709551616 := by omega
          have hmh := Lib.hid (rfl : M / 2 = M / 2)
          obtain ⟨yy, hyy⟩ : ∃ yy, M / 2 = yy := ⟨_, rfl⟩
          rw [hyy] at hdv hdv2 hd8
          have hyh := Lib.hid hyy
          have hxs : ofXs cs M 0 ++ [yy] = ofC cs mk rs := by
            have h1 : cs = [] := List.eq_nil_of_length_eq_zero hlen.out
            subst h1
            rw [← hyh.out, ← hMM.out]; rfl
          have hxs' := Lib.hid hxs
          have hne := Lib.hid (own_blk_ne hmem.o hmem.y (by decide))
          clear hmem hyy hxs hmh
          go_wp2_with (
            refine wpList_append_any _ rfl (.tmp 61) (.tmp 65) 22 rfl w.heap.size 23 i0 (.int .u64 0) 1 8 Try.underlying22 hi0 hz0 hz1 hz2 rfl (by omega) (.slice A' 0 c') 0 (nv .u64 (ofXs cs M 0)) rfl ?q1 (wr.heap.size + 1) (some ⟨wr.heap.size, 0, none⟩) 1 1 (nv .u64 [yy]) rfl ?q2 (nv_one _ _) (by decide) (by decide) ?q5 ?_
            case q1 => exact hmm.out.o.alloc _
            case q2 => exact (Blk.newAt (t := 23) (cs := va .u64 [yy]) rfl).readsAll (by omega) rfl
            case q5 => have := hmm.out.bel.size; simp; omega
            intro v' w' ho hgr hor
            obtain ⟨g', cap', rfl, hbg', hlt'⟩ := ho.form (by omega)
            have hbY := Lib.hid (Blk.grown (hmm.out.y.alloc _) hgr (fun e => own_blk_ne hmm.out.o hmm.out.y (by decide) e.symm))
            have hbB := Lib.hid (Blk.grown (hmm.out.b.alloc _) hgr (fun e => own_blk_ne hmm.out.o hmm.out.b (by decide) e.symm))
            have hbel := Lib.hid ((hmm.out.bel.alloc hmm.out.bel.size _).grown hgr (by have := hmm.out.bel.size; simp; omega) (fun k hk => (hmm.out.o.lt k hk).1))
            have ho' := Lib.hid ho
            obtain ⟨b0, b1, b2, b3⟩ := alV_cells hbB.out
            obtain ⟨f0, _, _, _⟩ := blk_frozen4 hbB.out
            obtain ⟨y0, y1, y2, y3⟩ := alV_cells hbY.out
            obtain ⟨g0, g1, g2, g3⟩ := blk_frozen4 hbY.out
            clear ho hgr hor)
          have ho2 := ho'.out
          rw [nv_app, hxs'.out] at ho2
          have hneB := own_blk_ne ho'.out hbB.out (by decide)
          have hneY := own_blk_ne ho'.out hbY.out (by decide)
          exact bodyPost_ret (results_cell_row rfl _ _ (w.heap.size + 1) 25 (alV (some ⟨g', 0, none⟩) 1 cap' M L R) (0, 0) _ rfl (((((hbY.out.far (by simp <;> omega) _).set_ 0 _).set_ 1 _).set_ 2 _).set_ 3 _) Try.underlying25 rfl (alV_info _ _ _ _ _ _)) rfl
            ⟨some ⟨g', 0, none⟩, 1, cap', rfl, ownsRow_setCell_other (ownsRow_setCell_other (ownsRow_setCell_other (ownsRow_setCell_other (ownsRow_setCell_other ho2 hneB _) hneY _) hneY _) hneY _) hneY _,
              ((((hbel.out.setCell (by simp <;> omega) _).setCell (by simp <;> omega) _).setCell (by simp <;> omega) _).setCell (by simp <;> omega) _).setCell (by simp <;> omega) _⟩
        · have hnI : ((n : Int) == 0) = false := by rw [beq_eq_false_iff_ne]; omega
          have hxs := ofC_many cs mk rs M n hMM.out (by have := hlen.out; omega) (Or.inr ⟨hlen.out, hk8⟩)
          clear hmem
          have hxs' := Lib.hid hxs
          clear hxs
          go_wp2
          have ho2 := hmm.out.o
          rw [← hxs'.out] at ho2
          have hne := own_blk_ne hmm.out.o hmm.out.y (by decide)
          exact bodyPost_ret (results_cell_row rfl _ _ (w.heap.size + 1) 25 (alV A' n c' M L R) (0, 0) _ rfl ((((hmm.out.y.set_ 0 _).set_ 1 _).set_ 2 _).set_ 3 _) Try.underlying25 rfl (alV_info _ _ _ _ _ _)) rfl
            ⟨A', n, c', rfl, ownsRow_setCell_other (ownsRow_setCell_other (ownsRow_setCell_other (ownsRow_setCell_other ho2 hne _) hne _) hne _) hne _,
              (((hmm.out.bel.setCell (by simp <;> omega) _).setCell (by simp <;> omega) _).setCell (by simp <;> omega) _).setCell (by simp <;> omega) _⟩
end Go.Proofs.Ytaaldjmopifcjaa
