/-
  The walk of NoncesOnce. (Printed by mkonce08.py.)
-/
import Derived.Test.YtaaldjmopifcjaaNOnceA
namespace Go.Proofs.Ytaaldjmopifcjaa
open Go.RowKit Sh

set_option maxRecDepth 8000 in
set_option maxHeartbeats 4000000 in
theorem once_any (A : Option Addr) (n c0 mk rs rm M0 L R N B sn sc : Nat) (SA : Option Addr) (cs0 C sl : List Nat) (hM0 : ofM mk rs = M0) (hL0 : ofL mk rs rm = L) (hR0 : ofR rs = R) (hC : ofC cs0 mk rs = C) (hN : C.length = N) (hcs0 : ∀ x ∈ cs0, x < 65536)
    (w : World) (hr : Reads w B 1 A n (nv .u16 cs0)) (hsr : Reads w B 1 SA sn (nv .u8 sl)) (hsb : ∀ x ∈ sl, x < 256) (hB : B ≤ w.heap.size) :
    Calls Try.prog 5 #[.agg (daV A n c0 mk rs rm), .slice SA sn sc] w fun e w' => e = .returned (.bool true) ∧ Below w.heap.size w w' := by
  have hlen := ofC_len cs0 mk rs
  rw [hC, hN] at hlen
  have hbd := ofL_bd mk rs rm
  have hRb := ofR_bd rs
  have hMb := ofM_bd mk rs
  have hchk := ofC_chk cs0 mk rs rm
  rw [hM0, hL0, hR0] at hbd
  rw [hR0] at hRb
  rw [hM0] at hMb
  rw [hC, hM0, hL0, hR0] at hchk
  have hcf := chk_facts hN hchk
  have hMq := Lib.hid hM0
  have hLq := Lib.hid hL0
  have hRq := Lib.hid hR0
  have hCq := Lib.hid hC
  have hNq := Lib.hid hN
  have hcsq := Lib.hid hcs0
  have hrq := Lib.hid hr
  have hsrq := Lib.hid hsr
  have hsbq := Lib.hid hsb
  have hchkq := Lib.hid hchk
  have hL64 : L < 18446744073709551616 := by omega
  have hfixq := Lib.hid hcf.1
  clear hM0 hL0 hR0 hC hN hcs0 hr hsr hsb hchk hcf
  by_cases hn60 : 60 < sn
  · have hnI : (60 : Int) < (sn : Int) := by omega
    go_enter Try.func5, Try.ntmps5
    go_wp2_with fail
    refine (lives08 _).mono ?_
    rintro e w1 ⟨rfl, b1⟩
    have hbel : Below w.heap.size w w1 := ((Below.refl w.heap.size w).alloc (Nat.le_refl _) _).trans (b1.mono (by simp))
    have hbelq := Lib.hid hbel
    clear b1 hbel
    go_wp2_with fail
    go_ret
    exact ⟨rfl, hbelq.out⟩
  · have hnI : ¬ (60 : Int) < (sn : Int) := by omega
    have hB0 : Below w.heap.size w (w.alloc (.cells (daV A n c0 mk rs rm) 45)) := (Below.refl _ _).alloc (Nat.le_refl _) _
    have hX0 : Blk (w.alloc (.cells (daV A n c0 mk rs rm) 45)) w.heap.size 45 (daV A n c0 mk rs rm) := Blk.new _ _ _
    have hB0q := Lib.hid hB0
    have hX0q := Lib.hid hX0
    clear hB0 hX0
    go_enter Try.func5, Try.ntmps5
    go_upto_region 3 with fail
    refine wp_region_lit ?_
    refine runP 21 (.agg (daV A n c0 mk rs rm)) rfl (by rfl) (exec_row 45 (.tmp 2) rfl w.heap.size rfl 45 (daV A n c0 mk rs rm) _ hX0q.out Try.underlying45 rfl (by kernel_rfl)) ?_
    simp only [List.set_cons_zero, List.set_cons_succ]
    refine callP 22 rfl (by rfl) (fun K hK => ?_)
    go_simp
    refine (of_to A n c0 mk rs rm M0 L R B N cs0 C hMq.out hLq.out hRq.out hCq.out hNq.out hlen.1 hcsq.out _ (hrq.out.alloc hB _) (by simp; omega)).mono ?_
    rintro e w' ⟨g0, c1, rfl, hc1, ho1, hg0, hl0, bx⟩
    dsimp only
    refine hK.out _ _ ?_
    clear hK K
    have hb1 : Below w.heap.size w w' := hB0q.out.trans (bx.mono (by simp))
    have ho1' : w'.ownsRow w.heap.size 23 1 (.slice (some ⟨g0, 0, none⟩) N c1) N (nv .u64 C) := own_base ho1 (by simp)
    simp only [List.set_cons_zero, List.set_cons_succ]
    refine allocP 5 25 rfl (alV none 0 0 0 0 0) (zeroAl _) rfl (by rfl) ?_
    simp only [List.set_cons_zero, List.set_cons_succ]
    refine storeP rfl (by rfl) 25 (.tmp 5) (.tmp 22) rfl w'.heap.size rfl (alV (some ⟨g0, 0, none⟩) N c1 M0 L R) rfl 25 (alV none 0 0 0 0 0) (Blk.new _ _ _) rfl (alV_info _ _ _ _ _ _) (alV_one _ _ _ _ _ _) ?_
    rw [World.setRow_alloc_new]
    refine wpList_nil ?_
    have hm0 := OnMem.first (N := N) (L := L) (R := R) (M := M0) (SA := SA) (sl := sl) (sn := sn) (B := B) ho1' hlen.1 hsrq.out hB hb1
    have hmq := Lib.hid hm0
    clear hm0 ho1 ho1' hg0 hl0 hb1 bx hX0q hB0q
    generalize w'.alloc (.cells (alV (some ⟨g0, 0, none⟩) N c1 M0 L R) 25) = w2 at *
    generalize w'.heap.size = A5 at *
    go_wp2
    go_loopw [6, 7] (fun v s wr => ∃ (i g c M : Nat) (cs : List Nat) (gs : List (Nat × Nat)), i ≤ sn ∧ s = .int .i64 (i : Int) ∧ cs.length = N ∧ chk cs M L R = 0 ∧ Given gs N cs ∧ gs.length ≤ i ∧ OnMem A5 N L R c M g B sn cs SA sl v gs w wr) (fun _ s _ => sn - (intOf s).toNat)
    case atStart => exact ⟨0, g0, c1, M0, C, [], by omega, rfl, hNq.out, hchkq.out, (fun _ h => by cases h), by simp, hmq.out⟩
    case round =>
      clear hmq hchkq hNq hCq hMq hLq hRq hrq hcsq
      obtain ⟨i, g, c, M, cs, gs, hin, rfl, hcl, hck, hgiv, hgl, hM⟩ := hrel
      by_cases hlt : i < sn
      · have hltI : (i : Int) < (sn : Int) := by omega
        have hcf := chk_facts hcl hck
        have hM64 : M < 18446744073709551616 := by have := hcf.1; omega
        obtain ⟨ad, rfl, hadB, hcx⟩ := hM.s.num hlt
        have hsl := hsrq.out.len
        have hx256 : sl.getD i 0 < 256 := by
          rw [List.getD_eq_getElem?_getD, List.getElem?_eq_getElem (by omega)]
          exact hsbq.out _ (List.getElem_mem _)
        obtain ⟨x, hx⟩ : ∃ x, sl.getD i 0 = x := ⟨_, rfl⟩
        rw [hx] at hcx hx256
        obtain ⟨q, hq⟩ : ∃ q, x % 16 = q := ⟨_, rfl⟩
        obtain ⟨u, hu⟩ : ∃ u, x / 16 = u := ⟨_, rfl⟩
        have hqI : (x : Int).tmod 16 = (q : Int) := by rw [Int.tmod_eq_emod_of_nonneg (by omega)]; omega
        have hqE : (x : Int) % 16 = (q : Int) := by omega
        have huI : (x : Int).tdiv 16 = (u : Int) := by rw [Int.tdiv_eq_ediv_of_nonneg (by omega)]; omega
        have huE : (x : Int) / 16 = (u : Int) := by omega
        have hMq := Lib.hid hM
        have hckq := Lib.hid hck
        have hclq := Lib.hid hcl
        have hgivq := Lib.hid hgiv
        have hcfq := Lib.hid hcf
        have hcxq := Lib.hid hcx
        have hadq := Lib.hid hadB
        have hxq := Lib.hid hx
        clear hM hck hcl hgiv hcf hcx hadB hsl hx
        go_upto_region 8 with fail
        refine wp_region_lit ?_
        refine runP 29 (.agg (alV (some ⟨g, 0, none⟩) N c M L R)) rfl (by rfl) (exec_row 25 (.tmp 5) rfl A5 rfl 25 (alV (some ⟨g, 0, none⟩) N c M L R) _ hMq.out.a Try.underlying25 rfl (alV_info _ _ _ _ _ _)) ?_
        simp only [List.set_cons_zero, List.set_cons_succ]
        refine allocP 8 25 rfl (alV none 0 0 0 0 0) (zeroAl _) rfl (by rfl) ?_
        simp only [List.set_cons_zero, List.set_cons_succ]
        refine storeP rfl (by rfl) 25 (.tmp 8) (.tmp 29) rfl wr.heap.size rfl (alV (some ⟨g, 0, none⟩) N c M L R) rfl 25 (alV none 0 0 0 0 0) (Blk.new _ _ _) rfl (alV_info _ _ _ _ _ _) (alV_one _ _ _ _ _ _) ?_
        rw [World.setRow_alloc_new]
        refine wpList_nil ?_
        have hm8 := hMq.out.alloc_ (.cells (alV (some ⟨g, 0, none⟩) N c M L R) 25)
        have hp8 : Blk (wr.alloc (.cells (alV (some ⟨g, 0, none⟩) N c M L R) 25)) wr.heap.size 25 (alV (some ⟨g, 0, none⟩) N c M L R) := Blk.new _ _ _
        have hA8 : A5 < wr.heap.size := hMq.out.a.lt
        have hg8 : g < wr.heap.size := hMq.out.glt
        have hw8 : w.heap.size ≤ wr.heap.size := hMq.out.bel.size
        have hcx8 : (wr.alloc (.cells (alV (some ⟨g, 0, none⟩) N c M L R) 25)).cell? (ad.add i) = some (.int .u8 (x : Int)) := by
          rw [World.cell?_alloc_lt _ _ _ (by rw [block_of_add]; have := hadq.out; have := hMq.out.hB; omega)]
          exact hcxq.out
        clear hMq hcxq
        have hMq := Lib.hid hm8
        have hPq := Lib.hid hp8
        clear hm8 hp8
        generalize wr.alloc (.cells (alV (some ⟨g, 0, none⟩) N c M L R) 25) = w8 at *
        generalize wr.heap.size = P8 at *
        
        by_cases hq0 : q = 0
        · subst hq0
          go_upto_region 24 with fail
          refine wp_region_lit ?_
          refine runP 80 (.agg (alV (some ⟨g, 0, none⟩) N c M L R)) rfl (by rfl) (exec_row 25 (.tmp 5) rfl A5 rfl 25 (alV (some ⟨g, 0, none⟩) N c M L R) _ hMq.out.a Try.underlying25 rfl (alV_info _ _ _ _ _ _)) ?_
          simp only [List.set_cons_zero, List.set_cons_succ]
          refine callP 81 rfl (by rfl) (fun K hK => ?_)
          go_simp
          refine (crash_to ⟨g, 0, none⟩ N c M L R (g + 1) cs (List.replicate N M) rfl hlen.1 hlen.2 hckq.out hM64 _ hMq.out.r (by have := hMq.out.glt; omega)).mono ?_
          rintro e w' ⟨gC, rfl, hC, hgC, bx⟩
          dsimp only
          refine hK.out _ _ ?_
          clear hK K
          simp only [List.set_cons_zero, List.set_cons_succ]
          have hMc := hMq.out.below bx
          have hPc := hPq.out.below bx hPq.out.lt
          have hw8c : w.heap.size ≤ w'.heap.size := hMc.bel.size
          clear hMq hPq bx
          refine runP 79 (.tuple #[.agg (alV (some ⟨gC, 0, none⟩) N N M L R), .int .i64 0]) rfl (by rfl) (by go_simp) ?_
          simp only [List.set_cons_zero, List.set_cons_succ]
          refine runP 82 (.agg (alV (some ⟨gC, 0, none⟩) N N M L R)) rfl (by rfl) (by go_simp) ?_
          simp only [List.set_cons_zero, List.set_cons_succ]
          refine runP 83 (.int .i64 0) rfl (by rfl) (by go_simp) ?_
          simp only [List.set_cons_zero, List.set_cons_succ]
          refine allocP 9 25 rfl (alV none 0 0 0 0 0) (zeroAl _) rfl (by rfl) ?_
          simp only [List.set_cons_zero, List.set_cons_succ]
          refine storeP rfl (by rfl) 25 (.tmp 9) (.tmp 82) rfl w'.heap.size rfl (alV (some ⟨gC, 0, none⟩) N N M L R) rfl 25 (alV none 0 0 0 0 0) (Blk.new _ _ _) rfl (alV_info _ _ _ _ _ _) (alV_one _ _ _ _ _ _) ?_
          rw [World.setRow_alloc_new]
          refine runP 10 (.int .i64 0) rfl (by rfl) (by go_simp) ?_
          simp only [List.set_cons_zero, List.set_cons_succ]
          refine wpList_nil ?_
          have hn9 : Blk (w'.alloc (.cells (alV (some ⟨gC, 0, none⟩) N N M L R) 25)) w'.heap.size 25 (alV (some ⟨gC, 0, none⟩) N N M L R) := Blk.new _ _ _
          have hm9 := hMc.alloc_ (.cells (alV (some ⟨gC, 0, none⟩) N N M L R) 25)
          have hp9 := hPc.alloc (.cells (alV (some ⟨gC, 0, none⟩) N N M L R) 25)
          have hc9 := hC.alloc (.cells (alV (some ⟨gC, 0, none⟩) N N M L R) 25)
          generalize w'.alloc (.cells (alV (some ⟨gC, 0, none⟩) N N M L R) 25) = w9 at *
          generalize w'.heap.size = P9 at *
          go_upto_region 27 with fail
          refine wp_region_lit ?_
          refine runP 86 (.agg (alV (some ⟨gC, 0, none⟩) N N M L R)) rfl (by rfl) (exec_row 25 (.tmp 9) rfl P9 rfl 25 (alV (some ⟨gC, 0, none⟩) N N M L R) _ hn9 Try.underlying25 rfl (alV_info _ _ _ _ _ _)) ?_
          simp only [List.set_cons_zero, List.set_cons_succ]
          refine storeP rfl (by rfl) 25 (.tmp 5) (.tmp 86) rfl A5 rfl (alV (some ⟨gC, 0, none⟩) N N M L R) rfl 25 (alV (some ⟨g, 0, none⟩) N c M L R) hm9.a rfl (alV_info _ _ _ _ _ _) (alV_one _ _ _ _ _ _) ?_
          refine wpList_nil ?_
          have HT := Lib.hid (hm9.next (c' := N) (M' := M) hc9 (List.length_replicate ..))
          have HP := Lib.hid (hp9.rowFar (show A5 ≠ P8 by omega) (alV (some ⟨gC, 0, none⟩) N N M L R))
          clear hn9 hm9 hp9 hc9 hMc hPc
          generalize w9.setRow A5 (alV (some ⟨gC, 0, none⟩) N N M L R) = w10 at *
          have hchk2 : chk (List.replicate N M) M L R = 0 := chk_make (List.length_replicate ..) hcfq.out.1 (fun j hj => by rw [getD_rep hj]; omega)
          have hchk2q := Lib.hid hchk2
          clear hchk2
          obtain ⟨a0, a1, a2, a3⟩ := alV_cells HT.out.a
          obtain ⟨b0, b1, b2, b3⟩ := alV_cells HP.out
          go_upto_region 33 with fail
          refine wp_region_lit ?_
          refine runP 98 (.pointer (some ⟨A5, 1, none⟩)) rfl (by rfl) (by go_simp) ?_
          simp only [List.set_cons_zero, List.set_cons_succ]
          refine runP 99 (.int .u64 ((M : Nat) : Int)) rfl (by rfl) (by go_simp) ?_
          simp only [List.set_cons_zero, List.set_cons_succ]
          refine runP 100 (.pointer (some ⟨P8, 1, none⟩)) rfl (by rfl) (by go_simp) ?_
          simp only [List.set_cons_zero, List.set_cons_succ]
          refine runP 101 (.int .u64 (M : Int)) rfl (by rfl) (by go_simp) ?_
          simp only [List.set_cons_zero, List.set_cons_succ]
          refine runP 102 ((.bool false)) rfl (by rfl) (by go_simp) ?_
          simp only [List.set_cons_zero, List.set_cons_succ]
          refine runP 103 ((.bool false)) rfl (by rfl) (by go_simp) ?_
          simp only [List.set_cons_zero, List.set_cons_succ]
          refine runP 104 (.pointer (some ⟨A5, 0, none⟩)) rfl (by rfl) (by go_simp) ?_
          simp only [List.set_cons_zero, List.set_cons_succ]
          refine runP 105 (.slice (some ⟨gC, 0, none⟩) N N) rfl (by rfl) (by go_simp) ?_
          simp only [List.set_cons_zero, List.set_cons_succ]
          refine runP 106 (.int .i64 (N : Int)) rfl (by rfl) (by go_simp) ?_
          simp only [List.set_cons_zero, List.set_cons_succ]
          refine runP 107 (.pointer (some ⟨P8, 0, none⟩)) rfl (by rfl) (by go_simp) ?_
          simp only [List.set_cons_zero, List.set_cons_succ]
          refine runP 108 (.slice (some ⟨g, 0, none⟩) N c) rfl (by rfl) (by go_simp) ?_
          simp only [List.set_cons_zero, List.set_cons_succ]
          refine runP 109 (.int .i64 (N : Int)) rfl (by rfl) (by go_simp) ?_
          simp only [List.set_cons_zero, List.set_cons_succ]
          refine runP 110 ((.bool false)) rfl (by rfl) (by go_simp) ?_
          simp only [List.set_cons_zero, List.set_cons_succ]
          refine runP 111 ((.bool false)) rfl (by rfl) (by go_simp) ?_
          simp only [List.set_cons_zero, List.set_cons_succ]
          refine runP 112 ((.bool false)) rfl (by rfl) (by go_simp) ?_
          simp only [List.set_cons_zero, List.set_cons_succ]
          refine runP 113 (.agg (alV (some ⟨gC, 0, none⟩) N N M L R)) rfl (by rfl) (exec_row 25 (.tmp 5) rfl A5 rfl 25 (alV (some ⟨gC, 0, none⟩) N N M L R) _ HT.out.a Try.underlying25 rfl (alV_info _ _ _ _ _ _)) ?_
          simp only [List.set_cons_zero, List.set_cons_succ]
          refine callP 114 rfl (by rfl) (fun K hK => ?_)
          go_simp
          refine (check_to (some ⟨gC, 0, none⟩) N N M L R (gC + 1) (List.replicate N M) hchk2q.out _ HT.out.r (by have := HT.out.glt; omega)).mono ?_
          rintro e w' ⟨rfl, bx⟩
          dsimp only
          refine hK.out _ _ ?_
          clear hK K
          replace HT := Lib.hid (HT.out.below bx)
          clear bx a0 a1 a2 a3 b0 b1 b2 b3 HP
          simp only [List.set_cons_zero, List.set_cons_succ]
          refine runP 115 ((.bool false)) rfl (by rfl) (by go_simp) ?_
          simp only [List.set_cons_zero, List.set_cons_succ]
          refine runP 116 ((.bool false)) rfl (by rfl) (by go_simp) ?_
          simp only [List.set_cons_zero, List.set_cons_succ]
          refine wpList_nil ?_
          go_wp2
          go_roundw
          case rel => exact ⟨i + 1, gC, N, M, (List.replicate N M), gs, by omega, by go_num, List.length_replicate .., hchk2q.out, hgivq.out.rep hcfq.out.2, by omega, HT.out⟩
          case measure => simp [intOf]; omega
        · by_cases hq1 : q = 1
          · subst hq1
            go_upto_region 30 with fail
            by_cases hroom : M + R ≤ L
            · obtain ⟨M', hM'⟩ : ∃ m, M + R = m := ⟨_, rfl⟩
              refine wp_region_lit ?_
              refine runP 91 (.agg (alV (some ⟨g, 0, none⟩) N c M L R)) rfl (by rfl) (exec_row 25 (.tmp 5) rfl A5 rfl 25 (alV (some ⟨g, 0, none⟩) N c M L R) _ hMq.out.a Try.underlying25 rfl (alV_info _ _ _ _ _ _)) ?_
              simp only [List.set_cons_zero, List.set_cons_succ]
              refine callP 92 rfl (by rfl) (fun K hK => ?_)
              go_simp
              refine (extend_to ⟨g, 0, none⟩ N c M L R M' (g + 1) cs hM' hlen.1 hlen.2 hckq.out (by have := hcfq.out.1; omega) hL64 (by omega) _ hMq.out.r (by have := hMq.out.glt; omega)).mono ?_
              rintro e w' ⟨gC, rfl, hC, hgC, bx⟩
              dsimp only
              refine hK.out _ _ ?_
              clear hK K
              simp only [List.set_cons_zero, List.set_cons_succ]
              have hMc := hMq.out.below bx
              have hPc := hPq.out.below bx hPq.out.lt
              have hw8c : w.heap.size ≤ w'.heap.size := hMc.bel.size
              clear hMq hPq bx
              refine runP 90 (.tuple #[.agg (alV (some ⟨gC, 0, none⟩) N N M' L R), .int .i64 0]) rfl (by rfl) (by go_simp) ?_
              simp only [List.set_cons_zero, List.set_cons_succ]
              refine runP 93 (.agg (alV (some ⟨gC, 0, none⟩) N N M' L R)) rfl (by rfl) (by go_simp) ?_
              simp only [List.set_cons_zero, List.set_cons_succ]
              refine runP 94 (.int .i64 0) rfl (by rfl) (by go_simp) ?_
              simp only [List.set_cons_zero, List.set_cons_succ]
              refine allocP 11 25 rfl (alV none 0 0 0 0 0) (zeroAl _) rfl (by rfl) ?_
              simp only [List.set_cons_zero, List.set_cons_succ]
              refine storeP rfl (by rfl) 25 (.tmp 11) (.tmp 93) rfl w'.heap.size rfl (alV (some ⟨gC, 0, none⟩) N N M' L R) rfl 25 (alV none 0 0 0 0 0) (Blk.new _ _ _) rfl (alV_info _ _ _ _ _ _) (alV_one _ _ _ _ _ _) ?_
              rw [World.setRow_alloc_new]
              refine runP 12 (.int .i64 0) rfl (by rfl) (by go_simp) ?_
              simp only [List.set_cons_zero, List.set_cons_succ]
              refine wpList_nil ?_
              have hn9 : Blk (w'.alloc (.cells (alV (some ⟨gC, 0, none⟩) N N M' L R) 25)) w'.heap.size 25 (alV (some ⟨gC, 0, none⟩) N N M' L R) := Blk.new _ _ _
              have hm9 := hMc.alloc_ (.cells (alV (some ⟨gC, 0, none⟩) N N M' L R) 25)
              have hp9 := hPc.alloc (.cells (alV (some ⟨gC, 0, none⟩) N N M' L R) 25)
              have hc9 := hC.alloc (.cells (alV (some ⟨gC, 0, none⟩) N N M' L R) 25)
              generalize w'.alloc (.cells (alV (some ⟨gC, 0, none⟩) N N M' L R) 25) = w9 at *
              generalize w'.heap.size = P9 at *
              go_upto_region 32 with fail
              refine wp_region_lit ?_
              refine runP 97 (.agg (alV (some ⟨gC, 0, none⟩) N N M' L R)) rfl (by rfl) (exec_row 25 (.tmp 11) rfl P9 rfl 25 (alV (some ⟨gC, 0, none⟩) N N M' L R) _ hn9 Try.underlying25 rfl (alV_info _ _ _ _ _ _)) ?_
              simp only [List.set_cons_zero, List.set_cons_succ]
              refine storeP rfl (by rfl) 25 (.tmp 5) (.tmp 97) rfl A5 rfl (alV (some ⟨gC, 0, none⟩) N N M' L R) rfl 25 (alV (some ⟨g, 0, none⟩) N c M L R) hm9.a rfl (alV_info _ _ _ _ _ _) (alV_one _ _ _ _ _ _) ?_
              refine wpList_nil ?_
              have HT := Lib.hid (hm9.next (c' := N) (M' := M') hc9 hclq.out)
              have HP := Lib.hid (hp9.rowFar (show A5 ≠ P8 by omega) (alV (some ⟨gC, 0, none⟩) N N M' L R))
              clear hn9 hm9 hp9 hc9 hMc hPc
              generalize w9.setRow A5 (alV (some ⟨gC, 0, none⟩) N N M' L R) = w10 at *
              have hchk2 : chk cs M' L R = 0 := chk_make hclq.out (by have := hcfq.out.1; omega) (fun j hj => by have := hcfq.out.2 j hj; omega)
              have hchk2q := Lib.hid hchk2
              clear hchk2
              have hMlt : ¬ (M' : Int) < (M : Int) := by omega
              obtain ⟨a0, a1, a2, a3⟩ := alV_cells HT.out.a
              obtain ⟨b0, b1, b2, b3⟩ := alV_cells HP.out
              go_upto_region 33 with fail
              refine wp_region_lit ?_
              refine runP 98 (.pointer (some ⟨A5, 1, none⟩)) rfl (by rfl) (by go_simp) ?_
              simp only [List.set_cons_zero, List.set_cons_succ]
              refine runP 99 (.int .u64 ((M' : Nat) : Int)) rfl (by rfl) (by go_simp) ?_
              simp only [List.set_cons_zero, List.set_cons_succ]
              refine runP 100 (.pointer (some ⟨P8, 1, none⟩)) rfl (by rfl) (by go_simp) ?_
              simp only [List.set_cons_zero, List.set_cons_succ]
              refine runP 101 (.int .u64 (M : Int)) rfl (by rfl) (by go_simp) ?_
              simp only [List.set_cons_zero, List.set_cons_succ]
              refine runP 102 ((.bool false)) rfl (by rfl) (by go_simp) ?_
              simp only [List.set_cons_zero, List.set_cons_succ]
              refine runP 103 ((.bool false)) rfl (by rfl) (by go_simp) ?_
              simp only [List.set_cons_zero, List.set_cons_succ]
              refine runP 104 (.pointer (some ⟨A5, 0, none⟩)) rfl (by rfl) (by go_simp) ?_
              simp only [List.set_cons_zero, List.set_cons_succ]
              refine runP 105 (.slice (some ⟨gC, 0, none⟩) N N) rfl (by rfl) (by go_simp) ?_
              simp only [List.set_cons_zero, List.set_cons_succ]
              refine runP 106 (.int .i64 (N : Int)) rfl (by rfl) (by go_simp) ?_
              simp only [List.set_cons_zero, List.set_cons_succ]
              refine runP 107 (.pointer (some ⟨P8, 0, none⟩)) rfl (by rfl) (by go_simp) ?_
              simp only [List.set_cons_zero, List.set_cons_succ]
              refine runP 108 (.slice (some ⟨g, 0, none⟩) N c) rfl (by rfl) (by go_simp) ?_
              simp only [List.set_cons_zero, List.set_cons_succ]
              refine runP 109 (.int .i64 (N : Int)) rfl (by rfl) (by go_simp) ?_
              simp only [List.set_cons_zero, List.set_cons_succ]
              refine runP 110 ((.bool false)) rfl (by rfl) (by go_simp) ?_
              simp only [List.set_cons_zero, List.set_cons_succ]
              refine runP 111 ((.bool false)) rfl (by rfl) (by go_simp) ?_
              simp only [List.set_cons_zero, List.set_cons_succ]
              refine runP 112 ((.bool false)) rfl (by rfl) (by go_simp) ?_
              simp only [List.set_cons_zero, List.set_cons_succ]
              refine runP 113 (.agg (alV (some ⟨gC, 0, none⟩) N N M' L R)) rfl (by rfl) (exec_row 25 (.tmp 5) rfl A5 rfl 25 (alV (some ⟨gC, 0, none⟩) N N M' L R) _ HT.out.a Try.underlying25 rfl (alV_info _ _ _ _ _ _)) ?_
              simp only [List.set_cons_zero, List.set_cons_succ]
              refine callP 114 rfl (by rfl) (fun K hK => ?_)
              go_simp
              refine (check_to (some ⟨gC, 0, none⟩) N N M' L R (gC + 1) cs hchk2q.out _ HT.out.r (by have := HT.out.glt; omega)).mono ?_
              rintro e w' ⟨rfl, bx⟩
              dsimp only
              refine hK.out _ _ ?_
              clear hK K
              replace HT := Lib.hid (HT.out.below bx)
              clear bx a0 a1 a2 a3 b0 b1 b2 b3 HP
              simp only [List.set_cons_zero, List.set_cons_succ]
              refine runP 115 ((.bool false)) rfl (by rfl) (by go_simp) ?_
              simp only [List.set_cons_zero, List.set_cons_succ]
              refine runP 116 ((.bool false)) rfl (by rfl) (by go_simp) ?_
              simp only [List.set_cons_zero, List.set_cons_succ]
              refine wpList_nil ?_
              go_wp2
              go_roundw
              case rel => exact ⟨i + 1, gC, N, M', cs, gs, by omega, by go_num, hclq.out, hchk2q.out, hgivq.out, by omega, HT.out⟩
              case measure => simp [intOf]; omega
            · have hover : L < M + R := by omega
              refine wp_region_lit ?_
              refine runP 91 (.agg (alV (some ⟨g, 0, none⟩) N c M L R)) rfl (by rfl) (exec_row 25 (.tmp 5) rfl A5 rfl 25 (alV (some ⟨g, 0, none⟩) N c M L R) _ hMq.out.a Try.underlying25 rfl (alV_info _ _ _ _ _ _)) ?_
              simp only [List.set_cons_zero, List.set_cons_succ]
              refine callP 92 rfl (by rfl) (fun K hK => ?_)
              go_simp
              refine (extend_over (some ⟨g, 0, none⟩) N c M L R (g + 1) cs hckq.out (by have := hcfq.out.1; omega) hL64 hover _ hMq.out.r (by have := hMq.out.glt; omega)).mono ?_
              rintro e w' ⟨rfl, bx⟩
              dsimp only
              refine hK.out _ _ ?_
              clear hK K
              simp only [List.set_cons_zero, List.set_cons_succ]
              have hMc := hMq.out.below bx
              have hPc := hPq.out.below bx hPq.out.lt
              have hw8c : w.heap.size ≤ w'.heap.size := hMc.bel.size
              clear hMq hPq bx
              refine runP 90 (.tuple #[.agg (alV none 0 0 0 0 0), .int .i64 8]) rfl (by rfl) (by go_simp) ?_
              simp only [List.set_cons_zero, List.set_cons_succ]
              refine runP 93 (.agg (alV none 0 0 0 0 0)) rfl (by rfl) (by go_simp) ?_
              simp only [List.set_cons_zero, List.set_cons_succ]
              refine runP 94 (.int .i64 8) rfl (by rfl) (by go_simp) ?_
              simp only [List.set_cons_zero, List.set_cons_succ]
              refine allocP 11 25 rfl (alV none 0 0 0 0 0) (zeroAl _) rfl (by rfl) ?_
              simp only [List.set_cons_zero, List.set_cons_succ]
              refine storeP rfl (by rfl) 25 (.tmp 11) (.tmp 93) rfl w'.heap.size rfl (alV none 0 0 0 0 0) rfl 25 (alV none 0 0 0 0 0) (Blk.new _ _ _) rfl (alV_info _ _ _ _ _ _) (alV_one _ _ _ _ _ _) ?_
              rw [World.setRow_alloc_new]
              refine runP 12 (.int .i64 8) rfl (by rfl) (by go_simp) ?_
              simp only [List.set_cons_zero, List.set_cons_succ]
              refine wpList_nil ?_
              have HT := Lib.hid (hMc.alloc_ (.cells (alV none 0 0 0 0 0) 25))
              have HP := Lib.hid (hPc.alloc (.cells (alV none 0 0 0 0 0) 25))
              clear hMc hPc
              generalize w'.alloc (.cells (alV none 0 0 0 0 0) 25) = w9 at *
              generalize w'.heap.size = P9 at *
              obtain ⟨a0, a1, a2, a3⟩ := alV_cells HT.out.a
              obtain ⟨b0, b1, b2, b3⟩ := alV_cells HP.out
              go_upto_region 33 with fail
              refine wp_region_lit ?_
              refine runP 98 (.pointer (some ⟨A5, 1, none⟩)) rfl (by rfl) (by go_simp) ?_
              simp only [List.set_cons_zero, List.set_cons_succ]
              refine runP 99 (.int .u64 ((M : Nat) : Int)) rfl (by rfl) (by go_simp) ?_
              simp only [List.set_cons_zero, List.set_cons_succ]
              refine runP 100 (.pointer (some ⟨P8, 1, none⟩)) rfl (by rfl) (by go_simp) ?_
              simp only [List.set_cons_zero, List.set_cons_succ]
              refine runP 101 (.int .u64 (M : Int)) rfl (by rfl) (by go_simp) ?_
              simp only [List.set_cons_zero, List.set_cons_succ]
              refine runP 102 ((.bool false)) rfl (by rfl) (by go_simp) ?_
              simp only [List.set_cons_zero, List.set_cons_succ]
              refine runP 103 ((.bool false)) rfl (by rfl) (by go_simp) ?_
              simp only [List.set_cons_zero, List.set_cons_succ]
              refine runP 104 (.pointer (some ⟨A5, 0, none⟩)) rfl (by rfl) (by go_simp) ?_
              simp only [List.set_cons_zero, List.set_cons_succ]
              refine runP 105 (.slice (some ⟨g, 0, none⟩) N c) rfl (by rfl) (by go_simp) ?_
              simp only [List.set_cons_zero, List.set_cons_succ]
              refine runP 106 (.int .i64 (N : Int)) rfl (by rfl) (by go_simp) ?_
              simp only [List.set_cons_zero, List.set_cons_succ]
              refine runP 107 (.pointer (some ⟨P8, 0, none⟩)) rfl (by rfl) (by go_simp) ?_
              simp only [List.set_cons_zero, List.set_cons_succ]
              refine runP 108 (.slice (some ⟨g, 0, none⟩) N c) rfl (by rfl) (by go_simp) ?_
              simp only [List.set_cons_zero, List.set_cons_succ]
              refine runP 109 (.int .i64 (N : Int)) rfl (by rfl) (by go_simp) ?_
              simp only [List.set_cons_zero, List.set_cons_succ]
              refine runP 110 ((.bool false)) rfl (by rfl) (by go_simp) ?_
              simp only [List.set_cons_zero, List.set_cons_succ]
              refine runP 111 ((.bool false)) rfl (by rfl) (by go_simp) ?_
              simp only [List.set_cons_zero, List.set_cons_succ]
              refine runP 112 ((.bool false)) rfl (by rfl) (by go_simp) ?_
              simp only [List.set_cons_zero, List.set_cons_succ]
              refine runP 113 (.agg (alV (some ⟨g, 0, none⟩) N c M L R)) rfl (by rfl) (exec_row 25 (.tmp 5) rfl A5 rfl 25 (alV (some ⟨g, 0, none⟩) N c M L R) _ HT.out.a Try.underlying25 rfl (alV_info _ _ _ _ _ _)) ?_
              simp only [List.set_cons_zero, List.set_cons_succ]
              refine callP 114 rfl (by rfl) (fun K hK => ?_)
              go_simp
              refine (check_to (some ⟨g, 0, none⟩) N c M L R (g + 1) cs hckq.out _ HT.out.r (by have := HT.out.glt; omega)).mono ?_
              rintro e w' ⟨rfl, bx⟩
              dsimp only
              refine hK.out _ _ ?_
              clear hK K
              replace HT := Lib.hid (HT.out.below bx)
              clear bx a0 a1 a2 a3 b0 b1 b2 b3 HP
              simp only [List.set_cons_zero, List.set_cons_succ]
              refine runP 115 ((.bool false)) rfl (by rfl) (by go_simp) ?_
              simp only [List.set_cons_zero, List.set_cons_succ]
              refine runP 116 ((.bool false)) rfl (by rfl) (by go_simp) ?_
              simp only [List.set_cons_zero, List.set_cons_succ]
              refine wpList_nil ?_
              go_wp2
              go_roundw
              case rel => exact ⟨i + 1, g, c, M, cs, gs, by omega, by go_num, hclq.out, hckq.out, hgivq.out, by omega, HT.out⟩
              case measure => simp [intOf]; omega
          · by_cases hq2 : q = 2
            · subst hq2
              go_upto_region 30 with fail
              by_cases hroom : M + R ≤ L
              · obtain ⟨M', hM'⟩ : ∃ m, M + R = m := ⟨_, rfl⟩
                refine wp_region_lit ?_
                refine runP 91 (.agg (alV (some ⟨g, 0, none⟩) N c M L R)) rfl (by rfl) (exec_row 25 (.tmp 5) rfl A5 rfl 25 (alV (some ⟨g, 0, none⟩) N c M L R) _ hMq.out.a Try.underlying25 rfl (alV_info _ _ _ _ _ _)) ?_
                simp only [List.set_cons_zero, List.set_cons_succ]
                refine callP 92 rfl (by rfl) (fun K hK => ?_)
                go_simp
                refine (extend_to ⟨g, 0, none⟩ N c M L R M' (g + 1) cs hM' hlen.1 hlen.2 hckq.out (by have := hcfq.out.1; omega) hL64 (by omega) _ hMq.out.r (by have := hMq.out.glt; omega)).mono ?_
                rintro e w' ⟨gC, rfl, hC, hgC, bx⟩
                dsimp only
                refine hK.out _ _ ?_
                clear hK K
                simp only [List.set_cons_zero, List.set_cons_succ]
                have hMc := hMq.out.below bx
                have hPc := hPq.out.below bx hPq.out.lt
                have hw8c : w.heap.size ≤ w'.heap.size := hMc.bel.size
                clear hMq hPq bx
                refine runP 90 (.tuple #[.agg (alV (some ⟨gC, 0, none⟩) N N M' L R), .int .i64 0]) rfl (by rfl) (by go_simp) ?_
                simp only [List.set_cons_zero, List.set_cons_succ]
                refine runP 93 (.agg (alV (some ⟨gC, 0, none⟩) N N M' L R)) rfl (by rfl) (by go_simp) ?_
                simp only [List.set_cons_zero, List.set_cons_succ]
                refine runP 94 (.int .i64 0) rfl (by rfl) (by go_simp) ?_
                simp only [List.set_cons_zero, List.set_cons_succ]
                refine allocP 11 25 rfl (alV none 0 0 0 0 0) (zeroAl _) rfl (by rfl) ?_
                simp only [List.set_cons_zero, List.set_cons_succ]
                refine storeP rfl (by rfl) 25 (.tmp 11) (.tmp 93) rfl w'.heap.size rfl (alV (some ⟨gC, 0, none⟩) N N M' L R) rfl 25 (alV none 0 0 0 0 0) (Blk.new _ _ _) rfl (alV_info _ _ _ _ _ _) (alV_one _ _ _ _ _ _) ?_
                rw [World.setRow_alloc_new]
                refine runP 12 (.int .i64 0) rfl (by rfl) (by go_simp) ?_
                simp only [List.set_cons_zero, List.set_cons_succ]
                refine wpList_nil ?_
                have hn9 : Blk (w'.alloc (.cells (alV (some ⟨gC, 0, none⟩) N N M' L R) 25)) w'.heap.size 25 (alV (some ⟨gC, 0, none⟩) N N M' L R) := Blk.new _ _ _
                have hm9 := hMc.alloc_ (.cells (alV (some ⟨gC, 0, none⟩) N N M' L R) 25)
                have hp9 := hPc.alloc (.cells (alV (some ⟨gC, 0, none⟩) N N M' L R) 25)
                have hc9 := hC.alloc (.cells (alV (some ⟨gC, 0, none⟩) N N M' L R) 25)
                generalize w'.alloc (.cells (alV (some ⟨gC, 0, none⟩) N N M' L R) 25) = w9 at *
                generalize w'.heap.size = P9 at *
                go_upto_region 32 with fail
                refine wp_region_lit ?_
                refine runP 97 (.agg (alV (some ⟨gC, 0, none⟩) N N M' L R)) rfl (by rfl) (exec_row 25 (.tmp 11) rfl P9 rfl 25 (alV (some ⟨gC, 0, none⟩) N N M' L R) _ hn9 Try.underlying25 rfl (alV_info _ _ _ _ _ _)) ?_
                simp only [List.set_cons_zero, List.set_cons_succ]
                refine storeP rfl (by rfl) 25 (.tmp 5) (.tmp 97) rfl A5 rfl (alV (some ⟨gC, 0, none⟩) N N M' L R) rfl 25 (alV (some ⟨g, 0, none⟩) N c M L R) hm9.a rfl (alV_info _ _ _ _ _ _) (alV_one _ _ _ _ _ _) ?_
                refine wpList_nil ?_
                have HT := Lib.hid (hm9.next (c' := N) (M' := M') hc9 hclq.out)
                have HP := Lib.hid (hp9.rowFar (show A5 ≠ P8 by omega) (alV (some ⟨gC, 0, none⟩) N N M' L R))
                clear hn9 hm9 hp9 hc9 hMc hPc
                generalize w9.setRow A5 (alV (some ⟨gC, 0, none⟩) N N M' L R) = w10 at *
                have hchk2 : chk cs M' L R = 0 := chk_make hclq.out (by have := hcfq.out.1; omega) (fun j hj => by have := hcfq.out.2 j hj; omega)
                have hchk2q := Lib.hid hchk2
                clear hchk2
                have hMlt : ¬ (M' : Int) < (M : Int) := by omega
                obtain ⟨a0, a1, a2, a3⟩ := alV_cells HT.out.a
                obtain ⟨b0, b1, b2, b3⟩ := alV_cells HP.out
                go_upto_region 33 with fail
                refine wp_region_lit ?_
                refine runP 98 (.pointer (some ⟨A5, 1, none⟩)) rfl (by rfl) (by go_simp) ?_
                simp only [List.set_cons_zero, List.set_cons_succ]
                refine runP 99 (.int .u64 ((M' : Nat) : Int)) rfl (by rfl) (by go_simp) ?_
                simp only [List.set_cons_zero, List.set_cons_succ]
                refine runP 100 (.pointer (some ⟨P8, 1, none⟩)) rfl (by rfl) (by go_simp) ?_
                simp only [List.set_cons_zero, List.set_cons_succ]
                refine runP 101 (.int .u64 (M : Int)) rfl (by rfl) (by go_simp) ?_
                simp only [List.set_cons_zero, List.set_cons_succ]
                refine runP 102 ((.bool false)) rfl (by rfl) (by go_simp) ?_
                simp only [List.set_cons_zero, List.set_cons_succ]
                refine runP 103 ((.bool false)) rfl (by rfl) (by go_simp) ?_
                simp only [List.set_cons_zero, List.set_cons_succ]
                refine runP 104 (.pointer (some ⟨A5, 0, none⟩)) rfl (by rfl) (by go_simp) ?_
                simp only [List.set_cons_zero, List.set_cons_succ]
                refine runP 105 (.slice (some ⟨gC, 0, none⟩) N N) rfl (by rfl) (by go_simp) ?_
                simp only [List.set_cons_zero, List.set_cons_succ]
                refine runP 106 (.int .i64 (N : Int)) rfl (by rfl) (by go_simp) ?_
                simp only [List.set_cons_zero, List.set_cons_succ]
                refine runP 107 (.pointer (some ⟨P8, 0, none⟩)) rfl (by rfl) (by go_simp) ?_
                simp only [List.set_cons_zero, List.set_cons_succ]
                refine runP 108 (.slice (some ⟨g, 0, none⟩) N c) rfl (by rfl) (by go_simp) ?_
                simp only [List.set_cons_zero, List.set_cons_succ]
                refine runP 109 (.int .i64 (N : Int)) rfl (by rfl) (by go_simp) ?_
                simp only [List.set_cons_zero, List.set_cons_succ]
                refine runP 110 ((.bool false)) rfl (by rfl) (by go_simp) ?_
                simp only [List.set_cons_zero, List.set_cons_succ]
                refine runP 111 ((.bool false)) rfl (by rfl) (by go_simp) ?_
                simp only [List.set_cons_zero, List.set_cons_succ]
                refine runP 112 ((.bool false)) rfl (by rfl) (by go_simp) ?_
                simp only [List.set_cons_zero, List.set_cons_succ]
                refine runP 113 (.agg (alV (some ⟨gC, 0, none⟩) N N M' L R)) rfl (by rfl) (exec_row 25 (.tmp 5) rfl A5 rfl 25 (alV (some ⟨gC, 0, none⟩) N N M' L R) _ HT.out.a Try.underlying25 rfl (alV_info _ _ _ _ _ _)) ?_
                simp only [List.set_cons_zero, List.set_cons_succ]
                refine callP 114 rfl (by rfl) (fun K hK => ?_)
                go_simp
                refine (check_to (some ⟨gC, 0, none⟩) N N M' L R (gC + 1) cs hchk2q.out _ HT.out.r (by have := HT.out.glt; omega)).mono ?_
                rintro e w' ⟨rfl, bx⟩
                dsimp only
                refine hK.out _ _ ?_
                clear hK K
                replace HT := Lib.hid (HT.out.below bx)
                clear bx a0 a1 a2 a3 b0 b1 b2 b3 HP
                simp only [List.set_cons_zero, List.set_cons_succ]
                refine runP 115 ((.bool false)) rfl (by rfl) (by go_simp) ?_
                simp only [List.set_cons_zero, List.set_cons_succ]
                refine runP 116 ((.bool false)) rfl (by rfl) (by go_simp) ?_
                simp only [List.set_cons_zero, List.set_cons_succ]
                refine wpList_nil ?_
                go_wp2
                go_roundw
                case rel => exact ⟨i + 1, gC, N, M', cs, gs, by omega, by go_num, hclq.out, hchk2q.out, hgivq.out, by omega, HT.out⟩
                case measure => simp [intOf]; omega
              · have hover : L < M + R := by omega
                refine wp_region_lit ?_
                refine runP 91 (.agg (alV (some ⟨g, 0, none⟩) N c M L R)) rfl (by rfl) (exec_row 25 (.tmp 5) rfl A5 rfl 25 (alV (some ⟨g, 0, none⟩) N c M L R) _ hMq.out.a Try.underlying25 rfl (alV_info _ _ _ _ _ _)) ?_
                simp only [List.set_cons_zero, List.set_cons_succ]
                refine callP 92 rfl (by rfl) (fun K hK => ?_)
                go_simp
                refine (extend_over (some ⟨g, 0, none⟩) N c M L R (g + 1) cs hckq.out (by have := hcfq.out.1; omega) hL64 hover _ hMq.out.r (by have := hMq.out.glt; omega)).mono ?_
                rintro e w' ⟨rfl, bx⟩
                dsimp only
                refine hK.out _ _ ?_
                clear hK K
                simp only [List.set_cons_zero, List.set_cons_succ]
                have hMc := hMq.out.below bx
                have hPc := hPq.out.below bx hPq.out.lt
                have hw8c : w.heap.size ≤ w'.heap.size := hMc.bel.size
                clear hMq hPq bx
                refine runP 90 (.tuple #[.agg (alV none 0 0 0 0 0), .int .i64 8]) rfl (by rfl) (by go_simp) ?_
                simp only [List.set_cons_zero, List.set_cons_succ]
                refine runP 93 (.agg (alV none 0 0 0 0 0)) rfl (by rfl) (by go_simp) ?_
                simp only [List.set_cons_zero, List.set_cons_succ]
                refine runP 94 (.int .i64 8) rfl (by rfl) (by go_simp) ?_
                simp only [List.set_cons_zero, List.set_cons_succ]
                refine allocP 11 25 rfl (alV none 0 0 0 0 0) (zeroAl _) rfl (by rfl) ?_
                simp only [List.set_cons_zero, List.set_cons_succ]
                refine storeP rfl (by rfl) 25 (.tmp 11) (.tmp 93) rfl w'.heap.size rfl (alV none 0 0 0 0 0) rfl 25 (alV none 0 0 0 0 0) (Blk.new _ _ _) rfl (alV_info _ _ _ _ _ _) (alV_one _ _ _ _ _ _) ?_
                rw [World.setRow_alloc_new]
                refine runP 12 (.int .i64 8) rfl (by rfl) (by go_simp) ?_
                simp only [List.set_cons_zero, List.set_cons_succ]
                refine wpList_nil ?_
                have HT := Lib.hid (hMc.alloc_ (.cells (alV none 0 0 0 0 0) 25))
                have HP := Lib.hid (hPc.alloc (.cells (alV none 0 0 0 0 0) 25))
                clear hMc hPc
                generalize w'.alloc (.cells (alV none 0 0 0 0 0) 25) = w9 at *
                generalize w'.heap.size = P9 at *
                obtain ⟨a0, a1, a2, a3⟩ := alV_cells HT.out.a
                obtain ⟨b0, b1, b2, b3⟩ := alV_cells HP.out
                go_upto_region 33 with fail
                refine wp_region_lit ?_
                refine runP 98 (.pointer (some ⟨A5, 1, none⟩)) rfl (by rfl) (by go_simp) ?_
                simp only [List.set_cons_zero, List.set_cons_succ]
                refine runP 99 (.int .u64 ((M : Nat) : Int)) rfl (by rfl) (by go_simp) ?_
                simp only [List.set_cons_zero, List.set_cons_succ]
                refine runP 100 (.pointer (some ⟨P8, 1, none⟩)) rfl (by rfl) (by go_simp) ?_
                simp only [List.set_cons_zero, List.set_cons_succ]
                refine runP 101 (.int .u64 (M : Int)) rfl (by rfl) (by go_simp) ?_
                simp only [List.set_cons_zero, List.set_cons_succ]
                refine runP 102 ((.bool false)) rfl (by rfl) (by go_simp) ?_
                simp only [List.set_cons_zero, List.set_cons_succ]
                refine runP 103 ((.bool false)) rfl (by rfl) (by go_simp) ?_
                simp only [List.set_cons_zero, List.set_cons_succ]
                refine runP 104 (.pointer (some ⟨A5, 0, none⟩)) rfl (by rfl) (by go_simp) ?_
                simp only [List.set_cons_zero, List.set_cons_succ]
                refine runP 105 (.slice (some ⟨g, 0, none⟩) N c) rfl (by rfl) (by go_simp) ?_
                simp only [List.set_cons_zero, List.set_cons_succ]
                refine runP 106 (.int .i64 (N : Int)) rfl (by rfl) (by go_simp) ?_
                simp only [List.set_cons_zero, List.set_cons_succ]
                refine runP 107 (.pointer (some ⟨P8, 0, none⟩)) rfl (by rfl) (by go_simp) ?_
                simp only [List.set_cons_zero, List.set_cons_succ]
                refine runP 108 (.slice (some ⟨g, 0, none⟩) N c) rfl (by rfl) (by go_simp) ?_
                simp only [List.set_cons_zero, List.set_cons_succ]
                refine runP 109 (.int .i64 (N : Int)) rfl (by rfl) (by go_simp) ?_
                simp only [List.set_cons_zero, List.set_cons_succ]
                refine runP 110 ((.bool false)) rfl (by rfl) (by go_simp) ?_
                simp only [List.set_cons_zero, List.set_cons_succ]
                refine runP 111 ((.bool false)) rfl (by rfl) (by go_simp) ?_
                simp only [List.set_cons_zero, List.set_cons_succ]
                refine runP 112 ((.bool false)) rfl (by rfl) (by go_simp) ?_
                simp only [List.set_cons_zero, List.set_cons_succ]
                refine runP 113 (.agg (alV (some ⟨g, 0, none⟩) N c M L R)) rfl (by rfl) (exec_row 25 (.tmp 5) rfl A5 rfl 25 (alV (some ⟨g, 0, none⟩) N c M L R) _ HT.out.a Try.underlying25 rfl (alV_info _ _ _ _ _ _)) ?_
                simp only [List.set_cons_zero, List.set_cons_succ]
                refine callP 114 rfl (by rfl) (fun K hK => ?_)
                go_simp
                refine (check_to (some ⟨g, 0, none⟩) N c M L R (g + 1) cs hckq.out _ HT.out.r (by have := HT.out.glt; omega)).mono ?_
                rintro e w' ⟨rfl, bx⟩
                dsimp only
                refine hK.out _ _ ?_
                clear hK K
                replace HT := Lib.hid (HT.out.below bx)
                clear bx a0 a1 a2 a3 b0 b1 b2 b3 HP
                simp only [List.set_cons_zero, List.set_cons_succ]
                refine runP 115 ((.bool false)) rfl (by rfl) (by go_simp) ?_
                simp only [List.set_cons_zero, List.set_cons_succ]
                refine runP 116 ((.bool false)) rfl (by rfl) (by go_simp) ?_
                simp only [List.set_cons_zero, List.set_cons_succ]
                refine wpList_nil ?_
                go_wp2
                go_roundw
                case rel => exact ⟨i + 1, g, c, M, cs, gs, by omega, by go_num, hclq.out, hckq.out, hgivq.out, by omega, HT.out⟩
                case measure => simp [intOf]; omega
            · have hq0I : ¬ (q : Int) = 0 := by omega
              have hq1I : ¬ (q : Int) = 1 := by omega
              have hq2I : ¬ (q : Int) = 2 := by omega
              obtain ⟨s, hs⟩ : ∃ s, u % N = s := ⟨_, rfl⟩
              have hsN : s < N := hs ▸ Nat.mod_lt _ (by omega)
              have hsI : (u : Int).tmod (N : Int) = (s : Int) := by rw [Int.tmod_eq_emod_of_nonneg (by omega)]; omega
              have hsE : (u : Int) % (N : Int) = (s : Int) := by omega
              have hN0 : ¬ N = 0 := by omega
              have hu8 : IntKind.u8.wrap (u : Int) = (u : Int) := by simp [IntKind.wrap, IntKind.bits, IntKind.signed]; omega
              have hu64 : IntKind.i64.wrap (u : Int) = (u : Int) := IntWalk.i64_in _ (by omega)
              have hs64 : IntKind.i64.wrap (s : Int) = (s : Int) := IntWalk.i64_in _ (by omega)
              obtain ⟨v, hv⟩ : ∃ v, cs.getD s 0 = v := ⟨_, rfl⟩
              have hvM : v ≤ M := by rw [← hv]; exact hcfq.out.2 s hsN
              have hvq := Lib.hid hv
              have hOp : OpMem A5 P8 N L R c M g B sn cs (some ad) sl u6 gs w w8 := ⟨hMq.out, hPq.out, hA8, hg8⟩
              have hOq := Lib.hid hOp
              clear hv hOp hMq hPq hs
              go_upto_region 10 with fail
              try simp only [hq0, hq1, hq2, hq0I, hq1I, hq2I, decide_false, decide_eq_false_iff_not, not_false_eq_true]
              clear hq0 hq1 hq2 hq0I hq1I hq2I
              by_cases hst : v = M
              · go_cut [13, 14, 15] (fun v13 v14 v15 wx => ∃ p13 p14 : Nat, v13 = .pointer (some ⟨p13, 0, none⟩) ∧ v14 = .pointer (some ⟨p14, 0, none⟩) ∧ v15 = .int .i64 10 ∧ OpMem A5 P8 N L R c M g B sn cs (some ad) sl u6 gs w wx)
                case first =>
                  refine wp_region_held_drew (S := OpMem A5 P8 N L R c M g B sn cs (some ad) sl u6 gs w) (by kernel_rfl) hOq.out.drew_ (fun hH => ?_)
                  refine takeH 20 0 36 (.agg (alV (some ⟨g, 0, none⟩) N c M L R)) rfl rfl (by kernel_rfl) (by kernel_rfl) (by kernel_rfl) (fun _ _ _ h => h) (yieldsIf_load_blk (by rfl) 25 (.tmp 5) rfl A5 rfl 25 (alV (some ⟨g, 0, none⟩) N c M L R) _ (fun _ h => h.m.a) Try.underlying25 rfl (alV_info _ _ _ _ _ _)) hH ?_
                  simp only [List.set_cons_zero, List.set_cons_succ]
                  refine takeH 19 1 37 (.slice (some ad) sn sc) rfl rfl (by kernel_rfl) (by kernel_rfl) (by kernel_rfl) (fun _ _ _ h => h) (Or.inl ⟨by rfl, fun w _ => by go_simp⟩) hH ?_
                  simp only [List.set_cons_zero, List.set_cons_succ]
                  refine takeH 18 2 38 (.int .i64 (i : Int)) rfl rfl (by kernel_rfl) (by kernel_rfl) (by kernel_rfl) (fun _ _ _ h => h) (Or.inl ⟨by rfl, fun w _ => by go_simp⟩) hH ?_
                  simp only [List.set_cons_zero, List.set_cons_succ]
                  refine takeH 17 3 39 (.pointer (some (ad.add i))) rfl rfl (by kernel_rfl) (by kernel_rfl) (by kernel_rfl) (fun _ _ _ h => h) (Or.inl ⟨by rfl, fun w _ => by go_simp⟩) hH ?_
                  simp only [List.set_cons_zero, List.set_cons_succ]
                  refine takeH 16 4 40 (.int .u8 (x : Int)) rfl rfl (by kernel_rfl) (by kernel_rfl) (by kernel_rfl) (fun _ _ _ h => h) (Or.inl ⟨by rfl, fun w h => by have hc := h.m.step hlt hxq.out; go_simp⟩) hH ?_
                  simp only [List.set_cons_zero, List.set_cons_succ]
                  refine takeH 15 5 41 (.int .u8 (u : Int)) rfl rfl (by kernel_rfl) (by kernel_rfl) (by kernel_rfl) (fun _ _ _ h => h) (Or.inl ⟨by rfl, fun w _ => by go_simp⟩) hH ?_
                  simp only [List.set_cons_zero, List.set_cons_succ]
                  refine takeH 14 6 42 (.int .i64 (u : Int)) rfl rfl (by kernel_rfl) (by kernel_rfl) (by kernel_rfl) (fun _ _ _ h => h) (Or.inl ⟨by rfl, fun w _ => by go_simp⟩) hH ?_
                  simp only [List.set_cons_zero, List.set_cons_succ]
                  refine takeH 13 7 43 (.pointer (some ⟨A5, 0, none⟩)) rfl rfl (by kernel_rfl) (by kernel_rfl) (by kernel_rfl) (fun _ _ _ h => h) (Or.inl ⟨by rfl, fun w _ => by go_simp⟩) hH ?_
                  simp only [List.set_cons_zero, List.set_cons_succ]
                  refine takeH 12 8 44 (.slice (some ⟨g, 0, none⟩) N c) rfl rfl (by kernel_rfl) (by kernel_rfl) (by kernel_rfl) (fun _ _ _ h => h) (Or.inl ⟨by rfl, fun w h => by have hc := (alV_cells h.m.a).1; go_simp⟩) hH ?_
                  simp only [List.set_cons_zero, List.set_cons_succ]
                  refine takeH 11 9 45 (.int .i64 (N : Int)) rfl rfl (by kernel_rfl) (by kernel_rfl) (by kernel_rfl) (fun _ _ _ h => h) (Or.inl ⟨by rfl, fun w _ => by go_simp⟩) hH ?_
                  simp only [List.set_cons_zero, List.set_cons_succ]
                  refine takeH 10 10 46 (.int .i64 (s : Int)) rfl rfl (by kernel_rfl) (by kernel_rfl) (by kernel_rfl) (fun _ _ _ h => h) (Or.inl ⟨by rfl, fun w _ => by go_simp⟩) hH ?_
                  simp only [List.set_cons_zero, List.set_cons_succ]
                  have hS10 := hH
                  refine wpAnyH_ready (rs := [11, 16, 17]) (by kernel_rfl) (by simp) ?_
                  refine readyCons 9 11 47 rfl rfl (by rfl) (fun K hK => ?_) ?_
                  · refine wp_callF 13 #[.agg (alV (some ⟨g, 0, none⟩) N c M L R), .int .i64 (s : Int)] (by go_simp) (take_state (some ⟨g, 0, none⟩) N c M L R (g + 1) cs s hsN hckq.out (hvq.out.trans hst) _ hH.m.r (by have := hH.m.glt; omega)) ?_
                    rintro e wc ⟨rfl, bx⟩
                    refine ⟨_, rfl, hK.out _ _ (hH.below bx) (fun hH => ?_)⟩
                    clear hK K
                    clear bx
                    simp only [List.set_cons_zero, List.set_cons_succ]
                    refine takeH 8 12 35 (.tuple #[.agg (noV 0 0), .agg (alV none 0 0 0 0 0), .int .i64 10]) rfl rfl (by kernel_rfl) (by kernel_rfl) (by kernel_rfl) (fun _ _ _ h => h) (Or.inl ⟨by rfl, fun w _ => by go_simp⟩) hH ?_
                    simp only [List.set_cons_zero, List.set_cons_succ]
                    refine takeH 7 13 48 (.agg (noV 0 0)) rfl rfl (by kernel_rfl) (by kernel_rfl) (by kernel_rfl) (fun _ _ _ h => h) (Or.inl ⟨by rfl, fun w _ => by go_simp⟩) hH ?_
                    simp only [List.set_cons_zero, List.set_cons_succ]
                    refine takeH 6 14 49 (.agg (alV none 0 0 0 0 0)) rfl rfl (by kernel_rfl) (by kernel_rfl) (by kernel_rfl) (fun _ _ _ h => h) (Or.inl ⟨by rfl, fun w _ => by go_simp⟩) hH ?_
                    simp only [List.set_cons_zero, List.set_cons_succ]
                    refine takeH 5 15 50 (.int .i64 10) rfl rfl (by kernel_rfl) (by kernel_rfl) (by kernel_rfl) (fun _ _ _ h => h) (Or.inl ⟨by rfl, fun w _ => by go_simp⟩) hH ?_
                    simp only [List.set_cons_zero, List.set_cons_succ]
                    have hS5 := hH
                    refine wpAnyH_ready (rs := [16, 17]) (by kernel_rfl) (by simp) ?_
                    refine readyAlloc 4 16 13 rfl rfl (by rfl) 35 rfl (noV 0 0) (zeroNo _) (hH.alloc_ _) (fun hH => ?_) ?_
                    · simp only [List.set_cons_zero, List.set_cons_succ]
                      have h13 : Blk (wc.alloc (.cells (noV 0 0) 35)) wc.heap.size 35 (noV 0 0) := Blk.new _ _ _
                      have lp13 : P8 < wc.heap.size := hS5.p.lt
                      have o13 : Value.ownBlock u6 ≠ some wc.heap.size := hS5.m.own_ne
                      clear hS5
                      generalize wc.alloc (.cells (noV 0 0) 35) = w5 at *
                      generalize wc.heap.size = p13 at *
                      have hS4 := hH
                      refine wpAnyH_ready (rs := [17]) (by kernel_rfl) (by simp) ?_
                      refine readyAlloc 3 17 14 rfl rfl (by rfl) 25 rfl (alV none 0 0 0 0 0) (zeroAl _) (hH.alloc_ _) (fun hH => ?_) ?_
                      · simp only [List.set_cons_zero, List.set_cons_succ]
                        have h14 : Blk (w5.alloc (.cells (alV none 0 0 0 0 0) 25)) w5.heap.size 25 (alV none 0 0 0 0 0) := Blk.new _ _ _
                        have lp14 : P8 < w5.heap.size := hS4.p.lt
                        replace h13 := h13.alloc (.cells (alV none 0 0 0 0 0) 25)
                        clear hS4
                        generalize w5.alloc (.cells (alV none 0 0 0 0 0) 25) = w4 at *
                        generalize w5.heap.size = p14 at *
                        have hS3 := hH
                        refine wpAnyH_ready (rs := [18]) (by kernel_rfl) (by simp) ?_
                        refine readyStore 2 18 rfl rfl (by rfl) 35 (.tmp 13) (.tmp 48) rfl p13 rfl (noV 0 0) rfl 35 (noV 0 0) h13 rfl (noV_info _ _) (noV_one _ _) (hH.other h13 (Or.inr o13) lp13 _) (fun hH => ?_) ?_
                        · have hkeep := h13
                          replace h13 := h13.row (noV 0 0)
                          replace h14 := h14.rowFar (hkeep.ne_ h14 (by decide)) (noV 0 0)
                          clear hS3 hkeep
                          generalize w4.setRow p13 (noV 0 0) = w3 at *
                          have hS2 := hH
                          refine wpAnyH_ready (rs := [19]) (by kernel_rfl) (by simp) ?_
                          refine readyStore 1 19 rfl rfl (by rfl) 25 (.tmp 14) (.tmp 49) rfl p14 rfl (alV none 0 0 0 0 0) rfl 25 (alV none 0 0 0 0 0) h14 rfl (alV_info _ _ _ _ _ _) (alV_one _ _ _ _ _ _) (hH.other h14 (Or.inl (by decide)) lp14 _) (fun hH => ?_) ?_
                          · have hkeep := h14
                            replace h14 := h14.row (alV none 0 0 0 0 0)
                            replace h13 := h13.rowFar (hkeep.ne_ h13 (by decide)) (alV none 0 0 0 0 0)
                            clear hS2 hkeep
                            generalize w3.setRow p14 (alV none 0 0 0 0 0) = w2 at *
                            refine takeH 0 20 15 (.int .i64 10) rfl rfl (by kernel_rfl) (by kernel_rfl) (by kernel_rfl) (fun _ _ _ h => h) (Or.inl ⟨by rfl, fun w _ => by go_simp⟩) hH ?_
                            simp only [List.set_cons_zero, List.set_cons_succ]
                            refine wpAnyH_done (by kernel_rfl) ?_ _
                            go_wp2
                            go_meet
                            exact ⟨p13, p14, rfl, rfl, rfl, hH⟩
                          exact AllReadyH.nil
                        exact AllReadyH.nil
                      exact AllReadyH.nil
                    refine readyAlloc 4 17 14 rfl rfl (by rfl) 25 rfl (alV none 0 0 0 0 0) (zeroAl _) (hH.alloc_ _) (fun hH => ?_) ?_
                    · simp only [List.set_cons_zero, List.set_cons_succ]
                      have h14 : Blk (wc.alloc (.cells (alV none 0 0 0 0 0) 25)) wc.heap.size 25 (alV none 0 0 0 0 0) := Blk.new _ _ _
                      have lp14 : P8 < wc.heap.size := hS5.p.lt
                      clear hS5
                      generalize wc.alloc (.cells (alV none 0 0 0 0 0) 25) = w5 at *
                      generalize wc.heap.size = p14 at *
                      have hS4 := hH
                      refine wpAnyH_ready (rs := [16]) (by kernel_rfl) (by simp) ?_
                      refine readyAlloc 3 16 13 rfl rfl (by rfl) 35 rfl (noV 0 0) (zeroNo _) (hH.alloc_ _) (fun hH => ?_) ?_
                      · simp only [List.set_cons_zero, List.set_cons_succ]
                        have h13 : Blk (w5.alloc (.cells (noV 0 0) 35)) w5.heap.size 35 (noV 0 0) := Blk.new _ _ _
                        have lp13 : P8 < w5.heap.size := hS4.p.lt
                        have o13 : Value.ownBlock u6 ≠ some w5.heap.size := hS4.m.own_ne
                        replace h14 := h14.alloc (.cells (noV 0 0) 35)
                        clear hS4
                        generalize w5.alloc (.cells (noV 0 0) 35) = w4 at *
                        generalize w5.heap.size = p13 at *
                        have hS3 := hH
                        refine wpAnyH_ready (rs := [18]) (by kernel_rfl) (by simp) ?_
                        refine readyStore 2 18 rfl rfl (by rfl) 35 (.tmp 13) (.tmp 48) rfl p13 rfl (noV 0 0) rfl 35 (noV 0 0) h13 rfl (noV_info _ _) (noV_one _ _) (hH.other h13 (Or.inr o13) lp13 _) (fun hH => ?_) ?_
                        · have hkeep := h13
                          replace h13 := h13.row (noV 0 0)
                          replace h14 := h14.rowFar (hkeep.ne_ h14 (by decide)) (noV 0 0)
                          clear hS3 hkeep
                          generalize w4.setRow p13 (noV 0 0) = w3 at *
                          have hS2 := hH
                          refine wpAnyH_ready (rs := [19]) (by kernel_rfl) (by simp) ?_
                          refine readyStore 1 19 rfl rfl (by rfl) 25 (.tmp 14) (.tmp 49) rfl p14 rfl (alV none 0 0 0 0 0) rfl 25 (alV none 0 0 0 0 0) h14 rfl (alV_info _ _ _ _ _ _) (alV_one _ _ _ _ _ _) (hH.other h14 (Or.inl (by decide)) lp14 _) (fun hH => ?_) ?_
                          · have hkeep := h14
                            replace h14 := h14.row (alV none 0 0 0 0 0)
                            replace h13 := h13.rowFar (hkeep.ne_ h13 (by decide)) (alV none 0 0 0 0 0)
                            clear hS2 hkeep
                            generalize w3.setRow p14 (alV none 0 0 0 0 0) = w2 at *
                            refine takeH 0 20 15 (.int .i64 10) rfl rfl (by kernel_rfl) (by kernel_rfl) (by kernel_rfl) (fun _ _ _ h => h) (Or.inl ⟨by rfl, fun w _ => by go_simp⟩) hH ?_
                            simp only [List.set_cons_zero, List.set_cons_succ]
                            refine wpAnyH_done (by kernel_rfl) ?_ _
                            go_wp2
                            go_meet
                            exact ⟨p13, p14, rfl, rfl, rfl, hH⟩
                          exact AllReadyH.nil
                        exact AllReadyH.nil
                      exact AllReadyH.nil
                    exact AllReadyH.nil
                  refine readyAlloc 9 16 13 rfl rfl (by rfl) 35 rfl (noV 0 0) (zeroNo _) (hH.alloc_ _) (fun hH => ?_) ?_
                  · simp only [List.set_cons_zero, List.set_cons_succ]
                    have h13 : Blk (w8.drew.alloc (.cells (noV 0 0) 35)) w8.drew.heap.size 35 (noV 0 0) := Blk.new _ _ _
                    have lp13 : P8 < w8.drew.heap.size := hS10.p.lt
                    have o13 : Value.ownBlock u6 ≠ some w8.drew.heap.size := hS10.m.own_ne
                    clear hS10
                    generalize w8.drew.alloc (.cells (noV 0 0) 35) = w10 at *
                    generalize w8.drew.heap.size = p13 at *
                    have hS9 := hH
                    refine wpAnyH_ready (rs := [11, 17]) (by kernel_rfl) (by simp) ?_
                    refine readyCons 8 11 47 rfl rfl (by rfl) (fun K hK => ?_) ?_
                    · refine wp_callF 13 #[.agg (alV (some ⟨g, 0, none⟩) N c M L R), .int .i64 (s : Int)] (by go_simp) (take_state (some ⟨g, 0, none⟩) N c M L R (g + 1) cs s hsN hckq.out (hvq.out.trans hst) _ hH.m.r (by have := hH.m.glt; omega)) ?_
                      rintro e wc ⟨rfl, bx⟩
                      refine ⟨_, rfl, hK.out _ _ (hH.below bx) (fun hH => ?_)⟩
                      clear hK K
                      replace h13 := h13.below bx h13.lt
                      clear bx
                      simp only [List.set_cons_zero, List.set_cons_succ]
                      refine takeH 7 12 35 (.tuple #[.agg (noV 0 0), .agg (alV none 0 0 0 0 0), .int .i64 10]) rfl rfl (by kernel_rfl) (by kernel_rfl) (by kernel_rfl) (fun _ _ _ h => h) (Or.inl ⟨by rfl, fun w _ => by go_simp⟩) hH ?_
                      simp only [List.set_cons_zero, List.set_cons_succ]
                      refine takeH 6 13 48 (.agg (noV 0 0)) rfl rfl (by kernel_rfl) (by kernel_rfl) (by kernel_rfl) (fun _ _ _ h => h) (Or.inl ⟨by rfl, fun w _ => by go_simp⟩) hH ?_
                      simp only [List.set_cons_zero, List.set_cons_succ]
                      refine takeH 5 14 49 (.agg (alV none 0 0 0 0 0)) rfl rfl (by kernel_rfl) (by kernel_rfl) (by kernel_rfl) (fun _ _ _ h => h) (Or.inl ⟨by rfl, fun w _ => by go_simp⟩) hH ?_
                      simp only [List.set_cons_zero, List.set_cons_succ]
                      refine takeH 4 15 50 (.int .i64 10) rfl rfl (by kernel_rfl) (by kernel_rfl) (by kernel_rfl) (fun _ _ _ h => h) (Or.inl ⟨by rfl, fun w _ => by go_simp⟩) hH ?_
                      simp only [List.set_cons_zero, List.set_cons_succ]
                      have hS4 := hH
                      refine wpAnyH_ready (rs := [17]) (by kernel_rfl) (by simp) ?_
                      refine readyAlloc 3 17 14 rfl rfl (by rfl) 25 rfl (alV none 0 0 0 0 0) (zeroAl _) (hH.alloc_ _) (fun hH => ?_) ?_
                      · simp only [List.set_cons_zero, List.set_cons_succ]
                        have h14 : Blk (wc.alloc (.cells (alV none 0 0 0 0 0) 25)) wc.heap.size 25 (alV none 0 0 0 0 0) := Blk.new _ _ _
                        have lp14 : P8 < wc.heap.size := hS4.p.lt
                        replace h13 := h13.alloc (.cells (alV none 0 0 0 0 0) 25)
                        clear hS4
                        generalize wc.alloc (.cells (alV none 0 0 0 0 0) 25) = w4 at *
                        generalize wc.heap.size = p14 at *
                        have hS3 := hH
                        refine wpAnyH_ready (rs := [18]) (by kernel_rfl) (by simp) ?_
                        refine readyStore 2 18 rfl rfl (by rfl) 35 (.tmp 13) (.tmp 48) rfl p13 rfl (noV 0 0) rfl 35 (noV 0 0) h13 rfl (noV_info _ _) (noV_one _ _) (hH.other h13 (Or.inr o13) lp13 _) (fun hH => ?_) ?_
                        · have hkeep := h13
                          replace h13 := h13.row (noV 0 0)
                          replace h14 := h14.rowFar (hkeep.ne_ h14 (by decide)) (noV 0 0)
                          clear hS3 hkeep
                          generalize w4.setRow p13 (noV 0 0) = w3 at *
                          have hS2 := hH
                          refine wpAnyH_ready (rs := [19]) (by kernel_rfl) (by simp) ?_
                          refine readyStore 1 19 rfl rfl (by rfl) 25 (.tmp 14) (.tmp 49) rfl p14 rfl (alV none 0 0 0 0 0) rfl 25 (alV none 0 0 0 0 0) h14 rfl (alV_info _ _ _ _ _ _) (alV_one _ _ _ _ _ _) (hH.other h14 (Or.inl (by decide)) lp14 _) (fun hH => ?_) ?_
                          · have hkeep := h14
                            replace h14 := h14.row (alV none 0 0 0 0 0)
                            replace h13 := h13.rowFar (hkeep.ne_ h13 (by decide)) (alV none 0 0 0 0 0)
                            clear hS2 hkeep
                            generalize w3.setRow p14 (alV none 0 0 0 0 0) = w2 at *
                            refine takeH 0 20 15 (.int .i64 10) rfl rfl (by kernel_rfl) (by kernel_rfl) (by kernel_rfl) (fun _ _ _ h => h) (Or.inl ⟨by rfl, fun w _ => by go_simp⟩) hH ?_
                            simp only [List.set_cons_zero, List.set_cons_succ]
                            refine wpAnyH_done (by kernel_rfl) ?_ _
                            go_wp2
                            go_meet
                            exact ⟨p13, p14, rfl, rfl, rfl, hH⟩
                          exact AllReadyH.nil
                        exact AllReadyH.nil
                      exact AllReadyH.nil
                    refine readyAlloc 8 17 14 rfl rfl (by rfl) 25 rfl (alV none 0 0 0 0 0) (zeroAl _) (hH.alloc_ _) (fun hH => ?_) ?_
                    · simp only [List.set_cons_zero, List.set_cons_succ]
                      have h14 : Blk (w10.alloc (.cells (alV none 0 0 0 0 0) 25)) w10.heap.size 25 (alV none 0 0 0 0 0) := Blk.new _ _ _
                      have lp14 : P8 < w10.heap.size := hS9.p.lt
                      replace h13 := h13.alloc (.cells (alV none 0 0 0 0 0) 25)
                      clear hS9
                      generalize w10.alloc (.cells (alV none 0 0 0 0 0) 25) = w9 at *
                      generalize w10.heap.size = p14 at *
                      have hS8 := hH
                      refine wpAnyH_ready (rs := [11]) (by kernel_rfl) (by simp) ?_
                      refine readyCons 7 11 47 rfl rfl (by rfl) (fun K hK => ?_) ?_
                      · refine wp_callF 13 #[.agg (alV (some ⟨g, 0, none⟩) N c M L R), .int .i64 (s : Int)] (by go_simp) (take_state (some ⟨g, 0, none⟩) N c M L R (g + 1) cs s hsN hckq.out (hvq.out.trans hst) _ hH.m.r (by have := hH.m.glt; omega)) ?_
                        rintro e wc ⟨rfl, bx⟩
                        refine ⟨_, rfl, hK.out _ _ (hH.below bx) (fun hH => ?_)⟩
                        clear hK K
                        replace h13 := h13.below bx h13.lt
                        replace h14 := h14.below bx h14.lt
                        clear bx
                        simp only [List.set_cons_zero, List.set_cons_succ]
                        refine takeH 6 12 35 (.tuple #[.agg (noV 0 0), .agg (alV none 0 0 0 0 0), .int .i64 10]) rfl rfl (by kernel_rfl) (by kernel_rfl) (by kernel_rfl) (fun _ _ _ h => h) (Or.inl ⟨by rfl, fun w _ => by go_simp⟩) hH ?_
                        simp only [List.set_cons_zero, List.set_cons_succ]
                        refine takeH 5 13 48 (.agg (noV 0 0)) rfl rfl (by kernel_rfl) (by kernel_rfl) (by kernel_rfl) (fun _ _ _ h => h) (Or.inl ⟨by rfl, fun w _ => by go_simp⟩) hH ?_
                        simp only [List.set_cons_zero, List.set_cons_succ]
                        refine takeH 4 14 49 (.agg (alV none 0 0 0 0 0)) rfl rfl (by kernel_rfl) (by kernel_rfl) (by kernel_rfl) (fun _ _ _ h => h) (Or.inl ⟨by rfl, fun w _ => by go_simp⟩) hH ?_
                        simp only [List.set_cons_zero, List.set_cons_succ]
                        refine takeH 3 15 50 (.int .i64 10) rfl rfl (by kernel_rfl) (by kernel_rfl) (by kernel_rfl) (fun _ _ _ h => h) (Or.inl ⟨by rfl, fun w _ => by go_simp⟩) hH ?_
                        simp only [List.set_cons_zero, List.set_cons_succ]
                        have hS3 := hH
                        refine wpAnyH_ready (rs := [18]) (by kernel_rfl) (by simp) ?_
                        refine readyStore 2 18 rfl rfl (by rfl) 35 (.tmp 13) (.tmp 48) rfl p13 rfl (noV 0 0) rfl 35 (noV 0 0) h13 rfl (noV_info _ _) (noV_one _ _) (hH.other h13 (Or.inr o13) lp13 _) (fun hH => ?_) ?_
                        · have hkeep := h13
                          replace h13 := h13.row (noV 0 0)
                          replace h14 := h14.rowFar (hkeep.ne_ h14 (by decide)) (noV 0 0)
                          clear hS3 hkeep
                          generalize wc.setRow p13 (noV 0 0) = w3 at *
                          have hS2 := hH
                          refine wpAnyH_ready (rs := [19]) (by kernel_rfl) (by simp) ?_
                          refine readyStore 1 19 rfl rfl (by rfl) 25 (.tmp 14) (.tmp 49) rfl p14 rfl (alV none 0 0 0 0 0) rfl 25 (alV none 0 0 0 0 0) h14 rfl (alV_info _ _ _ _ _ _) (alV_one _ _ _ _ _ _) (hH.other h14 (Or.inl (by decide)) lp14 _) (fun hH => ?_) ?_
                          · have hkeep := h14
                            replace h14 := h14.row (alV none 0 0 0 0 0)
                            replace h13 := h13.rowFar (hkeep.ne_ h13 (by decide)) (alV none 0 0 0 0 0)
                            clear hS2 hkeep
                            generalize w3.setRow p14 (alV none 0 0 0 0 0) = w2 at *
                            refine takeH 0 20 15 (.int .i64 10) rfl rfl (by kernel_rfl) (by kernel_rfl) (by kernel_rfl) (fun _ _ _ h => h) (Or.inl ⟨by rfl, fun w _ => by go_simp⟩) hH ?_
                            simp only [List.set_cons_zero, List.set_cons_succ]
                            refine wpAnyH_done (by kernel_rfl) ?_ _
                            go_wp2
                            go_meet
                            exact ⟨p13, p14, rfl, rfl, rfl, hH⟩
                          exact AllReadyH.nil
                        exact AllReadyH.nil
                      exact AllReadyH.nil
                    exact AllReadyH.nil
                  refine readyAlloc 9 17 14 rfl rfl (by rfl) 25 rfl (alV none 0 0 0 0 0) (zeroAl _) (hH.alloc_ _) (fun hH => ?_) ?_
                  · simp only [List.set_cons_zero, List.set_cons_succ]
                    have h14 : Blk (w8.drew.alloc (.cells (alV none 0 0 0 0 0) 25)) w8.drew.heap.size 25 (alV none 0 0 0 0 0) := Blk.new _ _ _
                    have lp14 : P8 < w8.drew.heap.size := hS10.p.lt
                    clear hS10
                    generalize w8.drew.alloc (.cells (alV none 0 0 0 0 0) 25) = w10 at *
                    generalize w8.drew.heap.size = p14 at *
                    have hS9 := hH
                    refine wpAnyH_ready (rs := [11, 16]) (by kernel_rfl) (by simp) ?_
                    refine readyCons 8 11 47 rfl rfl (by rfl) (fun K hK => ?_) ?_
                    · refine wp_callF 13 #[.agg (alV (some ⟨g, 0, none⟩) N c M L R), .int .i64 (s : Int)] (by go_simp) (take_state (some ⟨g, 0, none⟩) N c M L R (g + 1) cs s hsN hckq.out (hvq.out.trans hst) _ hH.m.r (by have := hH.m.glt; omega)) ?_
                      rintro e wc ⟨rfl, bx⟩
                      refine ⟨_, rfl, hK.out _ _ (hH.below bx) (fun hH => ?_)⟩
                      clear hK K
                      replace h14 := h14.below bx h14.lt
                      clear bx
                      simp only [List.set_cons_zero, List.set_cons_succ]
                      refine takeH 7 12 35 (.tuple #[.agg (noV 0 0), .agg (alV none 0 0 0 0 0), .int .i64 10]) rfl rfl (by kernel_rfl) (by kernel_rfl) (by kernel_rfl) (fun _ _ _ h => h) (Or.inl ⟨by rfl, fun w _ => by go_simp⟩) hH ?_
                      simp only [List.set_cons_zero, List.set_cons_succ]
                      refine takeH 6 13 48 (.agg (noV 0 0)) rfl rfl (by kernel_rfl) (by kernel_rfl) (by kernel_rfl) (fun _ _ _ h => h) (Or.inl ⟨by rfl, fun w _ => by go_simp⟩) hH ?_
                      simp only [List.set_cons_zero, List.set_cons_succ]
                      refine takeH 5 14 49 (.agg (alV none 0 0 0 0 0)) rfl rfl (by kernel_rfl) (by kernel_rfl) (by kernel_rfl) (fun _ _ _ h => h) (Or.inl ⟨by rfl, fun w _ => by go_simp⟩) hH ?_
                      simp only [List.set_cons_zero, List.set_cons_succ]
                      refine takeH 4 15 50 (.int .i64 10) rfl rfl (by kernel_rfl) (by kernel_rfl) (by kernel_rfl) (fun _ _ _ h => h) (Or.inl ⟨by rfl, fun w _ => by go_simp⟩) hH ?_
                      simp only [List.set_cons_zero, List.set_cons_succ]
                      have hS4 := hH
                      refine wpAnyH_ready (rs := [16]) (by kernel_rfl) (by simp) ?_
                      refine readyAlloc 3 16 13 rfl rfl (by rfl) 35 rfl (noV 0 0) (zeroNo _) (hH.alloc_ _) (fun hH => ?_) ?_
                      · simp only [List.set_cons_zero, List.set_cons_succ]
                        have h13 : Blk (wc.alloc (.cells (noV 0 0) 35)) wc.heap.size 35 (noV 0 0) := Blk.new _ _ _
                        have lp13 : P8 < wc.heap.size := hS4.p.lt
                        have o13 : Value.ownBlock u6 ≠ some wc.heap.size := hS4.m.own_ne
                        replace h14 := h14.alloc (.cells (noV 0 0) 35)
                        clear hS4
                        generalize wc.alloc (.cells (noV 0 0) 35) = w4 at *
                        generalize wc.heap.size = p13 at *
                        have hS3 := hH
                        refine wpAnyH_ready (rs := [18]) (by kernel_rfl) (by simp) ?_
                        refine readyStore 2 18 rfl rfl (by rfl) 35 (.tmp 13) (.tmp 48) rfl p13 rfl (noV 0 0) rfl 35 (noV 0 0) h13 rfl (noV_info _ _) (noV_one _ _) (hH.other h13 (Or.inr o13) lp13 _) (fun hH => ?_) ?_
                        · have hkeep := h13
                          replace h13 := h13.row (noV 0 0)
                          replace h14 := h14.rowFar (hkeep.ne_ h14 (by decide)) (noV 0 0)
                          clear hS3 hkeep
                          generalize w4.setRow p13 (noV 0 0) = w3 at *
                          have hS2 := hH
                          refine wpAnyH_ready (rs := [19]) (by kernel_rfl) (by simp) ?_
                          refine readyStore 1 19 rfl rfl (by rfl) 25 (.tmp 14) (.tmp 49) rfl p14 rfl (alV none 0 0 0 0 0) rfl 25 (alV none 0 0 0 0 0) h14 rfl (alV_info _ _ _ _ _ _) (alV_one _ _ _ _ _ _) (hH.other h14 (Or.inl (by decide)) lp14 _) (fun hH => ?_) ?_
                          · have hkeep := h14
                            replace h14 := h14.row (alV none 0 0 0 0 0)
                            replace h13 := h13.rowFar (hkeep.ne_ h13 (by decide)) (alV none 0 0 0 0 0)
                            clear hS2 hkeep
                            generalize w3.setRow p14 (alV none 0 0 0 0 0) = w2 at *
                            refine takeH 0 20 15 (.int .i64 10) rfl rfl (by kernel_rfl) (by kernel_rfl) (by kernel_rfl) (fun _ _ _ h => h) (Or.inl ⟨by rfl, fun w _ => by go_simp⟩) hH ?_
                            simp only [List.set_cons_zero, List.set_cons_succ]
                            refine wpAnyH_done (by kernel_rfl) ?_ _
                            go_wp2
                            go_meet
                            exact ⟨p13, p14, rfl, rfl, rfl, hH⟩
                          exact AllReadyH.nil
                        exact AllReadyH.nil
                      exact AllReadyH.nil
                    refine readyAlloc 8 16 13 rfl rfl (by rfl) 35 rfl (noV 0 0) (zeroNo _) (hH.alloc_ _) (fun hH => ?_) ?_
                    · simp only [List.set_cons_zero, List.set_cons_succ]
                      have h13 : Blk (w10.alloc (.cells (noV 0 0) 35)) w10.heap.size 35 (noV 0 0) := Blk.new _ _ _
                      have lp13 : P8 < w10.heap.size := hS9.p.lt
                      have o13 : Value.ownBlock u6 ≠ some w10.heap.size := hS9.m.own_ne
                      replace h14 := h14.alloc (.cells (noV 0 0) 35)
                      clear hS9
                      generalize w10.alloc (.cells (noV 0 0) 35) = w9 at *
                      generalize w10.heap.size = p13 at *
                      have hS8 := hH
                      refine wpAnyH_ready (rs := [11]) (by kernel_rfl) (by simp) ?_
                      refine readyCons 7 11 47 rfl rfl (by rfl) (fun K hK => ?_) ?_
                      · refine wp_callF 13 #[.agg (alV (some ⟨g, 0, none⟩) N c M L R), .int .i64 (s : Int)] (by go_simp) (take_state (some ⟨g, 0, none⟩) N c M L R (g + 1) cs s hsN hckq.out (hvq.out.trans hst) _ hH.m.r (by have := hH.m.glt; omega)) ?_
                        rintro e wc ⟨rfl, bx⟩
                        refine ⟨_, rfl, hK.out _ _ (hH.below bx) (fun hH => ?_)⟩
                        clear hK K
                        replace h13 := h13.below bx h13.lt
                        replace h14 := h14.below bx h14.lt
                        clear bx
                        simp only [List.set_cons_zero, List.set_cons_succ]
                        refine takeH 6 12 35 (.tuple #[.agg (noV 0 0), .agg (alV none 0 0 0 0 0), .int .i64 10]) rfl rfl (by kernel_rfl) (by kernel_rfl) (by kernel_rfl) (fun _ _ _ h => h) (Or.inl ⟨by rfl, fun w _ => by go_simp⟩) hH ?_
                        simp only [List.set_cons_zero, List.set_cons_succ]
                        refine takeH 5 13 48 (.agg (noV 0 0)) rfl rfl (by kernel_rfl) (by kernel_rfl) (by kernel_rfl) (fun _ _ _ h => h) (Or.inl ⟨by rfl, fun w _ => by go_simp⟩) hH ?_
                        simp only [List.set_cons_zero, List.set_cons_succ]
                        refine takeH 4 14 49 (.agg (alV none 0 0 0 0 0)) rfl rfl (by kernel_rfl) (by kernel_rfl) (by kernel_rfl) (fun _ _ _ h => h) (Or.inl ⟨by rfl, fun w _ => by go_simp⟩) hH ?_
                        simp only [List.set_cons_zero, List.set_cons_succ]
                        refine takeH 3 15 50 (.int .i64 10) rfl rfl (by kernel_rfl) (by kernel_rfl) (by kernel_rfl) (fun _ _ _ h => h) (Or.inl ⟨by rfl, fun w _ => by go_simp⟩) hH ?_
                        simp only [List.set_cons_zero, List.set_cons_succ]
                        have hS3 := hH
                        refine wpAnyH_ready (rs := [18]) (by kernel_rfl) (by simp) ?_
                        refine readyStore 2 18 rfl rfl (by rfl) 35 (.tmp 13) (.tmp 48) rfl p13 rfl (noV 0 0) rfl 35 (noV 0 0) h13 rfl (noV_info _ _) (noV_one _ _) (hH.other h13 (Or.inr o13) lp13 _) (fun hH => ?_) ?_
                        · have hkeep := h13
                          replace h13 := h13.row (noV 0 0)
                          replace h14 := h14.rowFar (hkeep.ne_ h14 (by decide)) (noV 0 0)
                          clear hS3 hkeep
                          generalize wc.setRow p13 (noV 0 0) = w3 at *
                          have hS2 := hH
                          refine wpAnyH_ready (rs := [19]) (by kernel_rfl) (by simp) ?_
                          refine readyStore 1 19 rfl rfl (by rfl) 25 (.tmp 14) (.tmp 49) rfl p14 rfl (alV none 0 0 0 0 0) rfl 25 (alV none 0 0 0 0 0) h14 rfl (alV_info _ _ _ _ _ _) (alV_one _ _ _ _ _ _) (hH.other h14 (Or.inl (by decide)) lp14 _) (fun hH => ?_) ?_
                          · have hkeep := h14
                            replace h14 := h14.row (alV none 0 0 0 0 0)
                            replace h13 := h13.rowFar (hkeep.ne_ h13 (by decide)) (alV none 0 0 0 0 0)
                            clear hS2 hkeep
                            generalize w3.setRow p14 (alV none 0 0 0 0 0) = w2 at *
                            refine takeH 0 20 15 (.int .i64 10) rfl rfl (by kernel_rfl) (by kernel_rfl) (by kernel_rfl) (fun _ _ _ h => h) (Or.inl ⟨by rfl, fun w _ => by go_simp⟩) hH ?_
                            simp only [List.set_cons_zero, List.set_cons_succ]
                            refine wpAnyH_done (by kernel_rfl) ?_ _
                            go_wp2
                            go_meet
                            exact ⟨p13, p14, rfl, rfl, rfl, hH⟩
                          exact AllReadyH.nil
                        exact AllReadyH.nil
                      exact AllReadyH.nil
                    exact AllReadyH.nil
                  exact AllReadyH.nil
                case rest =>
                  obtain ⟨p13, p14, rfl, rfl, rfl, hO⟩ := hcut
                  have hO2 := Lib.hid hO
                  clear hO hOq
                  go_wp2
                  go_roundw
                  case rel => exact ⟨i + 1, g, c, M, cs, gs, by omega, by go_num, hclq.out, hckq.out, hgivq.out, by omega, hO2.out.m⟩
                  case measure => simp [intOf]; omega
              · have hvlt : v < M := by omega
                obtain ⟨cs', hcs'⟩ : ∃ l, cs.set s (v + 1) = l := ⟨_, rfl⟩
                have hcl' : cs'.length = N := by rw [← hcs', List.length_set]; exact hclq.out
                have hgiv' : Given (gs ++ [(s, v)]) N cs' := by rw [← hcs']; exact hgivq.out.take hclq.out hsN hvq.out
                have hck' : chk cs' M L R = 0 := chk_make hcl' (by have := hcfq.out.1; omega) (fun j hj => by
                  have := hcfq.out.2 j hj
                  rw [← hcs', getD_set _ _ _ _ (by rw [hclq.out]; exact hj)]
                  split <;> omega)
                have hclq' := Lib.hid hcl'
                have hgivq' := Lib.hid hgiv'
                have hckq' := Lib.hid hck'
                have hcsq' := Lib.hid hcs'
                clear hcl' hgiv' hck' hcs'
                go_cut [13, 14, 15] (fun v13 v14 v15 wx => ∃ p13 p14 gT : Nat, v13 = .pointer (some ⟨p13, 0, none⟩) ∧ v14 = .pointer (some ⟨p14, 0, none⟩) ∧ v15 = .int .i64 0 ∧ Blk wx p13 35 (noV s v) ∧ Blk wx p14 25 (alV (some ⟨gT, 0, none⟩) N N M L R) ∧ Blk wx gT 23 (va .u64 cs') ∧ OpMem A5 P8 N L R c M g B sn cs (some ad) sl u6 gs w wx ∧ P8 < p13)
                case first =>
                  refine wp_region_held_drew (S := OpMem A5 P8 N L R c M g B sn cs (some ad) sl u6 gs w) (by kernel_rfl) hOq.out.drew_ (fun hH => ?_)
                  refine takeH 20 0 36 (.agg (alV (some ⟨g, 0, none⟩) N c M L R)) rfl rfl (by kernel_rfl) (by kernel_rfl) (by kernel_rfl) (fun _ _ _ h => h) (yieldsIf_load_blk (by rfl) 25 (.tmp 5) rfl A5 rfl 25 (alV (some ⟨g, 0, none⟩) N c M L R) _ (fun _ h => h.m.a) Try.underlying25 rfl (alV_info _ _ _ _ _ _)) hH ?_
                  simp only [List.set_cons_zero, List.set_cons_succ]
                  refine takeH 19 1 37 (.slice (some ad) sn sc) rfl rfl (by kernel_rfl) (by kernel_rfl) (by kernel_rfl) (fun _ _ _ h => h) (Or.inl ⟨by rfl, fun w _ => by go_simp⟩) hH ?_
                  simp only [List.set_cons_zero, List.set_cons_succ]
                  refine takeH 18 2 38 (.int .i64 (i : Int)) rfl rfl (by kernel_rfl) (by kernel_rfl) (by kernel_rfl) (fun _ _ _ h => h) (Or.inl ⟨by rfl, fun w _ => by go_simp⟩) hH ?_
                  simp only [List.set_cons_zero, List.set_cons_succ]
                  refine takeH 17 3 39 (.pointer (some (ad.add i))) rfl rfl (by kernel_rfl) (by kernel_rfl) (by kernel_rfl) (fun _ _ _ h => h) (Or.inl ⟨by rfl, fun w _ => by go_simp⟩) hH ?_
                  simp only [List.set_cons_zero, List.set_cons_succ]
                  refine takeH 16 4 40 (.int .u8 (x : Int)) rfl rfl (by kernel_rfl) (by kernel_rfl) (by kernel_rfl) (fun _ _ _ h => h) (Or.inl ⟨by rfl, fun w h => by have hc := h.m.step hlt hxq.out; go_simp⟩) hH ?_
                  simp only [List.set_cons_zero, List.set_cons_succ]
                  refine takeH 15 5 41 (.int .u8 (u : Int)) rfl rfl (by kernel_rfl) (by kernel_rfl) (by kernel_rfl) (fun _ _ _ h => h) (Or.inl ⟨by rfl, fun w _ => by go_simp⟩) hH ?_
                  simp only [List.set_cons_zero, List.set_cons_succ]
                  refine takeH 14 6 42 (.int .i64 (u : Int)) rfl rfl (by kernel_rfl) (by kernel_rfl) (by kernel_rfl) (fun _ _ _ h => h) (Or.inl ⟨by rfl, fun w _ => by go_simp⟩) hH ?_
                  simp only [List.set_cons_zero, List.set_cons_succ]
                  refine takeH 13 7 43 (.pointer (some ⟨A5, 0, none⟩)) rfl rfl (by kernel_rfl) (by kernel_rfl) (by kernel_rfl) (fun _ _ _ h => h) (Or.inl ⟨by rfl, fun w _ => by go_simp⟩) hH ?_
                  simp only [List.set_cons_zero, List.set_cons_succ]
                  refine takeH 12 8 44 (.slice (some ⟨g, 0, none⟩) N c) rfl rfl (by kernel_rfl) (by kernel_rfl) (by kernel_rfl) (fun _ _ _ h => h) (Or.inl ⟨by rfl, fun w h => by have hc := (alV_cells h.m.a).1; go_simp⟩) hH ?_
                  simp only [List.set_cons_zero, List.set_cons_succ]
                  refine takeH 11 9 45 (.int .i64 (N : Int)) rfl rfl (by kernel_rfl) (by kernel_rfl) (by kernel_rfl) (fun _ _ _ h => h) (Or.inl ⟨by rfl, fun w _ => by go_simp⟩) hH ?_
                  simp only [List.set_cons_zero, List.set_cons_succ]
                  refine takeH 10 10 46 (.int .i64 (s : Int)) rfl rfl (by kernel_rfl) (by kernel_rfl) (by kernel_rfl) (fun _ _ _ h => h) (Or.inl ⟨by rfl, fun w _ => by go_simp⟩) hH ?_
                  simp only [List.set_cons_zero, List.set_cons_succ]
                  have hS10 := hH
                  refine wpAnyH_ready (rs := [11, 16, 17]) (by kernel_rfl) (by simp) ?_
                  refine readyCons 9 11 47 rfl rfl (by rfl) (fun K hK => ?_) ?_
                  · refine wp_callF 13 #[.agg (alV (some ⟨g, 0, none⟩) N c M L R), .int .i64 (s : Int)] (by go_simp) (take_to (some ⟨g, 0, none⟩) N c M L R (g + 1) v cs cs' s hsN hlen.2 hckq.out hvq.out hvlt hM64 hcsq'.out _ hH.m.r (by have := hH.m.glt; omega)) ?_
                    rintro e wc ⟨gT, rfl, hT, hgT, bx⟩
                    refine ⟨_, rfl, hK.out _ _ (hH.below bx) (fun hH => ?_)⟩
                    clear hK K
                    clear bx
                    simp only [List.set_cons_zero, List.set_cons_succ]
                    refine takeH 8 12 35 (.tuple #[.agg (noV s v), .agg (alV (some ⟨gT, 0, none⟩) N N M L R), .int .i64 0]) rfl rfl (by kernel_rfl) (by kernel_rfl) (by kernel_rfl) (fun _ _ _ h => h) (Or.inl ⟨by rfl, fun w _ => by go_simp⟩) hH ?_
                    simp only [List.set_cons_zero, List.set_cons_succ]
                    refine takeH 7 13 48 (.agg (noV s v)) rfl rfl (by kernel_rfl) (by kernel_rfl) (by kernel_rfl) (fun _ _ _ h => h) (Or.inl ⟨by rfl, fun w _ => by go_simp⟩) hH ?_
                    simp only [List.set_cons_zero, List.set_cons_succ]
                    refine takeH 6 14 49 (.agg (alV (some ⟨gT, 0, none⟩) N N M L R)) rfl rfl (by kernel_rfl) (by kernel_rfl) (by kernel_rfl) (fun _ _ _ h => h) (Or.inl ⟨by rfl, fun w _ => by go_simp⟩) hH ?_
                    simp only [List.set_cons_zero, List.set_cons_succ]
                    refine takeH 5 15 50 (.int .i64 0) rfl rfl (by kernel_rfl) (by kernel_rfl) (by kernel_rfl) (fun _ _ _ h => h) (Or.inl ⟨by rfl, fun w _ => by go_simp⟩) hH ?_
                    simp only [List.set_cons_zero, List.set_cons_succ]
                    have hS5 := hH
                    refine wpAnyH_ready (rs := [16, 17]) (by kernel_rfl) (by simp) ?_
                    refine readyAlloc 4 16 13 rfl rfl (by rfl) 35 rfl (noV 0 0) (zeroNo _) (hH.alloc_ _) (fun hH => ?_) ?_
                    · simp only [List.set_cons_zero, List.set_cons_succ]
                      have h13 : Blk (wc.alloc (.cells (noV 0 0) 35)) wc.heap.size 35 (noV 0 0) := Blk.new _ _ _
                      have lp13 : P8 < wc.heap.size := hS5.p.lt
                      have o13 : Value.ownBlock u6 ≠ some wc.heap.size := hS5.m.own_ne
                      replace hT := hT.alloc (.cells (noV 0 0) 35)
                      clear hS5
                      generalize wc.alloc (.cells (noV 0 0) 35) = w5 at *
                      generalize wc.heap.size = p13 at *
                      have hS4 := hH
                      refine wpAnyH_ready (rs := [17]) (by kernel_rfl) (by simp) ?_
                      refine readyAlloc 3 17 14 rfl rfl (by rfl) 25 rfl (alV none 0 0 0 0 0) (zeroAl _) (hH.alloc_ _) (fun hH => ?_) ?_
                      · simp only [List.set_cons_zero, List.set_cons_succ]
                        have h14 : Blk (w5.alloc (.cells (alV none 0 0 0 0 0) 25)) w5.heap.size 25 (alV none 0 0 0 0 0) := Blk.new _ _ _
                        have lp14 : P8 < w5.heap.size := hS4.p.lt
                        replace h13 := h13.alloc (.cells (alV none 0 0 0 0 0) 25)
                        replace hT := hT.alloc (.cells (alV none 0 0 0 0 0) 25)
                        clear hS4
                        generalize w5.alloc (.cells (alV none 0 0 0 0 0) 25) = w4 at *
                        generalize w5.heap.size = p14 at *
                        have hS3 := hH
                        refine wpAnyH_ready (rs := [18]) (by kernel_rfl) (by simp) ?_
                        refine readyStore 2 18 rfl rfl (by rfl) 35 (.tmp 13) (.tmp 48) rfl p13 rfl (noV s v) rfl 35 (noV 0 0) h13 rfl (noV_info _ _) (noV_one _ _) (hH.other h13 (Or.inr o13) lp13 _) (fun hH => ?_) ?_
                        · have hkeep := h13
                          replace h13 := h13.row (noV s v)
                          replace h14 := h14.rowFar (hkeep.ne_ h14 (by decide)) (noV s v)
                          replace hT := hT.rowFar (hkeep.ne_ hT (by decide)) (noV s v)
                          clear hS3 hkeep
                          generalize w4.setRow p13 (noV s v) = w3 at *
                          have hS2 := hH
                          refine wpAnyH_ready (rs := [19]) (by kernel_rfl) (by simp) ?_
                          refine readyStore 1 19 rfl rfl (by rfl) 25 (.tmp 14) (.tmp 49) rfl p14 rfl (alV (some ⟨gT, 0, none⟩) N N M L R) rfl 25 (alV none 0 0 0 0 0) h14 rfl (alV_info _ _ _ _ _ _) (alV_one _ _ _ _ _ _) (hH.other h14 (Or.inl (by decide)) lp14 _) (fun hH => ?_) ?_
                          · have hkeep := h14
                            replace h14 := h14.row (alV (some ⟨gT, 0, none⟩) N N M L R)
                            replace h13 := h13.rowFar (hkeep.ne_ h13 (by decide)) (alV (some ⟨gT, 0, none⟩) N N M L R)
                            replace hT := hT.rowFar (hkeep.ne_ hT (by decide)) (alV (some ⟨gT, 0, none⟩) N N M L R)
                            clear hS2 hkeep
                            generalize w3.setRow p14 (alV (some ⟨gT, 0, none⟩) N N M L R) = w2 at *
                            refine takeH 0 20 15 (.int .i64 0) rfl rfl (by kernel_rfl) (by kernel_rfl) (by kernel_rfl) (fun _ _ _ h => h) (Or.inl ⟨by rfl, fun w _ => by go_simp⟩) hH ?_
                            simp only [List.set_cons_zero, List.set_cons_succ]
                            refine wpAnyH_done (by kernel_rfl) ?_ _
                            go_wp2
                            go_meet
                            exact ⟨p13, p14, gT, rfl, rfl, rfl, h13, h14, hT, hH, lp13⟩
                          exact AllReadyH.nil
                        exact AllReadyH.nil
                      exact AllReadyH.nil
                    refine readyAlloc 4 17 14 rfl rfl (by rfl) 25 rfl (alV none 0 0 0 0 0) (zeroAl _) (hH.alloc_ _) (fun hH => ?_) ?_
                    · simp only [List.set_cons_zero, List.set_cons_succ]
                      have h14 : Blk (wc.alloc (.cells (alV none 0 0 0 0 0) 25)) wc.heap.size 25 (alV none 0 0 0 0 0) := Blk.new _ _ _
                      have lp14 : P8 < wc.heap.size := hS5.p.lt
                      replace hT := hT.alloc (.cells (alV none 0 0 0 0 0) 25)
                      clear hS5
                      generalize wc.alloc (.cells (alV none 0 0 0 0 0) 25) = w5 at *
                      generalize wc.heap.size = p14 at *
                      have hS4 := hH
                      refine wpAnyH_ready (rs := [16]) (by kernel_rfl) (by simp) ?_
                      refine readyAlloc 3 16 13 rfl rfl (by rfl) 35 rfl (noV 0 0) (zeroNo _) (hH.alloc_ _) (fun hH => ?_) ?_
                      · simp only [List.set_cons_zero, List.set_cons_succ]
                        have h13 : Blk (w5.alloc (.cells (noV 0 0) 35)) w5.heap.size 35 (noV 0 0) := Blk.new _ _ _
                        have lp13 : P8 < w5.heap.size := hS4.p.lt
                        have o13 : Value.ownBlock u6 ≠ some w5.heap.size := hS4.m.own_ne
                        replace h14 := h14.alloc (.cells (noV 0 0) 35)
                        replace hT := hT.alloc (.cells (noV 0 0) 35)
                        clear hS4
                        generalize w5.alloc (.cells (noV 0 0) 35) = w4 at *
                        generalize w5.heap.size = p13 at *
                        have hS3 := hH
                        refine wpAnyH_ready (rs := [18]) (by kernel_rfl) (by simp) ?_
                        refine readyStore 2 18 rfl rfl (by rfl) 35 (.tmp 13) (.tmp 48) rfl p13 rfl (noV s v) rfl 35 (noV 0 0) h13 rfl (noV_info _ _) (noV_one _ _) (hH.other h13 (Or.inr o13) lp13 _) (fun hH => ?_) ?_
                        · have hkeep := h13
                          replace h13 := h13.row (noV s v)
                          replace h14 := h14.rowFar (hkeep.ne_ h14 (by decide)) (noV s v)
                          replace hT := hT.rowFar (hkeep.ne_ hT (by decide)) (noV s v)
                          clear hS3 hkeep
                          generalize w4.setRow p13 (noV s v) = w3 at *
                          have hS2 := hH
                          refine wpAnyH_ready (rs := [19]) (by kernel_rfl) (by simp) ?_
                          refine readyStore 1 19 rfl rfl (by rfl) 25 (.tmp 14) (.tmp 49) rfl p14 rfl (alV (some ⟨gT, 0, none⟩) N N M L R) rfl 25 (alV none 0 0 0 0 0) h14 rfl (alV_info _ _ _ _ _ _) (alV_one _ _ _ _ _ _) (hH.other h14 (Or.inl (by decide)) lp14 _) (fun hH => ?_) ?_
                          · have hkeep := h14
                            replace h14 := h14.row (alV (some ⟨gT, 0, none⟩) N N M L R)
                            replace h13 := h13.rowFar (hkeep.ne_ h13 (by decide)) (alV (some ⟨gT, 0, none⟩) N N M L R)
                            replace hT := hT.rowFar (hkeep.ne_ hT (by decide)) (alV (some ⟨gT, 0, none⟩) N N M L R)
                            clear hS2 hkeep
                            generalize w3.setRow p14 (alV (some ⟨gT, 0, none⟩) N N M L R) = w2 at *
                            refine takeH 0 20 15 (.int .i64 0) rfl rfl (by kernel_rfl) (by kernel_rfl) (by kernel_rfl) (fun _ _ _ h => h) (Or.inl ⟨by rfl, fun w _ => by go_simp⟩) hH ?_
                            simp only [List.set_cons_zero, List.set_cons_succ]
                            refine wpAnyH_done (by kernel_rfl) ?_ _
                            go_wp2
                            go_meet
                            exact ⟨p13, p14, gT, rfl, rfl, rfl, h13, h14, hT, hH, lp13⟩
                          exact AllReadyH.nil
                        exact AllReadyH.nil
                      exact AllReadyH.nil
                    exact AllReadyH.nil
                  refine readyAlloc 9 16 13 rfl rfl (by rfl) 35 rfl (noV 0 0) (zeroNo _) (hH.alloc_ _) (fun hH => ?_) ?_
                  · simp only [List.set_cons_zero, List.set_cons_succ]
                    have h13 : Blk (w8.drew.alloc (.cells (noV 0 0) 35)) w8.drew.heap.size 35 (noV 0 0) := Blk.new _ _ _
                    have lp13 : P8 < w8.drew.heap.size := hS10.p.lt
                    have o13 : Value.ownBlock u6 ≠ some w8.drew.heap.size := hS10.m.own_ne
                    clear hS10
                    generalize w8.drew.alloc (.cells (noV 0 0) 35) = w10 at *
                    generalize w8.drew.heap.size = p13 at *
                    have hS9 := hH
                    refine wpAnyH_ready (rs := [11, 17]) (by kernel_rfl) (by simp) ?_
                    refine readyCons 8 11 47 rfl rfl (by rfl) (fun K hK => ?_) ?_
                    · refine wp_callF 13 #[.agg (alV (some ⟨g, 0, none⟩) N c M L R), .int .i64 (s : Int)] (by go_simp) (take_to (some ⟨g, 0, none⟩) N c M L R (g + 1) v cs cs' s hsN hlen.2 hckq.out hvq.out hvlt hM64 hcsq'.out _ hH.m.r (by have := hH.m.glt; omega)) ?_
                      rintro e wc ⟨gT, rfl, hT, hgT, bx⟩
                      refine ⟨_, rfl, hK.out _ _ (hH.below bx) (fun hH => ?_)⟩
                      clear hK K
                      replace h13 := h13.below bx h13.lt
                      clear bx
                      simp only [List.set_cons_zero, List.set_cons_succ]
                      refine takeH 7 12 35 (.tuple #[.agg (noV s v), .agg (alV (some ⟨gT, 0, none⟩) N N M L R), .int .i64 0]) rfl rfl (by kernel_rfl) (by kernel_rfl) (by kernel_rfl) (fun _ _ _ h => h) (Or.inl ⟨by rfl, fun w _ => by go_simp⟩) hH ?_
                      simp only [List.set_cons_zero, List.set_cons_succ]
                      refine takeH 6 13 48 (.agg (noV s v)) rfl rfl (by kernel_rfl) (by kernel_rfl) (by kernel_rfl) (fun _ _ _ h => h) (Or.inl ⟨by rfl, fun w _ => by go_simp⟩) hH ?_
                      simp only [List.set_cons_zero, List.set_cons_succ]
                      refine takeH 5 14 49 (.agg (alV (some ⟨gT, 0, none⟩) N N M L R)) rfl rfl (by kernel_rfl) (by kernel_rfl) (by kernel_rfl) (fun _ _ _ h => h) (Or.inl ⟨by rfl, fun w _ => by go_simp⟩) hH ?_
                      simp only [List.set_cons_zero, List.set_cons_succ]
                      refine takeH 4 15 50 (.int .i64 0) rfl rfl (by kernel_rfl) (by kernel_rfl) (by kernel_rfl) (fun _ _ _ h => h) (Or.inl ⟨by rfl, fun w _ => by go_simp⟩) hH ?_
                      simp only [List.set_cons_zero, List.set_cons_succ]
                      have hS4 := hH
                      refine wpAnyH_ready (rs := [17]) (by kernel_rfl) (by simp) ?_
                      refine readyAlloc 3 17 14 rfl rfl (by rfl) 25 rfl (alV none 0 0 0 0 0) (zeroAl _) (hH.alloc_ _) (fun hH => ?_) ?_
                      · simp only [List.set_cons_zero, List.set_cons_succ]
                        have h14 : Blk (wc.alloc (.cells (alV none 0 0 0 0 0) 25)) wc.heap.size 25 (alV none 0 0 0 0 0) := Blk.new _ _ _
                        have lp14 : P8 < wc.heap.size := hS4.p.lt
                        replace h13 := h13.alloc (.cells (alV none 0 0 0 0 0) 25)
                        replace hT := hT.alloc (.cells (alV none 0 0 0 0 0) 25)
                        clear hS4
                        generalize wc.alloc (.cells (alV none 0 0 0 0 0) 25) = w4 at *
                        generalize wc.heap.size = p14 at *
                        have hS3 := hH
                        refine wpAnyH_ready (rs := [18]) (by kernel_rfl) (by simp) ?_
                        refine readyStore 2 18 rfl rfl (by rfl) 35 (.tmp 13) (.tmp 48) rfl p13 rfl (noV s v) rfl 35 (noV 0 0) h13 rfl (noV_info _ _) (noV_one _ _) (hH.other h13 (Or.inr o13) lp13 _) (fun hH => ?_) ?_
                        · have hkeep := h13
                          replace h13 := h13.row (noV s v)
                          replace h14 := h14.rowFar (hkeep.ne_ h14 (by decide)) (noV s v)
                          replace hT := hT.rowFar (hkeep.ne_ hT (by decide)) (noV s v)
                          clear hS3 hkeep
                          generalize w4.setRow p13 (noV s v) = w3 at *
                          have hS2 := hH
                          refine wpAnyH_ready (rs := [19]) (by kernel_rfl) (by simp) ?_
                          refine readyStore 1 19 rfl rfl (by rfl) 25 (.tmp 14) (.tmp 49) rfl p14 rfl (alV (some ⟨gT, 0, none⟩) N N M L R) rfl 25 (alV none 0 0 0 0 0) h14 rfl (alV_info _ _ _ _ _ _) (alV_one _ _ _ _ _ _) (hH.other h14 (Or.inl (by decide)) lp14 _) (fun hH => ?_) ?_
                          · have hkeep := h14
                            replace h14 := h14.row (alV (some ⟨gT, 0, none⟩) N N M L R)
                            replace h13 := h13.rowFar (hkeep.ne_ h13 (by decide)) (alV (some ⟨gT, 0, none⟩) N N M L R)
                            replace hT := hT.rowFar (hkeep.ne_ hT (by decide)) (alV (some ⟨gT, 0, none⟩) N N M L R)
                            clear hS2 hkeep
                            generalize w3.setRow p14 (alV (some ⟨gT, 0, none⟩) N N M L R) = w2 at *
                            refine takeH 0 20 15 (.int .i64 0) rfl rfl (by kernel_rfl) (by kernel_rfl) (by kernel_rfl) (fun _ _ _ h => h) (Or.inl ⟨by rfl, fun w _ => by go_simp⟩) hH ?_
                            simp only [List.set_cons_zero, List.set_cons_succ]
                            refine wpAnyH_done (by kernel_rfl) ?_ _
                            go_wp2
                            go_meet
                            exact ⟨p13, p14, gT, rfl, rfl, rfl, h13, h14, hT, hH, lp13⟩
                          exact AllReadyH.nil
                        exact AllReadyH.nil
                      exact AllReadyH.nil
                    refine readyAlloc 8 17 14 rfl rfl (by rfl) 25 rfl (alV none 0 0 0 0 0) (zeroAl _) (hH.alloc_ _) (fun hH => ?_) ?_
                    · simp only [List.set_cons_zero, List.set_cons_succ]
                      have h14 : Blk (w10.alloc (.cells (alV none 0 0 0 0 0) 25)) w10.heap.size 25 (alV none 0 0 0 0 0) := Blk.new _ _ _
                      have lp14 : P8 < w10.heap.size := hS9.p.lt
                      replace h13 := h13.alloc (.cells (alV none 0 0 0 0 0) 25)
                      clear hS9
                      generalize w10.alloc (.cells (alV none 0 0 0 0 0) 25) = w9 at *
                      generalize w10.heap.size = p14 at *
                      have hS8 := hH
                      refine wpAnyH_ready (rs := [11]) (by kernel_rfl) (by simp) ?_
                      refine readyCons 7 11 47 rfl rfl (by rfl) (fun K hK => ?_) ?_
                      · refine wp_callF 13 #[.agg (alV (some ⟨g, 0, none⟩) N c M L R), .int .i64 (s : Int)] (by go_simp) (take_to (some ⟨g, 0, none⟩) N c M L R (g + 1) v cs cs' s hsN hlen.2 hckq.out hvq.out hvlt hM64 hcsq'.out _ hH.m.r (by have := hH.m.glt; omega)) ?_
                        rintro e wc ⟨gT, rfl, hT, hgT, bx⟩
                        refine ⟨_, rfl, hK.out _ _ (hH.below bx) (fun hH => ?_)⟩
                        clear hK K
                        replace h13 := h13.below bx h13.lt
                        replace h14 := h14.below bx h14.lt
                        clear bx
                        simp only [List.set_cons_zero, List.set_cons_succ]
                        refine takeH 6 12 35 (.tuple #[.agg (noV s v), .agg (alV (some ⟨gT, 0, none⟩) N N M L R), .int .i64 0]) rfl rfl (by kernel_rfl) (by kernel_rfl) (by kernel_rfl) (fun _ _ _ h => h) (Or.inl ⟨by rfl, fun w _ => by go_simp⟩) hH ?_
                        simp only [List.set_cons_zero, List.set_cons_succ]
                        refine takeH 5 13 48 (.agg (noV s v)) rfl rfl (by kernel_rfl) (by kernel_rfl) (by kernel_rfl) (fun _ _ _ h => h) (Or.inl ⟨by rfl, fun w _ => by go_simp⟩) hH ?_
                        simp only [List.set_cons_zero, List.set_cons_succ]
                        refine takeH 4 14 49 (.agg (alV (some ⟨gT, 0, none⟩) N N M L R)) rfl rfl (by kernel_rfl) (by kernel_rfl) (by kernel_rfl) (fun _ _ _ h => h) (Or.inl ⟨by rfl, fun w _ => by go_simp⟩) hH ?_
                        simp only [List.set_cons_zero, List.set_cons_succ]
                        refine takeH 3 15 50 (.int .i64 0) rfl rfl (by kernel_rfl) (by kernel_rfl) (by kernel_rfl) (fun _ _ _ h => h) (Or.inl ⟨by rfl, fun w _ => by go_simp⟩) hH ?_
                        simp only [List.set_cons_zero, List.set_cons_succ]
                        have hS3 := hH
                        refine wpAnyH_ready (rs := [18]) (by kernel_rfl) (by simp) ?_
                        refine readyStore 2 18 rfl rfl (by rfl) 35 (.tmp 13) (.tmp 48) rfl p13 rfl (noV s v) rfl 35 (noV 0 0) h13 rfl (noV_info _ _) (noV_one _ _) (hH.other h13 (Or.inr o13) lp13 _) (fun hH => ?_) ?_
                        · have hkeep := h13
                          replace h13 := h13.row (noV s v)
                          replace h14 := h14.rowFar (hkeep.ne_ h14 (by decide)) (noV s v)
                          replace hT := hT.rowFar (hkeep.ne_ hT (by decide)) (noV s v)
                          clear hS3 hkeep
                          generalize wc.setRow p13 (noV s v) = w3 at *
                          have hS2 := hH
                          refine wpAnyH_ready (rs := [19]) (by kernel_rfl) (by simp) ?_
                          refine readyStore 1 19 rfl rfl (by rfl) 25 (.tmp 14) (.tmp 49) rfl p14 rfl (alV (some ⟨gT, 0, none⟩) N N M L R) rfl 25 (alV none 0 0 0 0 0) h14 rfl (alV_info _ _ _ _ _ _) (alV_one _ _ _ _ _ _) (hH.other h14 (Or.inl (by decide)) lp14 _) (fun hH => ?_) ?_
                          · have hkeep := h14
                            replace h14 := h14.row (alV (some ⟨gT, 0, none⟩) N N M L R)
                            replace h13 := h13.rowFar (hkeep.ne_ h13 (by decide)) (alV (some ⟨gT, 0, none⟩) N N M L R)
                            replace hT := hT.rowFar (hkeep.ne_ hT (by decide)) (alV (some ⟨gT, 0, none⟩) N N M L R)
                            clear hS2 hkeep
                            generalize w3.setRow p14 (alV (some ⟨gT, 0, none⟩) N N M L R) = w2 at *
                            refine takeH 0 20 15 (.int .i64 0) rfl rfl (by kernel_rfl) (by kernel_rfl) (by kernel_rfl) (fun _ _ _ h => h) (Or.inl ⟨by rfl, fun w _ => by go_simp⟩) hH ?_
                            simp only [List.set_cons_zero, List.set_cons_succ]
                            refine wpAnyH_done (by kernel_rfl) ?_ _
                            go_wp2
                            go_meet
                            exact ⟨p13, p14, gT, rfl, rfl, rfl, h13, h14, hT, hH, lp13⟩
                          exact AllReadyH.nil
                        exact AllReadyH.nil
                      exact AllReadyH.nil
                    exact AllReadyH.nil
                  refine readyAlloc 9 17 14 rfl rfl (by rfl) 25 rfl (alV none 0 0 0 0 0) (zeroAl _) (hH.alloc_ _) (fun hH => ?_) ?_
                  · simp only [List.set_cons_zero, List.set_cons_succ]
                    have h14 : Blk (w8.drew.alloc (.cells (alV none 0 0 0 0 0) 25)) w8.drew.heap.size 25 (alV none 0 0 0 0 0) := Blk.new _ _ _
                    have lp14 : P8 < w8.drew.heap.size := hS10.p.lt
                    clear hS10
                    generalize w8.drew.alloc (.cells (alV none 0 0 0 0 0) 25) = w10 at *
                    generalize w8.drew.heap.size = p14 at *
                    have hS9 := hH
                    refine wpAnyH_ready (rs := [11, 16]) (by kernel_rfl) (by simp) ?_
                    refine readyCons 8 11 47 rfl rfl (by rfl) (fun K hK => ?_) ?_
                    · refine wp_callF 13 #[.agg (alV (some ⟨g, 0, none⟩) N c M L R), .int .i64 (s : Int)] (by go_simp) (take_to (some ⟨g, 0, none⟩) N c M L R (g + 1) v cs cs' s hsN hlen.2 hckq.out hvq.out hvlt hM64 hcsq'.out _ hH.m.r (by have := hH.m.glt; omega)) ?_
                      rintro e wc ⟨gT, rfl, hT, hgT, bx⟩
                      refine ⟨_, rfl, hK.out _ _ (hH.below bx) (fun hH => ?_)⟩
                      clear hK K
                      replace h14 := h14.below bx h14.lt
                      clear bx
                      simp only [List.set_cons_zero, List.set_cons_succ]
                      refine takeH 7 12 35 (.tuple #[.agg (noV s v), .agg (alV (some ⟨gT, 0, none⟩) N N M L R), .int .i64 0]) rfl rfl (by kernel_rfl) (by kernel_rfl) (by kernel_rfl) (fun _ _ _ h => h) (Or.inl ⟨by rfl, fun w _ => by go_simp⟩) hH ?_
                      simp only [List.set_cons_zero, List.set_cons_succ]
                      refine takeH 6 13 48 (.agg (noV s v)) rfl rfl (by kernel_rfl) (by kernel_rfl) (by kernel_rfl) (fun _ _ _ h => h) (Or.inl ⟨by rfl, fun w _ => by go_simp⟩) hH ?_
                      simp only [List.set_cons_zero, List.set_cons_succ]
                      refine takeH 5 14 49 (.agg (alV (some ⟨gT, 0, none⟩) N N M L R)) rfl rfl (by kernel_rfl) (by kernel_rfl) (by kernel_rfl) (fun _ _ _ h => h) (Or.inl ⟨by rfl, fun w _ => by go_simp⟩) hH ?_
                      simp only [List.set_cons_zero, List.set_cons_succ]
                      refine takeH 4 15 50 (.int .i64 0) rfl rfl (by kernel_rfl) (by kernel_rfl) (by kernel_rfl) (fun _ _ _ h => h) (Or.inl ⟨by rfl, fun w _ => by go_simp⟩) hH ?_
                      simp only [List.set_cons_zero, List.set_cons_succ]
                      have hS4 := hH
                      refine wpAnyH_ready (rs := [16]) (by kernel_rfl) (by simp) ?_
                      refine readyAlloc 3 16 13 rfl rfl (by rfl) 35 rfl (noV 0 0) (zeroNo _) (hH.alloc_ _) (fun hH => ?_) ?_
                      · simp only [List.set_cons_zero, List.set_cons_succ]
                        have h13 : Blk (wc.alloc (.cells (noV 0 0) 35)) wc.heap.size 35 (noV 0 0) := Blk.new _ _ _
                        have lp13 : P8 < wc.heap.size := hS4.p.lt
                        have o13 : Value.ownBlock u6 ≠ some wc.heap.size := hS4.m.own_ne
                        replace h14 := h14.alloc (.cells (noV 0 0) 35)
                        replace hT := hT.alloc (.cells (noV 0 0) 35)
                        clear hS4
                        generalize wc.alloc (.cells (noV 0 0) 35) = w4 at *
                        generalize wc.heap.size = p13 at *
                        have hS3 := hH
                        refine wpAnyH_ready (rs := [18]) (by kernel_rfl) (by simp) ?_
                        refine readyStore 2 18 rfl rfl (by rfl) 35 (.tmp 13) (.tmp 48) rfl p13 rfl (noV s v) rfl 35 (noV 0 0) h13 rfl (noV_info _ _) (noV_one _ _) (hH.other h13 (Or.inr o13) lp13 _) (fun hH => ?_) ?_
                        · have hkeep := h13
                          replace h13 := h13.row (noV s v)
                          replace h14 := h14.rowFar (hkeep.ne_ h14 (by decide)) (noV s v)
                          replace hT := hT.rowFar (hkeep.ne_ hT (by decide)) (noV s v)
                          clear hS3 hkeep
                          generalize w4.setRow p13 (noV s v) = w3 at *
                          have hS2 := hH
                          refine wpAnyH_ready (rs := [19]) (by kernel_rfl) (by simp) ?_
                          refine readyStore 1 19 rfl rfl (by rfl) 25 (.tmp 14) (.tmp 49) rfl p14 rfl (alV (some ⟨gT, 0, none⟩) N N M L R) rfl 25 (alV none 0 0 0 0 0) h14 rfl (alV_info _ _ _ _ _ _) (alV_one _ _ _ _ _ _) (hH.other h14 (Or.inl (by decide)) lp14 _) (fun hH => ?_) ?_
                          · have hkeep := h14
                            replace h14 := h14.row (alV (some ⟨gT, 0, none⟩) N N M L R)
                            replace h13 := h13.rowFar (hkeep.ne_ h13 (by decide)) (alV (some ⟨gT, 0, none⟩) N N M L R)
                            replace hT := hT.rowFar (hkeep.ne_ hT (by decide)) (alV (some ⟨gT, 0, none⟩) N N M L R)
                            clear hS2 hkeep
                            generalize w3.setRow p14 (alV (some ⟨gT, 0, none⟩) N N M L R) = w2 at *
                            refine takeH 0 20 15 (.int .i64 0) rfl rfl (by kernel_rfl) (by kernel_rfl) (by kernel_rfl) (fun _ _ _ h => h) (Or.inl ⟨by rfl, fun w _ => by go_simp⟩) hH ?_
                            simp only [List.set_cons_zero, List.set_cons_succ]
                            refine wpAnyH_done (by kernel_rfl) ?_ _
                            go_wp2
                            go_meet
                            exact ⟨p13, p14, gT, rfl, rfl, rfl, h13, h14, hT, hH, lp13⟩
                          exact AllReadyH.nil
                        exact AllReadyH.nil
                      exact AllReadyH.nil
                    refine readyAlloc 8 16 13 rfl rfl (by rfl) 35 rfl (noV 0 0) (zeroNo _) (hH.alloc_ _) (fun hH => ?_) ?_
                    · simp only [List.set_cons_zero, List.set_cons_succ]
                      have h13 : Blk (w10.alloc (.cells (noV 0 0) 35)) w10.heap.size 35 (noV 0 0) := Blk.new _ _ _
                      have lp13 : P8 < w10.heap.size := hS9.p.lt
                      have o13 : Value.ownBlock u6 ≠ some w10.heap.size := hS9.m.own_ne
                      replace h14 := h14.alloc (.cells (noV 0 0) 35)
                      clear hS9
                      generalize w10.alloc (.cells (noV 0 0) 35) = w9 at *
                      generalize w10.heap.size = p13 at *
                      have hS8 := hH
                      refine wpAnyH_ready (rs := [11]) (by kernel_rfl) (by simp) ?_
                      refine readyCons 7 11 47 rfl rfl (by rfl) (fun K hK => ?_) ?_
                      · refine wp_callF 13 #[.agg (alV (some ⟨g, 0, none⟩) N c M L R), .int .i64 (s : Int)] (by go_simp) (take_to (some ⟨g, 0, none⟩) N c M L R (g + 1) v cs cs' s hsN hlen.2 hckq.out hvq.out hvlt hM64 hcsq'.out _ hH.m.r (by have := hH.m.glt; omega)) ?_
                        rintro e wc ⟨gT, rfl, hT, hgT, bx⟩
                        refine ⟨_, rfl, hK.out _ _ (hH.below bx) (fun hH => ?_)⟩
                        clear hK K
                        replace h13 := h13.below bx h13.lt
                        replace h14 := h14.below bx h14.lt
                        clear bx
                        simp only [List.set_cons_zero, List.set_cons_succ]
                        refine takeH 6 12 35 (.tuple #[.agg (noV s v), .agg (alV (some ⟨gT, 0, none⟩) N N M L R), .int .i64 0]) rfl rfl (by kernel_rfl) (by kernel_rfl) (by kernel_rfl) (fun _ _ _ h => h) (Or.inl ⟨by rfl, fun w _ => by go_simp⟩) hH ?_
                        simp only [List.set_cons_zero, List.set_cons_succ]
                        refine takeH 5 13 48 (.agg (noV s v)) rfl rfl (by kernel_rfl) (by kernel_rfl) (by kernel_rfl) (fun _ _ _ h => h) (Or.inl ⟨by rfl, fun w _ => by go_simp⟩) hH ?_
                        simp only [List.set_cons_zero, List.set_cons_succ]
                        refine takeH 4 14 49 (.agg (alV (some ⟨gT, 0, none⟩) N N M L R)) rfl rfl (by kernel_rfl) (by kernel_rfl) (by kernel_rfl) (fun _ _ _ h => h) (Or.inl ⟨by rfl, fun w _ => by go_simp⟩) hH ?_
                        simp only [List.set_cons_zero, List.set_cons_succ]
                        refine takeH 3 15 50 (.int .i64 0) rfl rfl (by kernel_rfl) (by kernel_rfl) (by kernel_rfl) (fun _ _ _ h => h) (Or.inl ⟨by rfl, fun w _ => by go_simp⟩) hH ?_
                        simp only [List.set_cons_zero, List.set_cons_succ]
                        have hS3 := hH
                        refine wpAnyH_ready (rs := [18]) (by kernel_rfl) (by simp) ?_
                        refine readyStore 2 18 rfl rfl (by rfl) 35 (.tmp 13) (.tmp 48) rfl p13 rfl (noV s v) rfl 35 (noV 0 0) h13 rfl (noV_info _ _) (noV_one _ _) (hH.other h13 (Or.inr o13) lp13 _) (fun hH => ?_) ?_
                        · have hkeep := h13
                          replace h13 := h13.row (noV s v)
                          replace h14 := h14.rowFar (hkeep.ne_ h14 (by decide)) (noV s v)
                          replace hT := hT.rowFar (hkeep.ne_ hT (by decide)) (noV s v)
                          clear hS3 hkeep
                          generalize wc.setRow p13 (noV s v) = w3 at *
                          have hS2 := hH
                          refine wpAnyH_ready (rs := [19]) (by kernel_rfl) (by simp) ?_
                          refine readyStore 1 19 rfl rfl (by rfl) 25 (.tmp 14) (.tmp 49) rfl p14 rfl (alV (some ⟨gT, 0, none⟩) N N M L R) rfl 25 (alV none 0 0 0 0 0) h14 rfl (alV_info _ _ _ _ _ _) (alV_one _ _ _ _ _ _) (hH.other h14 (Or.inl (by decide)) lp14 _) (fun hH => ?_) ?_
                          · have hkeep := h14
                            replace h14 := h14.row (alV (some ⟨gT, 0, none⟩) N N M L R)
                            replace h13 := h13.rowFar (hkeep.ne_ h13 (by decide)) (alV (some ⟨gT, 0, none⟩) N N M L R)
                            replace hT := hT.rowFar (hkeep.ne_ hT (by decide)) (alV (some ⟨gT, 0, none⟩) N N M L R)
                            clear hS2 hkeep
                            generalize w3.setRow p14 (alV (some ⟨gT, 0, none⟩) N N M L R) = w2 at *
                            refine takeH 0 20 15 (.int .i64 0) rfl rfl (by kernel_rfl) (by kernel_rfl) (by kernel_rfl) (fun _ _ _ h => h) (Or.inl ⟨by rfl, fun w _ => by go_simp⟩) hH ?_
                            simp only [List.set_cons_zero, List.set_cons_succ]
                            refine wpAnyH_done (by kernel_rfl) ?_ _
                            go_wp2
                            go_meet
                            exact ⟨p13, p14, gT, rfl, rfl, rfl, h13, h14, hT, hH, lp13⟩
                          exact AllReadyH.nil
                        exact AllReadyH.nil
                      exact AllReadyH.nil
                    exact AllReadyH.nil
                  exact AllReadyH.nil
                case rest =>
                  obtain ⟨p13, p14, gT, rfl, rfl, rfl, h13, h14, hT, hO, l13⟩ := hcut
                  clear hOq
                  go_upto_region 14 with fail
                  refine wp_region_lit ?_
                  refine runP 55 (.agg (alV (some ⟨gT, 0, none⟩) N N M L R)) rfl (by rfl) (exec_row 25 (.tmp 14) rfl p14 rfl 25 (alV (some ⟨gT, 0, none⟩) N N M L R) _ h14 Try.underlying25 rfl (alV_info _ _ _ _ _ _)) ?_
                  simp only [List.set_cons_zero, List.set_cons_succ]
                  refine storeP rfl (by rfl) 25 (.tmp 5) (.tmp 55) rfl A5 rfl (alV (some ⟨gT, 0, none⟩) N N M L R) rfl 25 (alV (some ⟨g, 0, none⟩) N c M L R) hO.m.a rfl (alV_info _ _ _ _ _ _) (alV_one _ _ _ _ _ _) ?_
                  refine wpList_nil ?_
                  have hoq : OqMem A5 P8 p13 N L R N M gT c M g B sn s v cs' (some ad) sl u6 gs w (wc.setRow A5 (alV (some ⟨gT, 0, none⟩) N N M L R)) := ⟨hO.m.next hT hclq'.out, hO.p.rowFar (by omega) _, h13.rowFar (by omega) _⟩
                  obtain ⟨GA, cap, hu6⟩ := hO.m.shape
                  have hOQ := Lib.hid hoq
                  clear hoq hO h13 h14 hT
                  generalize wc.setRow A5 (alV (some ⟨gT, 0, none⟩) N N M L R) = w10 at *
                  obtain ⟨kk, hkk⟩ : ∃ k, gs.length = k := ⟨_, rfl⟩
                  rw [hkk] at hu6
                  subst hu6
                  have hkkq := Lib.hid hkk
                  have hkki : kk ≤ i := by omega
                  clear hkk hgl
                  go_wp2
                  go_loopw [16] (fun sv wx => ∃ k : Nat, k ≤ kk ∧ sv = .int .i64 (k : Int) ∧ OqMem A5 P8 p13 N L R N M gT c M g B sn s v cs' (some ad) sl (.slice GA kk cap) gs w wx) (fun sv _ => kk - (intOf sv).toNat)
                  case atStart => exact ⟨0, by omega, rfl, hOQ.out⟩
                  case round =>
                    clear hOQ
                    obtain ⟨k, hkk2, rfl, hq⟩ := hrel
                    by_cases hlk : k < kk
                    · have hlkI : (k : Int) < (kk : Int) := by omega
                      have hgsk : k < gs.length := by rw [hkkq.out]; exact hlk
                      obtain ⟨s', v', hpr⟩ : ∃ s' v', gs[k]? = some (s', v') := ⟨_, _, List.getElem?_eq_getElem hgsk⟩
                      have hbelow := hgivq.out (s', v') (List.mem_of_getElem? hpr)
                      have hne : s' ≠ s ∨ v' ≠ v := by
                        rcases Nat.decEq s' s with h0 | h0
                        · exact Or.inl h0
                        · right
                          have h1 := hbelow.2
                          simp only at h1
                          rw [h0, hvq.out] at h1
                          omega
                      have heq := neNo s' v' s v hne
                      have ho := hq.m.o
                      rw [hkkq.out] at ho
                      obtain ⟨gg, cap', hform, _, _⟩ := ho.form (by omega)
                      injection hform with e1 _ e2
                      subst e1 e2
                      have hq2 := Lib.hid hq
                      have hprq := Lib.hid hpr
                      clear hq ho hbelow hne hpr
                      go_upto_region 18 with fail
                      refine wp_region_held_drew (S := OqMem A5 P8 p13 N L R N M gT c M g B sn s v cs' (some ad) sl (.slice (some ⟨gg, 0, none⟩) kk cap) gs w) (by kernel_rfl) hq2.out.drew_ (fun hH => ?_)
                      refine takeH 5 0 62 (.slice (some ⟨gg, 0, none⟩) kk cap) rfl rfl (by kernel_rfl) (by kernel_rfl) (by kernel_rfl) (fun _ _ _ h => h) (Or.inl ⟨by rfl, fun w _ => by go_simp⟩) hH ?_
                      simp only [List.set_cons_zero, List.set_cons_succ]
                      refine takeH 4 1 63 (.int .i64 (k : Int)) rfl rfl (by kernel_rfl) (by kernel_rfl) (by kernel_rfl) (fun _ _ _ h => h) (Or.inl ⟨by rfl, fun w _ => by go_simp⟩) hH ?_
                      simp only [List.set_cons_zero, List.set_cons_succ]
                      refine takeH 3 2 64 (.pointer (some ⟨gg, k * 2, none⟩)) rfl rfl (by kernel_rfl) (by kernel_rfl) (by kernel_rfl) (fun _ _ _ h => h) (Or.inl ⟨by rfl, fun w _ => by go_simp⟩) hH ?_
                      simp only [List.set_cons_zero, List.set_cons_succ]
                      refine takeH 2 3 65 (.agg (noV s' v')) rfl rfl (by kernel_rfl) (by kernel_rfl) (by kernel_rfl) (fun _ _ _ h => h) (yieldsIf_load_mid (by rfl) 35 (.tmp 64) rfl gg (k * 2) rfl [.int .u32 (s' : Int), .int .u64 (v' : Int)] _ (fun _ h => pair_of h hkkq.out hprq.out) Try.underlying35 rfl (noV_info s' v')) hH ?_
                      simp only [List.set_cons_zero, List.set_cons_succ]
                      refine takeH 1 4 66 (.agg (noV s v)) rfl rfl (by kernel_rfl) (by kernel_rfl) (by kernel_rfl) (fun _ _ _ h => h) (yieldsIf_load_blk (by rfl) 35 (.tmp 13) rfl p13 rfl 35 (noV s v) _ (fun _ h => h.q) Try.underlying35 rfl (noV_info _ _)) hH ?_
                      simp only [List.set_cons_zero, List.set_cons_succ]
                      refine takeH 0 5 67 (.bool false) rfl rfl (by kernel_rfl) (by kernel_rfl) (by kernel_rfl) (fun _ _ _ h => h) (Or.inl ⟨by rfl, fun w _ => by go_simp⟩) hH ?_
                      simp only [List.set_cons_zero, List.set_cons_succ]
                      refine wpAnyH_done (by kernel_rfl) ?_ _
                      have hH2 := Lib.hid hH
                      clear hH hq2 heq
                      go_wp2
                      go_roundw
                      case rel => exact ⟨k + 1, by omega, by go_num, hH2.out⟩
                      case measure => simp [intOf]; omega
                    · have hkI : (kk : Int) ≤ (k : Int) := by omega
                      obtain ⟨i0, hi0, hz0, hz1, hz2⟩ := info_parts no_info
                      obtain ⟨q0, q1⟩ := noV_cells hq.q
                      obtain ⟨a0, a1, a2, a3⟩ := alV_cells hq.m.a
                      have hvI : ¬ (M : Int) ≤ (v : Int) := by omega
                      have hq2 := Lib.hid hq
                      clear hq
                      go_upto_region 22 with fail
                      go_upto_region 33 with (
                        refine wpList_append_any _ rfl (.tmp 73) (.tmp 75) 50 rfl w.heap.size 35 i0 (.agg (noV 0 0)) 2 16 Try.underlying50 hi0 hz0 hz1 hz2 rfl (by omega) (.slice GA kk cap) kk (gv gs) rfl ?q1 (wr.heap.size + 1) (some ⟨wr.heap.size, 0, none⟩) 1 1 [.int .u32 (s : Int), .int .u64 (v : Int)] rfl ?q2 (noV_one s v) ?q3 ?q4 ?q5 ?_
                        case q1 => exact own_of (hq2.out.m.alloc_ _) hkkq.out
                        case q2 => exact reads_new _ s v
                        case q3 => have : maxLen = 9223372036854775807 := rfl; omega
                        case q4 => omega
                        case q5 => exact (hq2.out.m.alloc_ _).bel.size
                        intro v2 w3 ho hgr hor)
                      have HTx := (hq2.out.m.alloc_ (.cells #[.int .u32 (s : Int), .int .u64 (v : Int)] 35)).grown hgr (by rw [hkkq.out]; exact ho)
                      have HPx := hq2.out.grownP hgr
                      have HT := Lib.hid HTx
                      have HP := Lib.hid HPx
                      have hkl : (gs ++ [(s, v)]).length ≤ i + 1 := by rw [List.length_append, hkkq.out]; simp; omega
                      have hklq := Lib.hid hkl
                      clear HTx HPx ho hgr hor hq2 q0 q1 a0 a1 a2 a3 hkl hi0 hz0 hz1 hz2
                      obtain ⟨a0, a1, a2, a3⟩ := alV_cells HT.out.a
                      obtain ⟨b0, b1, b2, b3⟩ := alV_cells HP.out
                      refine wp_region_lit ?_
                      refine runP 98 (.pointer (some ⟨A5, 1, none⟩)) rfl (by rfl) (by go_simp) ?_
                      simp only [List.set_cons_zero, List.set_cons_succ]
                      refine runP 99 (.int .u64 ((M : Nat) : Int)) rfl (by rfl) (by go_simp) ?_
                      simp only [List.set_cons_zero, List.set_cons_succ]
                      refine runP 100 (.pointer (some ⟨P8, 1, none⟩)) rfl (by rfl) (by go_simp) ?_
                      simp only [List.set_cons_zero, List.set_cons_succ]
                      refine runP 101 (.int .u64 (M : Int)) rfl (by rfl) (by go_simp) ?_
                      simp only [List.set_cons_zero, List.set_cons_succ]
                      refine runP 102 ((.bool false)) rfl (by rfl) (by go_simp) ?_
                      simp only [List.set_cons_zero, List.set_cons_succ]
                      refine runP 103 ((.bool false)) rfl (by rfl) (by go_simp) ?_
                      simp only [List.set_cons_zero, List.set_cons_succ]
                      refine runP 104 (.pointer (some ⟨A5, 0, none⟩)) rfl (by rfl) (by go_simp) ?_
                      simp only [List.set_cons_zero, List.set_cons_succ]
                      refine runP 105 (.slice (some ⟨gT, 0, none⟩) N N) rfl (by rfl) (by go_simp) ?_
                      simp only [List.set_cons_zero, List.set_cons_succ]
                      refine runP 106 (.int .i64 (N : Int)) rfl (by rfl) (by go_simp) ?_
                      simp only [List.set_cons_zero, List.set_cons_succ]
                      refine runP 107 (.pointer (some ⟨P8, 0, none⟩)) rfl (by rfl) (by go_simp) ?_
                      simp only [List.set_cons_zero, List.set_cons_succ]
                      refine runP 108 (.slice (some ⟨g, 0, none⟩) N c) rfl (by rfl) (by go_simp) ?_
                      simp only [List.set_cons_zero, List.set_cons_succ]
                      refine runP 109 (.int .i64 (N : Int)) rfl (by rfl) (by go_simp) ?_
                      simp only [List.set_cons_zero, List.set_cons_succ]
                      refine runP 110 ((.bool false)) rfl (by rfl) (by go_simp) ?_
                      simp only [List.set_cons_zero, List.set_cons_succ]
                      refine runP 111 ((.bool false)) rfl (by rfl) (by go_simp) ?_
                      simp only [List.set_cons_zero, List.set_cons_succ]
                      refine runP 112 ((.bool false)) rfl (by rfl) (by go_simp) ?_
                      simp only [List.set_cons_zero, List.set_cons_succ]
                      refine runP 113 (.agg (alV (some ⟨gT, 0, none⟩) N N M L R)) rfl (by rfl) (exec_row 25 (.tmp 5) rfl A5 rfl 25 (alV (some ⟨gT, 0, none⟩) N N M L R) _ HT.out.a Try.underlying25 rfl (alV_info _ _ _ _ _ _)) ?_
                      simp only [List.set_cons_zero, List.set_cons_succ]
                      refine callP 114 rfl (by rfl) (fun K hK => ?_)
                      go_simp
                      refine (check_to (some ⟨gT, 0, none⟩) N N M L R (gT + 1) cs' hckq'.out _ HT.out.r (by have := HT.out.glt; omega)).mono ?_
                      rintro e w' ⟨rfl, bx⟩
                      dsimp only
                      refine hK.out _ _ ?_
                      clear hK K
                      replace HT := Lib.hid (HT.out.below bx)
                      clear bx a0 a1 a2 a3 b0 b1 b2 b3 HP
                      simp only [List.set_cons_zero, List.set_cons_succ]
                      refine runP 115 ((.bool false)) rfl (by rfl) (by go_simp) ?_
                      simp only [List.set_cons_zero, List.set_cons_succ]
                      refine runP 116 ((.bool false)) rfl (by rfl) (by go_simp) ?_
                      simp only [List.set_cons_zero, List.set_cons_succ]
                      refine wpList_nil ?_
                      go_wp2
                      go_roundw
                      case rel => exact ⟨i + 1, gT, N, M, cs', (gs ++ [(s, v)]), by omega, by go_num, hclq'.out, hckq'.out, hgivq'.out, hklq.out, HT.out⟩
                      case measure => simp [intOf]; omega
      · have hiI : (sn : Int) ≤ (i : Int) := by omega
        have hMq := Lib.hid hM
        clear hM hgiv hck hcl
        go_wp2_with fail
        refine (lives08 _).mono ?_
        rintro e w9 ⟨rfl, b9⟩
        have hb9 := hMq.out.bel.trans (b9.mono hMq.out.bel.size)
        have hb9q := Lib.hid hb9
        clear b9 hb9
        go_wp2_with fail
        go_ret
        exact ⟨rfl, hb9q.out⟩
end Go.Proofs.Ytaaldjmopifcjaa
