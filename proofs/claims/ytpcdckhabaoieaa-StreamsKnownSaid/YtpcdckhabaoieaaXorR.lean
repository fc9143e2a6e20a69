/-
  The walk of caissonref07.Xor. (Printed by mkxor07d.py.)
-/
import Derived.Test.YtpcdckhabaoieaaStm2
import Derived.Test.YtpcdckhabaoieaaXorL
import Derived.Test.YtpcdckhabaoieaaOwn
namespace Go.Proofs.Ytpcdckhabaoieaa
open Go.RowKit Sh
theorem exec_cellA {P : Program} {w : World} {op : Oper} {a : Act} (ty : TypeId) (x : Operand) (ho : op.op = .load ty x) (ad : Addr) (hx : a.eval x = .pointer (some ad)) (v : Value) (d : TypeDesc)
    (hu : P.underlying ty = some d) (hd : (match d with | .struct _ | .array _ _ => true | _ => false) = false) (hc : w.cell? ad = some v) : (execOp a.eval op).run P w = .ok (.value v) w := by
  unfold execOp
  simp only [ho, hx, Instr.loadAt, Instr.sureAddr, Sem.run_bind, Sem.run_pure, Result.andThen_ok, run_loadVar_cell ty ad v d hu hd hc]
theorem kxor_get {key : List Nat} {s c f : Nat} {d : List Nat} {i : Nat} (hi : i < d.length) : (kxor key s c f d).getD i 0 = xb key s c f d i := by
  simp [kxor, List.getD_eq_getElem?_getD, hi]
theorem kxor_take {key : List Nat} {s c f : Nat} {d : List Nat} {i : Nat} (hi : i < d.length) : (kxor key s c f d).take i ++ [xb key s c f d i] = (kxor key s c f d).take (i + 1) := by
  rw [← kxor_get hi, List.take_add_one, List.getD_eq_getElem?_getD, List.getElem?_eq_getElem (by rw [kxor_len]; exact hi)]
  rfl

set_option maxRecDepth 8000 in
set_option maxHeartbeats 4000000 in
theorem rxor_any (key : List Nat) (s c f n : Nat) (d : List Nat) (hkl : key.length = 16) (hkb : Byt key) (hs : s < 4294967296) (hc : c < 18446744073709551616) (hdl : d.length = n) (hdb : Byt d) (hlim : f + n ≤ 2000000) (A : Option Addr) (cc B : Nat) (w : World) (hr : Reads w B 1 A n (nv .u8 d)) (hBw : B ≤ w.heap.size) :
    Calls Try.prog 17 #[.agg (va .u8 key), .agg (noV s c), .int .i64 (f : Int), .slice A n cc] w fun e' w' => ∃ A2 c2, e' = .returned (.slice A2 n c2) ∧ Own w' w.heap.size A2 n c2 (kxor key s c f d) ∧ Below w.heap.size w w' := by
  obtain ⟨B0, hB0e⟩ : ∃ b, w.heap.size = b := ⟨_, rfl⟩
  rw [hB0e]
  have hW : Below B0 w w := by rw [← hB0e]; exact Below.refl _ _
  have hB0 : B0 ≤ w.heap.size := by omega
  have rd := reads_of hr (by omega : B ≤ B0)
  clear hr hBw
  have hB0q := Lib.hid hB0e
  clear hB0e
  go_enter Try.func17, Try.ntmps17
  go_upto_region 0 with fail
  refine wl_lit ?_
  refine runWL 4 (.pointer (some ⟨w.heap.size, 0, none⟩)) (w.alloc (.cells (va .u8 (key)) 22)) rfl (by rfl) (exec_box 22 (.tmp 0) rfl (.agg (va .u8 (key))) rfl) ?_
  simp only [List.set_cons_zero, List.set_cons_succ]
  have lw_p4 := Nat.le_trans hB0 hW.size
  have hp4 : Blk (w.alloc (.cells (va .u8 (key)) 22)) w.heap.size 22 (va .u8 (key)) := Blk.new _ _ _
  replace hW := hW.alloc (Nat.le_trans hB0 hW.size) (.cells (va .u8 (key)) 22)
  generalize w.alloc (.cells (va .u8 (key)) 22) = w1 at *
  generalize w.heap.size = p4 at hp4 lw_p4  ⊢
  refine runWL 5 (.pointer (some ⟨w1.heap.size, 0, none⟩)) (w1.alloc (.cells (noV s c) 26)) rfl (by rfl) (exec_box 26 (.tmp 1) rfl (.agg (noV s c)) rfl) ?_
  simp only [List.set_cons_zero, List.set_cons_succ]
  have lp4_p5 := hp4.lt
  have lw_p5 := Nat.le_trans hB0 hW.size
  have hp5 : Blk (w1.alloc (.cells (noV s c) 26)) w1.heap.size 26 (noV s c) := Blk.new _ _ _
  replace hp4 := hp4.alloc (.cells (noV s c) 26)
  replace hW := hW.alloc (Nat.le_trans hB0 hW.size) (.cells (noV s c) 26)
  generalize w1.alloc (.cells (noV s c) 26) = w2 at *
  generalize w1.heap.size = p5 at hp5 lw_p5 lp4_p5 ⊢
  refine runL 8 (.slice none 0 0) rfl (by rfl) (by go_simp) ?_
  simp only [List.set_cons_zero, List.set_cons_succ]
  refine nilL ?_
  go_upto_region 1 with fail
  refine wl_lit ?_
  refine runL 9 (.slice none 0 0) rfl (by rfl) (by go_simp) ?_
  simp only [List.set_cons_zero, List.set_cons_succ]
  refine nilL ?_
  have hO0 : Own w2 B0 none 0 0 [] := Own.nil _ _
  have nO0_p4 : Off none p4 := Off.nil _
  have nO0_p5 : Off none p5 := Off.nil _
  go_upto_region 2 with fail
  refine wl_lit ?_
  refine runWL 10 (.pointer (some ⟨w2.heap.size, 0, none⟩)) (w2.alloc (.cells (va .u8 (List.replicate 16 0)) 22)) rfl (by rfl) (exec_allocV 22 rfl _ (zv__16_uint8 _)) ?_
  simp only [List.set_cons_zero, List.set_cons_succ]
  have lp4_p10 := hp4.lt
  have lp5_p10 := hp5.lt
  have nO0_p10 := hO0.new_off
  have lw_p10 := Nat.le_trans hB0 hW.size
  have hp10 : Blk (w2.alloc (.cells (va .u8 (List.replicate 16 0)) 22)) w2.heap.size 22 (va .u8 (List.replicate 16 0)) := Blk.new _ _ _
  replace hp4 := hp4.alloc (.cells (va .u8 (List.replicate 16 0)) 22)
  replace hp5 := hp5.alloc (.cells (va .u8 (List.replicate 16 0)) 22)
  replace hO0 := hO0.alloc (.cells (va .u8 (List.replicate 16 0)) 22)
  replace hW := hW.alloc (Nat.le_trans hB0 hW.size) (.cells (va .u8 (List.replicate 16 0)) 22)
  generalize w2.alloc (.cells (va .u8 (List.replicate 16 0)) 22) = w3 at *
  generalize w2.heap.size = p10 at hp10 lw_p10 lp4_p10 lp5_p10 nO0_p10 ⊢
  refine nilL ?_
  go_upto_region 3 with fail
  refine wl_lit ?_
  refine runL 11 (.int .i64 0) rfl (by rfl) (by go_simp) ?_
  simp only [List.set_cons_zero, List.set_cons_succ]
  refine nilL ?_
  go_wp2
  go_loopw [9, 11] (fun v u wr => ∃ (k : Nat) (AI : Option Addr) (cI : Nat) (L : List Nat), k ≤ n ∧ u = .int .i64 (k : Int) ∧ v = .slice AI k cI ∧ Own wr B0 AI k cI ((kxor key s c f d).take k) ∧ Blk wr p4 22 (va .u8 key) ∧ Blk wr p5 26 (noV s c) ∧ L.length = 16 ∧ Byt L ∧ (k = 0 ∨ L = sbl key s c ((f + k - 1) / 16)) ∧ Blk wr p10 22 (va .u8 L) ∧ Off AI p4 ∧ Off AI p5 ∧ Off AI p10 ∧ Below B0 w wr) (fun _ u _ => n - (intOf u).toNat)
  case atStart => exact ⟨0, none, 0, List.replicate 16 0, by omega, rfl, rfl, hO0, hp4, hp5, List.length_replicate, Byt.rep _ _ (by omega), .inl rfl, hp10, Off.nil _, Off.nil _, Off.nil _, hW⟩
  case round =>
    clear hO0 hp4 hp5 hp10 hW nO0_p4 nO0_p5 nO0_p10
    obtain ⟨k, AI, cI, L, hk, rfl, rfl, hAI, hp4, hp5, hLl, hLb, hLe, hp10, nAI_p4, nAI_p5, nAI_p10, hW⟩ := hrel
    by_cases hlt : k < n
    ·
      have hltI : (k : Int) < (n : Int) := by omega
      obtain ⟨ad, hAd, _, hc1⟩ := (rd.out _ hW).num hlt
      have hcx : Hid (∀ W, Below B0 w W → W.cell? (ad.add k) = some (.int .u8 ((d.getD k 0 : Nat) : Int))) := Lib.hid fun W hb => by
        obtain ⟨ad2, h2, _, h3⟩ := (rd.out _ hb).num hlt
        rw [hAd] at h2
        cases h2
        exact h3
      subst hAd
      clear hc1
      have hx := hdb.get k
      have hy := (sbl_byt key s c ((f + k) / 16) hkb).get ((f + k) % 16)
      have hst := kxor_take (key := key) (s := s) (c := c) (f := f) (d := d) (i := k) (by omega)
      unfold xb at hst
      have hsl := sbl_len key s c ((f + k) / 16)
      have hsb := sbl_byt key s c ((f + k) / 16) hkb
      obtain ⟨e, he⟩ : ∃ e, f + k = e := ⟨_, rfl⟩
      have hwa : IntKind.i64.wrap ((f : Int) + (k : Int)) = (e : Int) := by rw [IntWalk.i64_in _ (by omega)]; omega
      obtain ⟨r, hre⟩ : ∃ r, e % 16 = r := ⟨_, rfl⟩
      obtain ⟨q, hqe⟩ : ∃ q, e / 16 = q := ⟨_, rfl⟩
      have hq16 : Int.tmod (e : Int) 16 = (r : Int) := by rw [Int.tmod_eq_emod_of_nonneg (by omega)]; omega
      have hd16 : Int.tdiv (e : Int) 16 = (q : Int) := by rw [Int.tdiv_eq_ediv_of_nonneg (by omega)]; omega
      have hq16e : (e : Int) % 16 = (r : Int) := by omega
      have hd16e : (e : Int) / 16 = (q : Int) := by omega
      have hwr : IntKind.u32.wrap (q : Int) = (q : Int) := by simp [IntKind.wrap, IntKind.bits, IntKind.signed]; omega
      have hwq : IntKind.i64.wrap (q : Int) = (q : Int) := IntWalk.i64_in _ (by omega)
      have hwm : IntKind.i64.wrap (r : Int) = (r : Int) := IntWalk.i64_in _ (by omega)
      have hr16 : r < 16 := by omega
      have hqb : q < 4294967296 := by omega
      have hrI : (r : Int) < 16 := by omega
      obtain ⟨x, hxe⟩ : ∃ x, d.getD k 0 = x := ⟨_, rfl⟩
      rw [he, hre] at hy
      rw [he, hre, hqe] at hst
      rw [he, hqe] at hsl hsb
      rw [hqe] at hy
      obtain ⟨y, hye⟩ : ∃ y, (sbl key s c q).getD r 0 = y := ⟨_, rfl⟩
      rw [hye] at hst hy
      rw [hxe] at hst hx hcx
      have hx1 : bits BinOp.xor IntKind.u8 (x : Int) (y : Int) = ((x ^^^ y : Nat) : Int) := u8_xor_nat x y hx hy
      have hstq := Lib.hid hst
      have hyq := Lib.hid hye
      have hxq := Lib.hid hxe
      have hLq := Lib.hid hLe
      have hLbq := Lib.hid hLb
      have hLlq := Lib.hid hLl
      have hrq := Lib.hid hre
      have hqq := Lib.hid hqe
      have heq := Lib.hid he
      clear he hre hqe hst hye hxe hLe hLb hLl
      by_cases hk0 : k = 0
      ·
        have hkq : Hid ((k : Int) = 0) := Lib.hid (by omega)
        clear hk0
        go_upto_region 6 with fail
        refine wl_lit ?_
        refine runL 19 (.int .i64 (f : Int)) rfl (by rfl) (by go_simp) ?_
        simp only [List.set_cons_zero, List.set_cons_succ]
        refine runL 20 (.int .i64 (k : Int)) rfl (by rfl) (by go_simp) ?_
        simp only [List.set_cons_zero, List.set_cons_succ]
        refine runL 21 (.int .i64 (e : Int)) rfl (by rfl) (by go_simp) ?_
        simp only [List.set_cons_zero, List.set_cons_succ]
        refine runL 12 (.int .i64 (e : Int)) rfl (by rfl) (by go_simp) ?_
        simp only [List.set_cons_zero, List.set_cons_succ]
        refine nilL ?_
        go_upto_region 7 with fail
        refine wl_lit ?_
        refine runL 22 (.int .i64 (k : Int)) rfl (by rfl) (by go_simp) ?_
        simp only [List.set_cons_zero, List.set_cons_succ]
        refine runL 23 (.bool true) rfl (by rfl) (by have hkI := hkq.out; go_simp) ?_
        simp only [List.set_cons_zero, List.set_cons_succ]
        refine runL 24 (.bool true) rfl (by rfl) (by go_simp) ?_
        simp only [List.set_cons_zero, List.set_cons_succ]
        refine skipL 25 rfl (by kernel_rfl) ?_
        simp only [List.set_cons_zero, List.set_cons_succ]
        refine skipL 26 rfl (by kernel_rfl) ?_
        simp only [List.set_cons_zero, List.set_cons_succ]
        refine skipL 27 rfl (by kernel_rfl) ?_
        simp only [List.set_cons_zero, List.set_cons_succ]
        refine runL 28 (.bool true) rfl (by rfl) (by go_simp) ?_
        simp only [List.set_cons_zero, List.set_cons_succ]
        refine nilL ?_
        go_upto_region 8 with fail
        refine wl_lit ?_
        refine runL 29 (.agg (va .u8 (key))) rfl (by rfl) (exec_row 22 (.tmp 4) rfl p4 rfl 22 (va .u8 (key)) _ hp4 (by exact Try.underlying22) rfl (sz__16_uint8 _ (hkl))) ?_
        simp only [List.set_cons_zero, List.set_cons_succ]
        refine runL 30 (.agg (noV s c)) rfl (by rfl) (exec_row 26 (.tmp 5) rfl p5 rfl 26 (noV s c) _ hp5 (by exact Try.underlying26) rfl (noV_sz _ _)) ?_
        simp only [List.set_cons_zero, List.set_cons_succ]
        refine runL 31 (.int .i64 (e : Int)) rfl (by rfl) (by go_simp) ?_
        simp only [List.set_cons_zero, List.set_cons_succ]
        refine runL 32 (.int .i64 (q : Int)) rfl (by rfl) (by go_simp) ?_
        simp only [List.set_cons_zero, List.set_cons_succ]
        refine runL 33 (.int .u32 (q : Int)) rfl (by rfl) (by go_simp) ?_
        simp only [List.set_cons_zero, List.set_cons_succ]
        refine callL 34 rfl (by rfl) (fun K hK => wp_callF 10 #[.agg (va .u8 (key)), .agg (noV s c), .int .u32 (q : Int)] (by go_simp) (rsblock_any key s c q hkl hkb hs hc hqb _) ?_)
        rintro e w4 ⟨rfl, bx⟩
        replace hp4 := hp4.below bx hp4.lt
        replace hp5 := hp5.below bx hp5.lt
        replace hp10 := hp10.below bx hp10.lt
        replace hAI := hAI.below bx
        replace hW := hW.trans (bx.mono (Nat.le_trans hB0 hW.size))
        clear bx
        refine ⟨_, rfl, hK.out _ _ ?_⟩
        clear hK K
        simp only [List.set_cons_zero, List.set_cons_succ]
        refine runSL (w4.setRow p10 (va .u8 (sbl key s c q))) rfl (by rfl) (exec_storeRow 22 (.tmp 10) (.tmp 34) rfl p10 rfl (va .u8 (sbl key s c q)) rfl 22 (va .u8 (L)) hp10 (sz_eq (sz__16_uint8 _ (hLlq.out)) (sz__16_uint8 _ (hsl))) (sz__16_uint8 _ (hsl)) (va_ones .u8 _)) ?_
        replace hp4 := hp4.rowFar (show p10 ≠ p4 from (by omega)) (va .u8 (sbl key s c q))
        replace hp5 := hp5.rowFar (show p10 ≠ p5 from (by omega)) (va .u8 (sbl key s c q))
        replace hAI := hAI.rowFar nAI_p10 (va .u8 (sbl key s c q))
        replace hp10 := hp10.row (va .u8 (sbl key s c q))
        replace hW := below_setRow hW lw_p10 (va .u8 (sbl key s c q))
        generalize w4.setRow p10 (va .u8 (sbl key s c q)) = w5 at *
        refine nilL ?_
        go_upto_region 9 with fail
        replace hAI := hAI.drew_
        refine wp_region_held_drew (S := fun wr => Blk wr p4 22 (va .u8 (key)) ∧ Blk wr p5 26 (noV s c) ∧ Blk wr p10 22 (va .u8 (sbl key s c q)) ∧ Below B0 w wr) (by kernel_rfl) ⟨hp4.drew, hp5.drew, hp10.drew, below_drewN hW 1⟩ (fun hH => ?_)
        clear hp4 hp5 hp10 hW
        obtain ⟨hp4, hp5, hp10, hW⟩ := hH
        generalize w5.drew = w6 at *
        refine takeH 12 0 35 (.slice (AI) k cI) rfl rfl (by kernel_rfl) (by kernel_rfl) (by kernel_rfl) (fun _ _ _ h => h) (Or.inl ⟨by rfl, fun w _ => by go_simp⟩) ⟨hp4, hp5, hp10, hW⟩ ?_
        simp only [List.set_cons_zero, List.set_cons_succ]
        refine takeH 11 1 36 (.slice (some ad) n cc) rfl rfl (by kernel_rfl) (by kernel_rfl) (by kernel_rfl) (fun _ _ _ h => h) (Or.inl ⟨by rfl, fun w _ => by go_simp⟩) ⟨hp4, hp5, hp10, hW⟩ ?_
        simp only [List.set_cons_zero, List.set_cons_succ]
        refine takeH 10 2 37 (.int .i64 (k : Int)) rfl rfl (by kernel_rfl) (by kernel_rfl) (by kernel_rfl) (fun _ _ _ h => h) (Or.inl ⟨by rfl, fun w _ => by go_simp⟩) ⟨hp4, hp5, hp10, hW⟩ ?_
        simp only [List.set_cons_zero, List.set_cons_succ]
        refine takeH 9 3 38 (.pointer (some (ad.add k))) rfl rfl (by kernel_rfl) (by kernel_rfl) (by kernel_rfl) (fun _ _ _ h => h) (Or.inl ⟨by rfl, fun w _ => by go_simp⟩) ⟨hp4, hp5, hp10, hW⟩ ?_
        simp only [List.set_cons_zero, List.set_cons_succ]
        refine takeH 8 4 39 (.int .u8 ((x : Nat) : Int)) rfl rfl (by kernel_rfl) (by kernel_rfl) (by kernel_rfl) (fun _ _ _ h => h) (Or.inl ⟨by rfl, fun _ h => exec_cellA 5 (.tmp 38) rfl (ad.add k) rfl (.int .u8 ((x : Nat) : Int)) _ Try.underlying5 rfl (hcx.out _ h.2.2.2)⟩) ⟨hp4, hp5, hp10, hW⟩ ?_
        simp only [List.set_cons_zero, List.set_cons_succ]
        refine takeH 7 5 40 (.int .i64 (e : Int)) rfl rfl (by kernel_rfl) (by kernel_rfl) (by kernel_rfl) (fun _ _ _ h => h) (Or.inl ⟨by rfl, fun w _ => by go_simp⟩) ⟨hp4, hp5, hp10, hW⟩ ?_
        simp only [List.set_cons_zero, List.set_cons_succ]
        refine takeH 6 6 41 (.int .i64 (r : Int)) rfl rfl (by kernel_rfl) (by kernel_rfl) (by kernel_rfl) (fun _ _ _ h => h) (Or.inl ⟨by rfl, fun w _ => by go_simp⟩) ⟨hp4, hp5, hp10, hW⟩ ?_
        simp only [List.set_cons_zero, List.set_cons_succ]
        refine takeH 5 7 42 (.pointer (some ⟨p10, r, none⟩)) rfl rfl (by kernel_rfl) (by kernel_rfl) (by kernel_rfl) (fun _ _ _ h => h) (Or.inl ⟨by rfl, fun w _ => by go_simp⟩) ⟨hp4, hp5, hp10, hW⟩ ?_
        simp only [List.set_cons_zero, List.set_cons_succ]
        refine takeH 4 8 43 (.int .u8 ((y : Nat) : Int)) rfl rfl (by kernel_rfl) (by kernel_rfl) (by kernel_rfl) (fun _ _ _ h => h) (Or.inl ⟨by rfl, fun _ h => exec_cell 5 (.tmp 42) rfl p10 r rfl (.int .u8 ((y : Nat) : Int)) _ Try.underlying5 rfl (by rw [← hyq.out]; exact h.2.2.1.num (by rw [hsl]; exact hr16))⟩) ⟨hp4, hp5, hp10, hW⟩ ?_
        simp only [List.set_cons_zero, List.set_cons_succ]
        refine takeH 3 9 44 (.int .u8 ((x ^^^ y : Nat) : Int)) rfl rfl (by kernel_rfl) (by kernel_rfl) (by kernel_rfl) (fun _ _ _ h => h) (Or.inl ⟨by rfl, fun w _ => by go_simp⟩) ⟨hp4, hp5, hp10, hW⟩ ?_
        simp only [List.set_cons_zero, List.set_cons_succ]
        refine wpAnyH_ready (by kernel_rfl) (by simp) (readyRun 2 10 45 (.slice (some ⟨w6.heap.size, 0, none⟩) 1 1) (w6.alloc (.cells (va .u8 ([(x ^^^ y)])) 5)) rfl rfl (by rfl) (exec_bslice 39 1 _ rfl _ (by exact bs_b1 (x ^^^ y) _)) ⟨hp4.alloc _, hp5.alloc _, hp10.alloc _, hW.alloc (Nat.le_trans hB0 hW.size) _⟩ (fun _ => ?_) AllReadyH.nil)
        simp only [List.set_cons_zero, List.set_cons_succ]
        have lp4_q1 := hp4.lt
        have lp5_q1 := hp5.lt
        have lp10_q1 := hp10.lt
        have nAI_q1 := hAI.new_off
        have lw_q1 := Nat.le_trans hB0 hW.size
        have hq1 : Blk (w6.alloc (.cells (va .u8 ([(x ^^^ y)])) 5)) w6.heap.size 5 (va .u8 ([(x ^^^ y)])) := Blk.new _ _ _
        replace hp4 := hp4.alloc (.cells (va .u8 ([(x ^^^ y)])) 5)
        replace hp5 := hp5.alloc (.cells (va .u8 ([(x ^^^ y)])) 5)
        replace hp10 := hp10.alloc (.cells (va .u8 ([(x ^^^ y)])) 5)
        replace hAI := hAI.alloc (.cells (va .u8 ([(x ^^^ y)])) 5)
        replace hW := hW.alloc (Nat.le_trans hB0 hW.size) (.cells (va .u8 ([(x ^^^ y)])) 5)
        generalize w6.alloc (.cells (va .u8 ([(x ^^^ y)])) 5) = w7 at *
        generalize w6.heap.size = q1 at hq1 lw_q1 lp4_q1 lp5_q1 lp10_q1 nAI_q1 ⊢
        obtain ⟨AJ, cAJ, w8, hap, hAJ, hcAJ, hgr, hof⟩ := own_append hAI (some ⟨q1, 0, none⟩) 1 1 _ ([(x ^^^ y)]) (hq1.readsAll (Nat.lt_succ_self _) (rfl)) (Nat.le_trans hB0 hW.size) ((kxor key s c f d).take (k + 1)) hstq.out (k + 1) (by omega) (by omega) 39
        refine wpAnyH_ready (by kernel_rfl) (by simp) (readyRun 1 11 46 (.slice AJ (k + 1) cAJ) w8 rfl rfl (by rfl) (exec_append _ _ _ _ rfl _ _ _ rfl rfl hap) ⟨hp4.grown hgr (nAI_p4.ob _ _), hp5.grown hgr (nAI_p5.ob _ _), hp10.grown hgr (nAI_p10.ob _ _), Own.belowG hW (Nat.le_trans hB0 hW.size) hAI.from_ hgr⟩ (fun _ => ?_) AllReadyH.nil)
        simp only [List.set_cons_zero, List.set_cons_succ]
        have nAJ_p4 := hof p4 nAI_p4 hp4.lt
        replace hp4 := hp4.grown hgr (nAI_p4.ob _ _)
        have nAJ_p5 := hof p5 nAI_p5 hp5.lt
        replace hp5 := hp5.grown hgr (nAI_p5.ob _ _)
        have nAJ_p10 := hof p10 nAI_p10 hp10.lt
        replace hp10 := hp10.grown hgr (nAI_p10.ob _ _)
        have nAJ_q1 := hof q1 nAI_q1 hq1.lt
        replace hq1 := hq1.grown hgr (nAI_q1.ob _ _)
        replace hW := Own.belowG hW (Nat.le_trans hB0 hW.size) hAI.from_ hgr
        clear hAI hgr hof hap
        refine takeH 0 12 9 (.slice (AJ) (k + 1) cAJ) rfl rfl (by kernel_rfl) (by kernel_rfl) (by kernel_rfl) (fun _ _ _ h => h) (Or.inl ⟨by rfl, fun w _ => by go_simp⟩) ⟨hp4, hp5, hp10, hW⟩ ?_
        simp only [List.set_cons_zero, List.set_cons_succ]
        refine wpAnyH_done (by kernel_rfl) ?_ _
        go_wp2
        go_roundw
        case rel => exact ⟨k + 1, AJ, cAJ, sbl key s c q, by omega, by go_num, rfl, hAJ, hp4, hp5, hsl, hsb, .inr (by rw [show f + (k + 1) - 1 = f + k by omega, heq.out, hqq.out]), hp10, nAJ_p4, nAJ_p5, nAJ_p10, hW⟩
        case measure => simp [intOf]; omega
      ·
        have hkI : ¬ (k : Int) = 0 := by omega
        have hk0q := Lib.hid hk0
        by_cases hr0 : r = 0
        ·
          have hrq0 : Hid ((r : Int) = 0) := Lib.hid (by omega)
          clear hr0
          go_upto_region 6 with fail
          refine wl_lit ?_
          refine runL 19 (.int .i64 (f : Int)) rfl (by rfl) (by go_simp) ?_
          simp only [List.set_cons_zero, List.set_cons_succ]
          refine runL 20 (.int .i64 (k : Int)) rfl (by rfl) (by go_simp) ?_
          simp only [List.set_cons_zero, List.set_cons_succ]
          refine runL 21 (.int .i64 (e : Int)) rfl (by rfl) (by go_simp) ?_
          simp only [List.set_cons_zero, List.set_cons_succ]
          refine runL 12 (.int .i64 (e : Int)) rfl (by rfl) (by go_simp) ?_
          simp only [List.set_cons_zero, List.set_cons_succ]
          refine nilL ?_
          go_upto_region 7 with fail
          refine wl_lit ?_
          refine runL 22 (.int .i64 (k : Int)) rfl (by rfl) (by go_simp) ?_
          simp only [List.set_cons_zero, List.set_cons_succ]
          refine runL 23 (.bool false) rfl (by rfl) (by go_simp) ?_
          simp only [List.set_cons_zero, List.set_cons_succ]
          refine runL 24 (.bool false) rfl (by rfl) (by go_simp) ?_
          simp only [List.set_cons_zero, List.set_cons_succ]
          refine runL 25 (.int .i64 (e : Int)) rfl (by rfl) (by go_simp) ?_
          simp only [List.set_cons_zero, List.set_cons_succ]
          refine runL 26 (.int .i64 (r : Int)) rfl (by rfl) (by go_simp) ?_
          simp only [List.set_cons_zero, List.set_cons_succ]
          refine runL 27 (.bool true) rfl (by rfl) (by have hrI0 := hrq0.out; go_simp) ?_
          simp only [List.set_cons_zero, List.set_cons_succ]
          refine runL 28 (.bool true) rfl (by rfl) (by go_simp) ?_
          simp only [List.set_cons_zero, List.set_cons_succ]
          refine nilL ?_
          go_upto_region 8 with fail
          refine wl_lit ?_
          refine runL 29 (.agg (va .u8 (key))) rfl (by rfl) (exec_row 22 (.tmp 4) rfl p4 rfl 22 (va .u8 (key)) _ hp4 (by exact Try.underlying22) rfl (sz__16_uint8 _ (hkl))) ?_
          simp only [List.set_cons_zero, List.set_cons_succ]
          refine runL 30 (.agg (noV s c)) rfl (by rfl) (exec_row 26 (.tmp 5) rfl p5 rfl 26 (noV s c) _ hp5 (by exact Try.underlying26) rfl (noV_sz _ _)) ?_
          simp only [List.set_cons_zero, List.set_cons_succ]
          refine runL 31 (.int .i64 (e : Int)) rfl (by rfl) (by go_simp) ?_
          simp only [List.set_cons_zero, List.set_cons_succ]
          refine runL 32 (.int .i64 (q : Int)) rfl (by rfl) (by go_simp) ?_
          simp only [List.set_cons_zero, List.set_cons_succ]
          refine runL 33 (.int .u32 (q : Int)) rfl (by rfl) (by go_simp) ?_
          simp only [List.set_cons_zero, List.set_cons_succ]
          refine callL 34 rfl (by rfl) (fun K hK => wp_callF 10 #[.agg (va .u8 (key)), .agg (noV s c), .int .u32 (q : Int)] (by go_simp) (rsblock_any key s c q hkl hkb hs hc hqb _) ?_)
          rintro e w9 ⟨rfl, bx⟩
          replace hp4 := hp4.below bx hp4.lt
          replace hp5 := hp5.below bx hp5.lt
          replace hp10 := hp10.below bx hp10.lt
          replace hAI := hAI.below bx
          replace hW := hW.trans (bx.mono (Nat.le_trans hB0 hW.size))
          clear bx
          refine ⟨_, rfl, hK.out _ _ ?_⟩
          clear hK K
          simp only [List.set_cons_zero, List.set_cons_succ]
          refine runSL (w9.setRow p10 (va .u8 (sbl key s c q))) rfl (by rfl) (exec_storeRow 22 (.tmp 10) (.tmp 34) rfl p10 rfl (va .u8 (sbl key s c q)) rfl 22 (va .u8 (L)) hp10 (sz_eq (sz__16_uint8 _ (hLlq.out)) (sz__16_uint8 _ (hsl))) (sz__16_uint8 _ (hsl)) (va_ones .u8 _)) ?_
          replace hp4 := hp4.rowFar (show p10 ≠ p4 from (by omega)) (va .u8 (sbl key s c q))
          replace hp5 := hp5.rowFar (show p10 ≠ p5 from (by omega)) (va .u8 (sbl key s c q))
          replace hAI := hAI.rowFar nAI_p10 (va .u8 (sbl key s c q))
          replace hp10 := hp10.row (va .u8 (sbl key s c q))
          replace hW := below_setRow hW lw_p10 (va .u8 (sbl key s c q))
          generalize w9.setRow p10 (va .u8 (sbl key s c q)) = w10 at *
          refine nilL ?_
          go_upto_region 9 with fail
          replace hAI := hAI.drew_
          refine wp_region_held_drew (S := fun wr => Blk wr p4 22 (va .u8 (key)) ∧ Blk wr p5 26 (noV s c) ∧ Blk wr p10 22 (va .u8 (sbl key s c q)) ∧ Below B0 w wr) (by kernel_rfl) ⟨hp4.drew, hp5.drew, hp10.drew, below_drewN hW 1⟩ (fun hH => ?_)
          clear hp4 hp5 hp10 hW
          obtain ⟨hp4, hp5, hp10, hW⟩ := hH
          generalize w10.drew = w11 at *
          refine takeH 12 0 35 (.slice (AI) k cI) rfl rfl (by kernel_rfl) (by kernel_rfl) (by kernel_rfl) (fun _ _ _ h => h) (Or.inl ⟨by rfl, fun w _ => by go_simp⟩) ⟨hp4, hp5, hp10, hW⟩ ?_
          simp only [List.set_cons_zero, List.set_cons_succ]
          refine takeH 11 1 36 (.slice (some ad) n cc) rfl rfl (by kernel_rfl) (by kernel_rfl) (by kernel_rfl) (fun _ _ _ h => h) (Or.inl ⟨by rfl, fun w _ => by go_simp⟩) ⟨hp4, hp5, hp10, hW⟩ ?_
          simp only [List.set_cons_zero, List.set_cons_succ]
          refine takeH 10 2 37 (.int .i64 (k : Int)) rfl rfl (by kernel_rfl) (by kernel_rfl) (by kernel_rfl) (fun _ _ _ h => h) (Or.inl ⟨by rfl, fun w _ => by go_simp⟩) ⟨hp4, hp5, hp10, hW⟩ ?_
          simp only [List.set_cons_zero, List.set_cons_succ]
          refine takeH 9 3 38 (.pointer (some (ad.add k))) rfl rfl (by kernel_rfl) (by kernel_rfl) (by kernel_rfl) (fun _ _ _ h => h) (Or.inl ⟨by rfl, fun w _ => by go_simp⟩) ⟨hp4, hp5, hp10, hW⟩ ?_
          simp only [List.set_cons_zero, List.set_cons_succ]
          refine takeH 8 4 39 (.int .u8 ((x : Nat) : Int)) rfl rfl (by kernel_rfl) (by kernel_rfl) (by kernel_rfl) (fun _ _ _ h => h) (Or.inl ⟨by rfl, fun _ h => exec_cellA 5 (.tmp 38) rfl (ad.add k) rfl (.int .u8 ((x : Nat) : Int)) _ Try.underlying5 rfl (hcx.out _ h.2.2.2)⟩) ⟨hp4, hp5, hp10, hW⟩ ?_
          simp only [List.set_cons_zero, List.set_cons_succ]
          refine takeH 7 5 40 (.int .i64 (e : Int)) rfl rfl (by kernel_rfl) (by kernel_rfl) (by kernel_rfl) (fun _ _ _ h => h) (Or.inl ⟨by rfl, fun w _ => by go_simp⟩) ⟨hp4, hp5, hp10, hW⟩ ?_
          simp only [List.set_cons_zero, List.set_cons_succ]
          refine takeH 6 6 41 (.int .i64 (r : Int)) rfl rfl (by kernel_rfl) (by kernel_rfl) (by kernel_rfl) (fun _ _ _ h => h) (Or.inl ⟨by rfl, fun w _ => by go_simp⟩) ⟨hp4, hp5, hp10, hW⟩ ?_
          simp only [List.set_cons_zero, List.set_cons_succ]
          refine takeH 5 7 42 (.pointer (some ⟨p10, r, none⟩)) rfl rfl (by kernel_rfl) (by kernel_rfl) (by kernel_rfl) (fun _ _ _ h => h) (Or.inl ⟨by rfl, fun w _ => by go_simp⟩) ⟨hp4, hp5, hp10, hW⟩ ?_
          simp only [List.set_cons_zero, List.set_cons_succ]
          refine takeH 4 8 43 (.int .u8 ((y : Nat) : Int)) rfl rfl (by kernel_rfl) (by kernel_rfl) (by kernel_rfl) (fun _ _ _ h => h) (Or.inl ⟨by rfl, fun _ h => exec_cell 5 (.tmp 42) rfl p10 r rfl (.int .u8 ((y : Nat) : Int)) _ Try.underlying5 rfl (by rw [← hyq.out]; exact h.2.2.1.num (by rw [hsl]; exact hr16))⟩) ⟨hp4, hp5, hp10, hW⟩ ?_
          simp only [List.set_cons_zero, List.set_cons_succ]
          refine takeH 3 9 44 (.int .u8 ((x ^^^ y : Nat) : Int)) rfl rfl (by kernel_rfl) (by kernel_rfl) (by kernel_rfl) (fun _ _ _ h => h) (Or.inl ⟨by rfl, fun w _ => by go_simp⟩) ⟨hp4, hp5, hp10, hW⟩ ?_
          simp only [List.set_cons_zero, List.set_cons_succ]
          refine wpAnyH_ready (by kernel_rfl) (by simp) (readyRun 2 10 45 (.slice (some ⟨w11.heap.size, 0, none⟩) 1 1) (w11.alloc (.cells (va .u8 ([(x ^^^ y)])) 5)) rfl rfl (by rfl) (exec_bslice 39 1 _ rfl _ (by exact bs_b1 (x ^^^ y) _)) ⟨hp4.alloc _, hp5.alloc _, hp10.alloc _, hW.alloc (Nat.le_trans hB0 hW.size) _⟩ (fun _ => ?_) AllReadyH.nil)
          simp only [List.set_cons_zero, List.set_cons_succ]
          have lp4_q2 := hp4.lt
          have lp5_q2 := hp5.lt
          have lp10_q2 := hp10.lt
          have nAI_q2 := hAI.new_off
          have lw_q2 := Nat.le_trans hB0 hW.size
          have hq2 : Blk (w11.alloc (.cells (va .u8 ([(x ^^^ y)])) 5)) w11.heap.size 5 (va .u8 ([(x ^^^ y)])) := Blk.new _ _ _
          replace hp4 := hp4.alloc (.cells (va .u8 ([(x ^^^ y)])) 5)
          replace hp5 := hp5.alloc (.cells (va .u8 ([(x ^^^ y)])) 5)
          replace hp10 := hp10.alloc (.cells (va .u8 ([(x ^^^ y)])) 5)
          replace hAI := hAI.alloc (.cells (va .u8 ([(x ^^^ y)])) 5)
          replace hW := hW.alloc (Nat.le_trans hB0 hW.size) (.cells (va .u8 ([(x ^^^ y)])) 5)
          generalize w11.alloc (.cells (va .u8 ([(x ^^^ y)])) 5) = w12 at *
          generalize w11.heap.size = q2 at hq2 lw_q2 lp4_q2 lp5_q2 lp10_q2 nAI_q2 ⊢
          obtain ⟨AJ, cAJ, w13, hap, hAJ, hcAJ, hgr, hof⟩ := own_append hAI (some ⟨q2, 0, none⟩) 1 1 _ ([(x ^^^ y)]) (hq2.readsAll (Nat.lt_succ_self _) (rfl)) (Nat.le_trans hB0 hW.size) ((kxor key s c f d).take (k + 1)) hstq.out (k + 1) (by omega) (by omega) 39
          refine wpAnyH_ready (by kernel_rfl) (by simp) (readyRun 1 11 46 (.slice AJ (k + 1) cAJ) w13 rfl rfl (by rfl) (exec_append _ _ _ _ rfl _ _ _ rfl rfl hap) ⟨hp4.grown hgr (nAI_p4.ob _ _), hp5.grown hgr (nAI_p5.ob _ _), hp10.grown hgr (nAI_p10.ob _ _), Own.belowG hW (Nat.le_trans hB0 hW.size) hAI.from_ hgr⟩ (fun _ => ?_) AllReadyH.nil)
          simp only [List.set_cons_zero, List.set_cons_succ]
          have nAJ_p4 := hof p4 nAI_p4 hp4.lt
          replace hp4 := hp4.grown hgr (nAI_p4.ob _ _)
          have nAJ_p5 := hof p5 nAI_p5 hp5.lt
          replace hp5 := hp5.grown hgr (nAI_p5.ob _ _)
          have nAJ_p10 := hof p10 nAI_p10 hp10.lt
          replace hp10 := hp10.grown hgr (nAI_p10.ob _ _)
          have nAJ_q2 := hof q2 nAI_q2 hq2.lt
          replace hq2 := hq2.grown hgr (nAI_q2.ob _ _)
          replace hW := Own.belowG hW (Nat.le_trans hB0 hW.size) hAI.from_ hgr
          clear hAI hgr hof hap
          refine takeH 0 12 9 (.slice (AJ) (k + 1) cAJ) rfl rfl (by kernel_rfl) (by kernel_rfl) (by kernel_rfl) (fun _ _ _ h => h) (Or.inl ⟨by rfl, fun w _ => by go_simp⟩) ⟨hp4, hp5, hp10, hW⟩ ?_
          simp only [List.set_cons_zero, List.set_cons_succ]
          refine wpAnyH_done (by kernel_rfl) ?_ _
          go_wp2
          go_roundw
          case rel => exact ⟨k + 1, AJ, cAJ, sbl key s c q, by omega, by go_num, rfl, hAJ, hp4, hp5, hsl, hsb, .inr (by rw [show f + (k + 1) - 1 = f + k by omega, heq.out, hqq.out]), hp10, nAJ_p4, nAJ_p5, nAJ_p10, hW⟩
          case measure => simp [intOf]; omega
        ·
          have hrI0 : ¬ (r : Int) = 0 := by omega
          have hLs : L = sbl key s c q := by
            rcases hLq.out with h | h
            · exact absurd h hk0q.out
            · rw [h, show (f + k - 1) / 16 = q by have h1 := hrq.out; have h2 := hqq.out; have h3 := heq.out; have h4 := hk0q.out; omega]
          subst hLs
          go_upto_region 6 with fail
          refine wl_lit ?_
          refine runL 19 (.int .i64 (f : Int)) rfl (by rfl) (by go_simp) ?_
          simp only [List.set_cons_zero, List.set_cons_succ]
          refine runL 20 (.int .i64 (k : Int)) rfl (by rfl) (by go_simp) ?_
          simp only [List.set_cons_zero, List.set_cons_succ]
          refine runL 21 (.int .i64 (e : Int)) rfl (by rfl) (by go_simp) ?_
          simp only [List.set_cons_zero, List.set_cons_succ]
          refine runL 12 (.int .i64 (e : Int)) rfl (by rfl) (by go_simp) ?_
          simp only [List.set_cons_zero, List.set_cons_succ]
          refine nilL ?_
          go_upto_region 7 with fail
          refine wl_lit ?_
          refine runL 22 (.int .i64 (k : Int)) rfl (by rfl) (by go_simp) ?_
          simp only [List.set_cons_zero, List.set_cons_succ]
          refine runL 23 (.bool false) rfl (by rfl) (by go_simp) ?_
          simp only [List.set_cons_zero, List.set_cons_succ]
          refine runL 24 (.bool false) rfl (by rfl) (by go_simp) ?_
          simp only [List.set_cons_zero, List.set_cons_succ]
          refine runL 25 (.int .i64 (e : Int)) rfl (by rfl) (by go_simp) ?_
          simp only [List.set_cons_zero, List.set_cons_succ]
          refine runL 26 (.int .i64 (r : Int)) rfl (by rfl) (by go_simp) ?_
          simp only [List.set_cons_zero, List.set_cons_succ]
          refine runL 27 (.bool false) rfl (by rfl) (by go_simp) ?_
          simp only [List.set_cons_zero, List.set_cons_succ]
          refine runL 28 (.bool false) rfl (by rfl) (by go_simp) ?_
          simp only [List.set_cons_zero, List.set_cons_succ]
          refine nilL ?_
          go_upto_region 9 with fail
          replace hAI := hAI.drew_
          refine wp_region_held_drew (S := fun wr => Blk wr p4 22 (va .u8 (key)) ∧ Blk wr p5 26 (noV s c) ∧ Blk wr p10 22 (va .u8 (sbl key s c q)) ∧ Below B0 w wr) (by kernel_rfl) ⟨hp4.drew, hp5.drew, hp10.drew, below_drewN hW 1⟩ (fun hH => ?_)
          clear hp4 hp5 hp10 hW
          obtain ⟨hp4, hp5, hp10, hW⟩ := hH
          generalize wr.drew = w14 at *
          refine takeH 12 0 35 (.slice (AI) k cI) rfl rfl (by kernel_rfl) (by kernel_rfl) (by kernel_rfl) (fun _ _ _ h => h) (Or.inl ⟨by rfl, fun w _ => by go_simp⟩) ⟨hp4, hp5, hp10, hW⟩ ?_
          simp only [List.set_cons_zero, List.set_cons_succ]
          refine takeH 11 1 36 (.slice (some ad) n cc) rfl rfl (by kernel_rfl) (by kernel_rfl) (by kernel_rfl) (fun _ _ _ h => h) (Or.inl ⟨by rfl, fun w _ => by go_simp⟩) ⟨hp4, hp5, hp10, hW⟩ ?_
          simp only [List.set_cons_zero, List.set_cons_succ]
          refine takeH 10 2 37 (.int .i64 (k : Int)) rfl rfl (by kernel_rfl) (by kernel_rfl) (by kernel_rfl) (fun _ _ _ h => h) (Or.inl ⟨by rfl, fun w _ => by go_simp⟩) ⟨hp4, hp5, hp10, hW⟩ ?_
          simp only [List.set_cons_zero, List.set_cons_succ]
          refine takeH 9 3 38 (.pointer (some (ad.add k))) rfl rfl (by kernel_rfl) (by kernel_rfl) (by kernel_rfl) (fun _ _ _ h => h) (Or.inl ⟨by rfl, fun w _ => by go_simp⟩) ⟨hp4, hp5, hp10, hW⟩ ?_
          simp only [List.set_cons_zero, List.set_cons_succ]
          refine takeH 8 4 39 (.int .u8 ((x : Nat) : Int)) rfl rfl (by kernel_rfl) (by kernel_rfl) (by kernel_rfl) (fun _ _ _ h => h) (Or.inl ⟨by rfl, fun _ h => exec_cellA 5 (.tmp 38) rfl (ad.add k) rfl (.int .u8 ((x : Nat) : Int)) _ Try.underlying5 rfl (hcx.out _ h.2.2.2)⟩) ⟨hp4, hp5, hp10, hW⟩ ?_
          simp only [List.set_cons_zero, List.set_cons_succ]
          refine takeH 7 5 40 (.int .i64 (e : Int)) rfl rfl (by kernel_rfl) (by kernel_rfl) (by kernel_rfl) (fun _ _ _ h => h) (Or.inl ⟨by rfl, fun w _ => by go_simp⟩) ⟨hp4, hp5, hp10, hW⟩ ?_
          simp only [List.set_cons_zero, List.set_cons_succ]
          refine takeH 6 6 41 (.int .i64 (r : Int)) rfl rfl (by kernel_rfl) (by kernel_rfl) (by kernel_rfl) (fun _ _ _ h => h) (Or.inl ⟨by rfl, fun w _ => by go_simp⟩) ⟨hp4, hp5, hp10, hW⟩ ?_
          simp only [List.set_cons_zero, List.set_cons_succ]
          refine takeH 5 7 42 (.pointer (some ⟨p10, r, none⟩)) rfl rfl (by kernel_rfl) (by kernel_rfl) (by kernel_rfl) (fun _ _ _ h => h) (Or.inl ⟨by rfl, fun w _ => by go_simp⟩) ⟨hp4, hp5, hp10, hW⟩ ?_
          simp only [List.set_cons_zero, List.set_cons_succ]
          refine takeH 4 8 43 (.int .u8 ((y : Nat) : Int)) rfl rfl (by kernel_rfl) (by kernel_rfl) (by kernel_rfl) (fun _ _ _ h => h) (Or.inl ⟨by rfl, fun _ h => exec_cell 5 (.tmp 42) rfl p10 r rfl (.int .u8 ((y : Nat) : Int)) _ Try.underlying5 rfl (by rw [← hyq.out]; exact h.2.2.1.num (by rw [hsl]; exact hr16))⟩) ⟨hp4, hp5, hp10, hW⟩ ?_
          simp only [List.set_cons_zero, List.set_cons_succ]
          refine takeH 3 9 44 (.int .u8 ((x ^^^ y : Nat) : Int)) rfl rfl (by kernel_rfl) (by kernel_rfl) (by kernel_rfl) (fun _ _ _ h => h) (Or.inl ⟨by rfl, fun w _ => by go_simp⟩) ⟨hp4, hp5, hp10, hW⟩ ?_
          simp only [List.set_cons_zero, List.set_cons_succ]
          refine wpAnyH_ready (by kernel_rfl) (by simp) (readyRun 2 10 45 (.slice (some ⟨w14.heap.size, 0, none⟩) 1 1) (w14.alloc (.cells (va .u8 ([(x ^^^ y)])) 5)) rfl rfl (by rfl) (exec_bslice 39 1 _ rfl _ (by exact bs_b1 (x ^^^ y) _)) ⟨hp4.alloc _, hp5.alloc _, hp10.alloc _, hW.alloc (Nat.le_trans hB0 hW.size) _⟩ (fun _ => ?_) AllReadyH.nil)
          simp only [List.set_cons_zero, List.set_cons_succ]
          have lp4_q3 := hp4.lt
          have lp5_q3 := hp5.lt
          have lp10_q3 := hp10.lt
          have nAI_q3 := hAI.new_off
          have lw_q3 := Nat.le_trans hB0 hW.size
          have hq3 : Blk (w14.alloc (.cells (va .u8 ([(x ^^^ y)])) 5)) w14.heap.size 5 (va .u8 ([(x ^^^ y)])) := Blk.new _ _ _
          replace hp4 := hp4.alloc (.cells (va .u8 ([(x ^^^ y)])) 5)
          replace hp5 := hp5.alloc (.cells (va .u8 ([(x ^^^ y)])) 5)
          replace hp10 := hp10.alloc (.cells (va .u8 ([(x ^^^ y)])) 5)
          replace hAI := hAI.alloc (.cells (va .u8 ([(x ^^^ y)])) 5)
          replace hW := hW.alloc (Nat.le_trans hB0 hW.size) (.cells (va .u8 ([(x ^^^ y)])) 5)
          generalize w14.alloc (.cells (va .u8 ([(x ^^^ y)])) 5) = w15 at *
          generalize w14.heap.size = q3 at hq3 lw_q3 lp4_q3 lp5_q3 lp10_q3 nAI_q3 ⊢
          obtain ⟨AJ, cAJ, w16, hap, hAJ, hcAJ, hgr, hof⟩ := own_append hAI (some ⟨q3, 0, none⟩) 1 1 _ ([(x ^^^ y)]) (hq3.readsAll (Nat.lt_succ_self _) (rfl)) (Nat.le_trans hB0 hW.size) ((kxor key s c f d).take (k + 1)) hstq.out (k + 1) (by omega) (by omega) 39
          refine wpAnyH_ready (by kernel_rfl) (by simp) (readyRun 1 11 46 (.slice AJ (k + 1) cAJ) w16 rfl rfl (by rfl) (exec_append _ _ _ _ rfl _ _ _ rfl rfl hap) ⟨hp4.grown hgr (nAI_p4.ob _ _), hp5.grown hgr (nAI_p5.ob _ _), hp10.grown hgr (nAI_p10.ob _ _), Own.belowG hW (Nat.le_trans hB0 hW.size) hAI.from_ hgr⟩ (fun _ => ?_) AllReadyH.nil)
          simp only [List.set_cons_zero, List.set_cons_succ]
          have nAJ_p4 := hof p4 nAI_p4 hp4.lt
          replace hp4 := hp4.grown hgr (nAI_p4.ob _ _)
          have nAJ_p5 := hof p5 nAI_p5 hp5.lt
          replace hp5 := hp5.grown hgr (nAI_p5.ob _ _)
          have nAJ_p10 := hof p10 nAI_p10 hp10.lt
          replace hp10 := hp10.grown hgr (nAI_p10.ob _ _)
          have nAJ_q3 := hof q3 nAI_q3 hq3.lt
          replace hq3 := hq3.grown hgr (nAI_q3.ob _ _)
          replace hW := Own.belowG hW (Nat.le_trans hB0 hW.size) hAI.from_ hgr
          clear hAI hgr hof hap
          refine takeH 0 12 9 (.slice (AJ) (k + 1) cAJ) rfl rfl (by kernel_rfl) (by kernel_rfl) (by kernel_rfl) (fun _ _ _ h => h) (Or.inl ⟨by rfl, fun w _ => by go_simp⟩) ⟨hp4, hp5, hp10, hW⟩ ?_
          simp only [List.set_cons_zero, List.set_cons_succ]
          refine wpAnyH_done (by kernel_rfl) ?_ _
          go_wp2
          go_roundw
          case rel => exact ⟨k + 1, AJ, cAJ, sbl key s c q, by omega, by go_num, rfl, hAJ, hp4, hp5, hsl, hsb, .inr (by rw [show f + (k + 1) - 1 = f + k by omega, heq.out, hqq.out]), hp10, nAJ_p4, nAJ_p5, nAJ_p10, hW⟩
          case measure => simp [intOf]; omega
    ·
      obtain rfl : n = k := by omega
      rw [List.take_of_length_le (by rw [kxor_len]; omega)] at hAI
      clear hp4 hp5 hp10
      go_upto_region 10 with fail
      refine wl_lit ?_
      refine runL 47 (.slice (AI) n cI) rfl (by rfl) (by go_simp) ?_
      simp only [List.set_cons_zero, List.set_cons_succ]
      refine runL 8 (.slice (AI) n cI) rfl (by rfl) (by go_simp) ?_
      simp only [List.set_cons_zero, List.set_cons_succ]
      refine nilL ?_
      go_wp2_with fail
      go_ret
      exact ⟨_, _, rfl, hAI, hW⟩
end Go.Proofs.Ytpcdckhabaoieaa
