/-
  The walk of caissonref06.Expand.
-/
import Derived.Test.YtpcdckhabaoieaaZD
import Derived.Test.YtpcdckhabaoieaaRes
import Derived.BigRegion
import Derived.Deep.LoopGhost
import Derived.Deep.DeepCutAuto
namespace Go.Proofs.Ytpcdckhabaoieaa
open Go.RowKit

/-- the blocks of the reference's Expand -/
structure RxMem (G X : Nat) (key : List Nat) (n : Nat) (w wr : World) : Prop where
  k : Blk wr G 22 (va .u8 key)
  r : Blk wr (G + 1) 75 (va .u8 z176)
  o : Blk wr (G + 1 + 1) 75 (va .u8 (Ci.upd (Ci.exF key) z176 n))
  t : Blk wr X 82 (va .u8 subs)
  x : G + 1 + 1 < X
  bel : Below G w wr
theorem RxMem.below {G X : Nat} {key : List Nat} {n : Nat} {w wr w2 : World} (h : RxMem G X key n w wr) (b : Below wr.heap.size wr w2) : RxMem G X key n w w2 :=
  ⟨h.k.below b h.k.lt, h.r.below b h.r.lt, h.o.below b h.o.lt, h.t.below b h.t.lt, h.x, h.bel.trans (b.mono (by have := h.r.lt; omega))⟩
theorem RxMem.far {G X : Nat} {key : List Nat} {n N i : Nat} {w wr : World} {v : Value} (h : RxMem G X key n w wr) (hN : X < N) : RxMem G X key n w (wr.setCell ⟨N, i, none⟩ v) := by
  have := h.x
  exact ⟨h.k.far (by simp; omega) _, h.r.far (by simp; omega) _, h.o.far (by simp; omega) _, h.t.far (by simp; omega) _, h.x, h.bel.setCell (by simp; omega) _⟩
theorem RxMem.drew_ {G X : Nat} {key : List Nat} {n : Nat} {w wr : World} (h : RxMem G X key n w wr) : RxMem G X key n w wr.drew := ⟨h.k.drew, h.r.drew, h.o.drew, h.t.drew, h.x, below_drewN h.bel 1⟩
theorem RxMem.put {G X : Nat} {key : List Nat} {n v : Nat} {w wr : World} (h : RxMem G X key n w wr) (hv : Ci.exF key n = v) : RxMem G X key (n + 1) w (wr.setCell ⟨G + 1 + 1, n, none⟩ (.int .u8 (v : Int))) := by
  have := h.x
  refine ⟨h.k.far (by simp <;> omega) _, h.r.far (by simp <;> omega) _, ?_, h.t.far (by simp; omega) _, h.x, h.bel.setCell (by simp; omega) _⟩
  rw [← Ci.upd_set, hv]
  exact h.o.setNum n v
theorem table_out {w : World} {X : Nat} (h : Blk w X 82 (va .u8 subs)) (x : Nat) (hx : x < 256) : w.cell? ⟨X, x, none⟩ = some (.int .u8 ((Gf.sub x : Nat) : Int)) := by
  have e := h.num (i := x) (by rw [subs_len]; exact hx)
  have g : subs.getD x 0 = Gf.sub x := by simp [subs, List.getD_eq_getElem?_getD, hx]
  rw [g] at e
  exact e
theorem set4 {l : List Nat} (h : l.length = 4) {a b c d : Nat} : ((((va .u8 l).setIfInBounds 0 (.int .u8 (a : Int))).setIfInBounds 1 (.int .u8 (b : Int))).setIfInBounds 2 (.int .u8 (c : Int))).setIfInBounds 3 (.int .u8 (d : Int)) = va .u8 [a, b, c, d] := by
  rcases l with _ | ⟨x, _ | ⟨y, _ | ⟨z, _ | ⟨u, _ | ⟨v, l⟩⟩⟩⟩⟩ <;> simp at h
  rfl
theorem zeroTab (w : World) : (zeroValue 82).run Try.prog w = .ok (.agg (va .u8 z256)) w := by kernel_rfl

set_option maxRecDepth 8000 in
set_option maxHeartbeats 2000000 in
theorem rexpand_any (key : List Nat) (hkl : key.length = 16) (hk : Ci.Byt key) (w : World) :
    Calls Try.prog 38 #[.agg (va .u8 key)] w fun e w' => e = .returned (.agg (va .u8 (Ci.exL key))) ∧ Below w.heap.size w w' := by
  have hzv := zeroWords
  have hzt := zeroTab
  have hz4 := zero4
  go_enter Try.func38, Try.ntmps38
  go_wp2_with fail
  refine (table_any _).mono ?_
  obtain ⟨S, hS⟩ : ∃ S, subs = S := ⟨_, rfl⟩
  have hSl : S.length = 256 := by rw [← hS]; exact subs_len
  have hvs : (va .u8 S).size = 256 := by rw [va_size, hSl]
  rw [hS]
  rintro e w1 ⟨rfl, b1⟩
  have hk1 : Blk w1 w.heap.size 22 (va .u8 key) := Blk.below (((Blk.new _ _ _).alloc _).alloc _) b1 (by simp <;> omega)
  have hr1 : Blk w1 (w.heap.size + 1) 75 (va .u8 z176) := Blk.below ((Blk.newAt (by simp)).alloc _) b1 (by simp <;> omega)
  have ho1 : Blk w1 (w.heap.size + 1 + 1) 75 (va .u8 z176) := Blk.below (Blk.newAt (by simp)) b1 (by simp <;> omega)
  have hx1 := b1.size
  simp only [World.size_alloc] at hx1
  have hb1 : Below w.heap.size w w1 := (((((Below.refl _ _).alloc (Nat.le_refl _) _).alloc (by simp) _).alloc (by simp <;> omega) _)).trans (b1.mono (by simp <;> omega))
  clear b1
  have hst := run_storeNew (P := Try.prog) w1 82 (va .u8 z256) .u8 S (by rw [va_size, hSl, z256_len])
  have hmem : RxMem w.heap.size w1.heap.size key (4 * 0) w (w1.alloc (.cells (va .u8 S) 82)) := by
    rw [← hS]
    refine ⟨hk1.alloc _, hr1.alloc _, ?_, Blk.new _ _ _, hx1, hb1.alloc hb1.size _⟩
    rw [Ci.upd_zero]
    exact ho1.alloc _
  have hmm := Lib.hid hmem
  have hxh := Lib.hid hx1
  clear hk1 hr1 ho1 hb1 hmem hx1 hS
  go_wp2
  clear hzv hzt
  generalize hX : w1.heap.size = X at *
  generalize w1.alloc (.cells (va .u8 S) 82) = w2 at *
  clear hSl hvs hst
  go_loopw [5, 6] (fun f s wr => ∃ i : Nat, i ≤ 44 ∧ s = .int .i64 (i : Int) ∧ f = .int .u8 ((Gf.pw 2 ((i - 1) / 4) : Nat) : Int) ∧ RxMem w.heap.size X key (4 * i) w wr) (fun _ s _ => 44 - (intOf s).toNat)
  case atStart => exact ⟨0, by omega, rfl, rfl, hmm.out⟩
  case round =>
    clear hmm
    obtain ⟨i, hi44, rfl, rfl, hmem⟩ := hrel
    by_cases hli : i < 44
    · have hliI : (i : Int) < 44 := by omega
      by_cases hi4 : i < 4
      · have hi4I : (i : Int) < 4 := by omega
        have hmm := Lib.hid hmem
        clear hmem
        go_wp2
        go_loopw [7] (fun s wr => ∃ k : Nat, k ≤ 4 ∧ s = .int .i64 (k : Int) ∧ RxMem w.heap.size X key (4 * i + k) w wr) (fun s _ => 4 - (intOf s).toNat)
        case atStart => exact ⟨0, by omega, rfl, hmm.out⟩
        case round =>
          clear hmm
          obtain ⟨k, hk4, rfl, hmem⟩ := hrel
          by_cases hlk : k < 4
          · have hlkI : (k : Int) < 4 := by omega
            obtain ⟨n, hn⟩ : ∃ n, 4 * i + k = n := ⟨_, rfl⟩
            rw [hn] at hmem
            have hnI : 4 * (i : Int) + (k : Int) = (n : Int) := by omega
            have hn16 : (n : Int) < 16 := by omega
            have w4 : IntKind.i64.wrap (4 * (i : Int)) = 4 * (i : Int) := IntWalk.i64_in _ (by omega)
            have w5 : IntKind.i64.wrap (n : Int) = (n : Int) := IntWalk.i64_in _ (by omega)
            have hc1 := hmem.k.num (i := n) (by omega)
            have e2 : n = i * 4 + k := by omega
            have hc0 := hmem.o.num (i := n) (by rw [Ci.upd_len, z176_len]; omega)
            have hf0 := hmem.o.frozen n
            have hv := Ci.word_key (key := key) i k hi4 hlk
            rw [hn] at hv
            generalize key.getD n 0 = x0 at *
            generalize (Ci.upd (Ci.exF key) z176 n).getD n 0 = y0 at *
            have hput := Lib.hid (hmem.drew_.put hv)
            rw [e2] at hc0 hf0 hput
            have hnh := Lib.hid e2
            clear hmem hv e2 hn
            go_wp2
            refine wp_region_still_tail 10 (by kernel_rfl) (by kernel_rfl) ?_
            simp only [List.take_succ_cons, List.take_zero, List.drop_succ_cons, List.drop_zero]
            change wpStill _ _ wr.drew _ _ _
            iterate 10 still_step
            refine wpStill_nil ?_
            change wpList _ _ _ _ _ wr.drew
            go_wp2
            go_roundw
            case rel => exact ⟨k + 1, by omega, by go_num, by rw [show 4 * i + (k + 1) = i * 4 + k + 1 from by omega]; exact hput.out⟩
            case measure => simp [intOf]; omega
          · obtain rfl : k = 4 := by omega
            have hmm := Lib.hid hmem
            clear hmem
            go_wp2
            go_roundw
            case rel => exact ⟨i + 1, by omega, by go_num, by rw [show (i + 1 - 1) / 4 = (i - 1) / 4 from by omega], by rw [show 4 * (i + 1) = 4 * i + 4 from by omega]; exact hmm.out⟩
            case measure => simp [intOf]; omega
      · have hi4I : ¬ (i : Int) < 4 := by omega
        obtain ⟨p, hp⟩ : ∃ p, i - 1 = p := ⟨_, rfl⟩
        have hpI : (i : Int) - 1 = (p : Int) := by omega
        have hpw : IntKind.i64.wrap (p : Int) = (p : Int) := IntWalk.i64_in _ (by omega)
        have hp44 : (p : Int) < 44 := by omega
        have hrl := hmem.o.part (p * 4) 4
        rw [← hp, Ci.pvL_part key z176 (4 * i) i (by omega) (Nat.le_refl _) (by rw [z176_len]; omega), hp] at hrl
        have hlx : (Ci.pvL key i).length = 4 := rfl
        have hb := Ci.pv_lt hk i
        have hg0 : (Ci.pvL key i).getD 0 0 = Ci.pv key i 0 := rfl
        have hg1 : (Ci.pvL key i).getD 1 0 = Ci.pv key i 1 := rfl
        have hg2 : (Ci.pvL key i).getD 2 0 = Ci.pv key i 2 := rfl
        have hg3 : (Ci.pvL key i).getD 3 0 = Ci.pv key i 3 := rfl
        obtain ⟨lst, hle⟩ : ∃ lst, Ci.pvL key i = lst := ⟨_, rfl⟩
        rw [hle] at hrl hlx hg0 hg1 hg2 hg3
        have hnl : (nv .u8 lst).length = 4 := by rw [nv_len, hlx]
        have hst := run_storeNew (P := Try.prog) wr 63 (va .u8 z4) .u8 lst (by rw [va_size, hlx, z4_len])
        have hst2 : (storeCells ⟨wr.heap.size, 0, none⟩ (nv .u8 lst)).run Try.prog (wr.alloc (.cells (va .u8 z4) 63)) = .ok () (wr.alloc (.cells (va .u8 lst) 63)) := by
          have : (va .u8 lst).toList = nv .u8 lst := by simp [va]
          rw [← this]; exact hst
        have hY : X < wr.heap.size := hmem.t.lt
        have hrlh := Lib.hid hrl
        have hN : Blk (wr.alloc (.cells (va .u8 lst) 63)) wr.heap.size 63 (va .u8 lst) := Blk.new _ _ _
        have hM : RxMem w.heap.size X key (4 * i) w (wr.alloc (.cells (va .u8 lst) 63)) := hmem.below ((Below.refl _ _).alloc (Nat.le_refl _) _)
        have hNh := Lib.hid hN
        have hMh := Lib.hid hM
        have hleh := Lib.hid hle
        have hbh := Lib.hid hb
        clear hrl hN hM hle hmem hb hst
        go_upto_region 13 with (refine wpList_load_mid rfl 63 (.tmp 33) rfl (w.heap.size + 1 + 1) (p * 4) rfl (nv .u8 lst) _ hrlh.out Try.underlying63 rfl (by rw [hnl]; kernel_rfl) ?_)
        obtain ⟨m, hm⟩ : ∃ m, i % 4 = m := ⟨_, rfl⟩
        have hmI : (i : Int).tmod 4 = (m : Int) := by rw [Int.tmod_eq_emod_of_nonneg (by omega)]; omega
        have hmE : (i : Int) % 4 = (m : Int) := by omega
        go_cut [37] (fun v wx => v = .bool ((m : Int) == 0) ∧ wx = wr.alloc (.cells (va .u8 lst) 63))
        case first =>
          go_wp2
          go_meet
          exact ⟨rfl, rfl⟩
        case rest =>
          obtain ⟨hv37, rfl⟩ := hcut
          have hv37h := Lib.hid hv37
          clear hv37
          obtain ⟨Y, hYe⟩ : ∃ Y, wr.heap.size = Y := ⟨_, rfl⟩
          rw [hYe] at hNh hY hst2
          generalize wr.alloc (.cells (va .u8 lst) 63) = w3 at *
          clear hst2
          rename_i aK
          refine aK _ _ ?_
          clear aK
          rw [hYe]
          go_cut [5] (fun f wx => f = .int .u8 ((Gf.pw 2 ((i + 1 - 1) / 4) : Nat) : Int) ∧ Blk wx Y 63 (va .u8 (Ci.tWord key i)) ∧ RxMem w.heap.size X key (4 * i) w wx)
          case first =>
            by_cases hm0 : m = 0
            · have hmz : ((m : Int) == 0) = true := by rw [hm0]; rfl
              rw [hmz] at hv37h
              obtain rfl := hv37h.out
              have hmi : i % 4 = 0 := by omega
              obtain ⟨x0, hx0⟩ : ∃ x, Ci.pv key i 0 = x := ⟨_, rfl⟩
              obtain ⟨x1, hx1⟩ : ∃ x, Ci.pv key i 1 = x := ⟨_, rfl⟩
              obtain ⟨x2, hx2⟩ : ∃ x, Ci.pv key i 2 = x := ⟨_, rfl⟩
              obtain ⟨x3, hx3⟩ : ∃ x, Ci.pv key i 3 = x := ⟨_, rfl⟩
              have hxl0 := hbh.out 0
              have hxl1 := hbh.out 1
              have hxl2 := hbh.out 2
              have hxl3 := hbh.out 3
              rw [hx0] at hxl0 hg0
              rw [hx1] at hxl1 hg1
              rw [hx2] at hxl2 hg2
              rw [hx3] at hxl3 hg3
              have e0 := hNh.out.num (i := 0) (by omega)
              have e1 := hNh.out.num (i := 1) (by omega)
              have e2 := hNh.out.num (i := 2) (by omega)
              have e3 := hNh.out.num (i := 3) (by omega)
              rw [hg0] at e0
              rw [hg1] at e1
              rw [hg2] at e2
              rw [hg3] at e3
              have t0 := table_out hMh.out.t x0 hxl0
              have t1 := table_out hMh.out.t x1 hxl1
              have t2 := table_out hMh.out.t x2 hxl2
              have t3 := table_out hMh.out.t x3 hxl3
              have f0 := hNh.out.frozen 0
              have f1 := hNh.out.frozen 1
              have f2 := hNh.out.frozen 2
              have f3 := hNh.out.frozen 3
              have hxi0 : (x0 : Int) < 256 := by omega
              have hxi1 : (x1 : Int) < 256 := by omega
              have hxi2 : (x2 : Int) < 256 := by omega
              have hxi3 : (x3 : Int) < 256 := by omega
              have htw : Ci.tWord key i = [Gf.sub x1 ^^^ Gf.pw 2 (p / 4), Gf.sub x2, Gf.sub x3, Gf.sub x0] := by
                unfold Ci.tWord
                rw [if_pos hmi, hx0, hx1, hx2, hx3, hp]
              have hpl : Gf.pw 2 (p / 4) < 256 := Gf.pw_lt 2 _ (by omega)
              have hpn : Gf.gm (Gf.pw 2 (p / 4)) 2 = Gf.pw 2 ((i + 1 - 1) / 4) := by rw [← hp]; exact Ci.pow_next i hmi (by omega)
              have hxor : bits BinOp.xor IntKind.u8 ((Gf.sub x1 : Nat) : Int) ((Gf.pw 2 (p / 4) : Nat) : Int) = ((Gf.sub x1 ^^^ Gf.pw 2 (p / 4) : Nat) : Int) := u8_xor_nat _ _ (Gf.sub_lt _) hpl
              have htwh := Lib.hid htw
              generalize Gf.pw 2 ((i + 1 - 1) / 4) = q2 at *
              generalize Gf.pw 2 (p / 4) = q1 at *
              generalize hc : Gf.sub x1 ^^^ q1 = c1 at *
              generalize Gf.sub x0 = s0 at *
              generalize Gf.sub x1 = s1 at *
              generalize Gf.sub x2 = s2 at *
              generalize Gf.sub x3 = s3 at *
              have hpnh := Lib.hid hpn
              clear hpn htw hc hx0 hx1 hx2 hx3 hg0 hg1 hg2 hg3 hm hmI hmE hm0 hmz hmi hz4
              go_wp2
              refine wp_region_still_tail 19 (by kernel_rfl) (by kernel_rfl) ?_
              simp only [List.take_succ_cons, List.take_zero, List.drop_succ_cons, List.drop_zero]
              change wpStill _ _ w3.drew _ _ _
              iterate 19 still_step
              refine wpStill_nil ?_
              change wpList _ _ _ _ _ w3.drew
              go_wp2_with fail
              refine (rmul_to q1 2 q2 hpl (by omega) hpnh.out _).mono ?_
              rintro e w4 ⟨rfl, b4⟩
              go_wp2
              go_meet
              have hNs := ((((hNh.out.set_ 0 (.int .u8 (c1 : Int))).set_ 1 (.int .u8 (s2 : Int))).set_ 2 (.int .u8 (s3 : Int))).set_ 3 (.int .u8 (s0 : Int))).drew
              rw [set4 hlx] at hNs
              refine ⟨rfl, ?_, ((((hMh.out.far hY).far hY).far hY).far hY).drew_.below b4⟩
              rw [htwh.out]
              exact hNs.below b4 hNs.lt
            · have hmz : ((m : Int) == 0) = false := by rw [beq_eq_false_iff_ne]; omega
              rw [hmz] at hv37h
              obtain rfl := hv37h.out
              go_wp2
              go_meet
              refine ⟨by rw [← Ci.pow_keep i (by omega), hp], ?_, hMh.out⟩
              unfold Ci.tWord
              rw [if_neg (by omega), hleh.out]
              exact hNh.out
          case rest =>
            obtain ⟨rfl, hT, hM2⟩ := hcut
            have hTh := Lib.hid hT
            have hM2h := Lib.hid hM2
            have htl := Ci.tWord_len key i
            have htb := Ci.tWord_byt hk i
            have hnxh := Lib.hid (Ci.word_next key i)
            obtain ⟨T, hTe⟩ : ∃ T, Ci.tWord key i = T := ⟨_, rfl⟩
            rw [hTe] at hTh hnxh htl htb
            have hbyh := Lib.hid (Ci.exF_lt hk)
            obtain ⟨q, hq⟩ : ∃ q, i - 4 = q := ⟨_, rfl⟩
            have hqI : (i : Int) - 4 = (q : Int) := by omega
            have hqw : IntKind.i64.wrap (q : Int) = (q : Int) := IntWalk.i64_in _ (by omega)
            have hq44 : (q : Int) < 44 := by omega
            obtain ⟨d, hd⟩ : ∃ d, Gf.pw 2 ((i + 1 - 1) / 4) = d := ⟨_, rfl⟩
            have hdh := Lib.hid hd
            rw [hd]
            clear hT hM2 hTe hMh hNh hd hv37h hrlh hleh hbh hg0 hg1 hg2 hg3 hlx hnl hpw hp44 hm hmI hmE hpI
            go_wp2
            go_loopw [9] (fun s wx => ∃ k : Nat, k ≤ 4 ∧ s = .int .i64 (k : Int) ∧ Blk wx Y 63 (va .u8 T) ∧ RxMem w.heap.size X key (4 * i + k) w wx) (fun s _ => 4 - (intOf s).toNat)
            case atStart => exact ⟨0, by omega, rfl, hTh.out, hM2h.out⟩
            case round =>
              clear hTh hM2h
              obtain ⟨k, hk4, rfl, hT, hmem⟩ := hrel
              by_cases hlk : k < 4
              · have hlkI : (k : Int) < 4 := by omega
                obtain ⟨n, hn⟩ : ∃ n, 4 * i + k = n := ⟨_, rfl⟩
                have hnx := hnxh.out k (by omega) hlk
                rw [hn] at hmem hnx
                obtain ⟨c, hc⟩ : ∃ c, Ci.exF key n = c := ⟨_, rfl⟩
                rw [hc] at hnx
                have e2 : n = i * 4 + k := by omega
                have e3 : 4 * (i - 4) + k = q * 4 + k := by omega
                rw [e3] at hnx
                have hc1 := hT.num (i := k) (by omega)
                have hc2 := hmem.o.num (i := q * 4 + k) (by rw [Ci.upd_len, z176_len]; omega)
                have hg := Ci.upd_get (Ci.exF key) z176 n (q * 4 + k) (by rw [z176_len]; omega)
                rw [if_pos (by omega)] at hg
                rw [hg] at hc2
                have hc0 := hmem.o.num (i := n) (by rw [Ci.upd_len, z176_len]; omega)
                have hf0 := hmem.o.frozen n
                have hxor : bits BinOp.xor IntKind.u8 ((Ci.exF key (q * 4 + k) : Nat) : Int) ((T.getD k 0 : Nat) : Int) = (c : Int) := by rw [u8_xor_nat _ _ (hbyh.out _) (htb.get k), hnx]
                have hput := Lib.hid (hmem.drew_.put hc)
                have hT2 : Blk (wr.drew.setCell ⟨w.heap.size + 1 + 1, n, none⟩ (.int .u8 (c : Int))) Y 63 (va .u8 T) := hT.drew.far (by have := hmem.x; simp; omega) _
                have hT2h := Lib.hid hT2
                generalize Ci.exF key (q * 4 + k) = y1 at *
                generalize T.getD k 0 = y2 at *
                generalize (Ci.upd (Ci.exF key) z176 n).getD n 0 = y0 at *
                rw [e2] at hc0 hf0 hput hT2h
                have hnh := Lib.hid e2
                clear hmem hT hT2 hg hnx hc e2 e3 hn
                go_wp2
                refine wp_region_still_tail 14 (by kernel_rfl) (by kernel_rfl) ?_
                simp only [List.take_succ_cons, List.take_zero, List.drop_succ_cons, List.drop_zero]
                change wpStill _ _ wr.drew _ _ _
                iterate 14 still_step
                refine wpStill_nil ?_
                change wpList _ _ _ _ _ wr.drew
                go_wp2
                go_roundw
                case rel => exact ⟨k + 1, by omega, by go_num, hT2h.out, by rw [show 4 * i + (k + 1) = i * 4 + k + 1 from by omega]; exact hput.out⟩
                case measure => simp [intOf]; omega
              · obtain rfl : k = 4 := by omega
                have hmm := Lib.hid hmem
                clear hmem hT
                go_wp2
                go_roundw
                case rel => exact ⟨i + 1, by omega, by go_num, by rw [hdh.out], by rw [show 4 * (i + 1) = 4 * i + 4 from by omega]; exact hmm.out⟩
                case measure => simp [intOf]; omega
    · obtain rfl : i = 44 := by omega
      have hall : Ci.upd (Ci.exF key) z176 (4 * 44) = Ci.exL key := Ci.exL_all key z176 z176_len
      have hmo := hmem.o
      rw [hall] at hmo
      have hmr := hmem.r
      have hmb := hmem.bel
      have hLl := Ci.exL_len key
      have hsz0 : (Try.prog.info? 75).map (·.size) = some (va .u8 (Ci.exL key)).size := by rw [va_size, hLl]; kernel_rfl
      have hszE := Lib.hid hsz0
      have hst := run_storeBlk (P := Try.prog) hmr .u8 (Ci.exL key) (by rw [va_size, z176_len, hLl])
      have hvs : (va .u8 (Ci.exL key)).size = 176 := by rw [va_size, hLl]
      have hmoh := Lib.hid hmo
      have hmrh := Lib.hid hmr
      have hmbh := Lib.hid hmb
      clear hsz0 hmem hall hmo hmr hmb
      go_wp2_with (refine wpList_load_row rfl 75 (.tmp 3) rfl (w.heap.size + 1 + 1) rfl 75 (va .u8 (Ci.exL key)) (0, 0) _ hmoh.out Try.underlying75 rfl hszE.out ?_)
      exact bodyPost_ret (results_cell_row rfl _ _ (w.heap.size + 1) 75 (va .u8 (Ci.exL key)) (0, 0) _ rfl (hmrh.out.row _) Try.underlying75 rfl hszE.out) rfl ⟨rfl, below_setRow hmbh.out (by omega) _⟩
end Go.Proofs.Ytpcdckhabaoieaa
