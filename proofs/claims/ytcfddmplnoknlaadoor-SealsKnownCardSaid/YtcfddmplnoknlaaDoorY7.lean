/-
  The walk of caissonref06.Rounds.
-/
import Derived.Test.YtcfddmplnoknlaaDoorY6
namespace Go.Proofs.YtcfddmplnoknlaaDoor
set_option maxRecDepth 16384
open Go.RowKit

structure RdMem (G X : Nat) (L b M : List Nat) (w wr : World) : Prop where
 k : Blk wr G 137 (va .u8 L)
 b : Blk wr (G + 1) 22 (va .u8 b)
 r : Blk wr (G + 1 + 1) 22 (va .u8 z16)
 t : Blk wr X 139 (va .u8 subs)
 m : Blk wr (X + 1) 141 (va .u8 M)
 x : G + 1 + 1 < X
 bel : Below G w wr
theorem RdMem.below {G X : Nat} {L b M : List Nat} {w wr w2 : World} (h : RdMem G X L b M w wr) (c : Below wr.heap.size wr w2) : RdMem G X L b M w w2 :=
 ⟨h.k.below c h.k.lt, h.b.below c h.b.lt, h.r.below c h.r.lt, h.t.below c h.t.lt, h.m.below c h.m.lt, h.x, h.bel.trans (c.mono (by have := h.r.lt; omega))⟩
theorem RdMem.far {G X : Nat} {L b M : List Nat} {N i : Nat} {w wr : World} {v : Value} (h : RdMem G X L b M w wr) (hN : X + 1 < N) : RdMem G X L b M w (wr.setCell ⟨N, i, none⟩ v) := by
 have := h.x
 exact ⟨h.k.far (by simp; omega) _, h.b.far (by simp; omega) _, h.r.far (by simp; omega) _, h.t.far (by simp; omega) _, h.m.far (by simp; omega) _, h.x, h.bel.setCell (by simp; omega) _⟩
theorem RdMem.drew_ {G X : Nat} {L b M : List Nat} {w wr : World} (h : RdMem G X L b M w wr) : RdMem G X L b M w wr.drew := ⟨h.k.drew, h.b.drew, h.r.drew, h.t.drew, h.m.drew, h.x, below_drewN h.bel 1⟩
theorem RdMem.put {G X : Nat} {L b M : List Nat} {w wr : World} (h : RdMem G X L b M w wr) (p v : Nat) : RdMem G X L b (M.set p v) w (wr.setCell ⟨X + 1, p, none⟩ (.int .u8 (v : Int))) := by
 have := h.x
 exact ⟨h.k.far (by simp; omega) _, h.b.far (by simp; omega) _, h.r.far (by simp; omega) _, h.t.far (by simp) _, h.m.setNum p v, h.x, h.bel.setCell (by simp; omega) _⟩
theorem zeroMat (w : World) : (zeroValue 141).run Tryd.prog w = .ok (.agg (va .u8 z16)) w := by kernel_rfl

set_option maxRecDepth 8000 in
set_option maxHeartbeats 2000000 in
theorem rrounds_any (L b : List Nat) (hLl : L.length = 176) (hbl : b.length = 16) (hL : Ci.Byt L) (hb : Ci.Byt b) (w : World) :
    Calls Tryd.prog 87 #[.agg (va .u8 L), .agg (va .u8 b)] w fun e w' => e = .returned (.agg (va .u8 (Ci.enc L b))) ∧ Below w.heap.size w w' := by
  have hzv := zero16
  have hzt := zeroTab
  have hzm := zeroMat
  go_enter Tryd.func87, Tryd.ntmps87
  go_wp2_with fail
  refine (table_any _).mono ?_
  obtain ⟨S, hS⟩ : ∃ S, subs = S := ⟨_, rfl⟩
  have hSl : S.length = 256 := by rw [← hS]; exact subs_len
  have hvs : (va .u8 S).size = 256 := by rw [va_size, hSl]
  rw [hS]
  rintro e w1 ⟨rfl, b1⟩
  have hk1 : Blk w1 w.heap.size 137 (va .u8 L) := Blk.below (((Blk.new _ _ _).alloc _).alloc _) b1 (by simp <;> omega)
  have hr1 : Blk w1 (w.heap.size + 1) 22 (va .u8 b) := Blk.below ((Blk.newAt (by simp)).alloc _) b1 (by simp <;> omega)
  have ho1 : Blk w1 (w.heap.size + 1 + 1) 22 (va .u8 z16) := Blk.below (Blk.newAt (by simp)) b1 (by simp <;> omega)
  have hx1 := b1.size
  simp only [World.size_alloc] at hx1
  have hb1 : Below w.heap.size w w1 := (((((Below.refl _ _).alloc (Nat.le_refl _) _).alloc (by simp) _).alloc (by simp <;> omega) _)).trans (b1.mono (by simp <;> omega))
  clear b1
  have hst := run_storeNew (P := Tryd.prog) w1 139 (va .u8 z256) .u8 S (by rw [va_size, hSl, z256_len])
  have hmem : RdMem w.heap.size w1.heap.size L b (Ci.updT (fun s => (Ci.encS L b 0).getD s 0) z16 0) w ((w1.alloc (.cells (va .u8 S) 139)).alloc (.cells (va .u8 z16) 141)) := by
    rw [← hS, Ci.updT_zero _ z16_len]
    refine ⟨(hk1.alloc _).alloc _, (hr1.alloc _).alloc _, (ho1.alloc _).alloc _, (Blk.new _ _ _).alloc _, Blk.newAt (by simp), hx1, (hb1.alloc hb1.size _).alloc (by have := hb1.size; simp; omega) _⟩
  have hmm := Lib.hid hmem
  have hxh := Lib.hid hx1
  clear hk1 hr1 ho1 hb1 hmem hx1 hS
  go_wp2
  clear hzt
  generalize hX : w1.heap.size = X at *
  generalize (w1.alloc (.cells (va .u8 S) 139)).alloc (.cells (va .u8 z16) 141) = w2 at *
  clear hSl hvs hst
  go_loopw [7] (fun s wr => ∃ i : Nat, i ≤ 16 ∧ s = .int .i64 (i : Int) ∧ RdMem w.heap.size X L b (Ci.updT (fun s => (Ci.encS L b 0).getD s 0) z16 i) w wr) (fun s _ => 16 - (intOf s).toNat)
  case atStart => exact ⟨0, by omega, rfl, hmm.out⟩
  case round =>
    clear hmm
    obtain ⟨i, hi16, rfl, hmem⟩ := hrel
    by_cases hli : i < 16
    · have hliI : (i : Int) < 16 := by omega
      obtain ⟨m, hm⟩ : ∃ m, i % 4 = m := ⟨_, rfl⟩
      obtain ⟨q, hq⟩ : ∃ q, i / 4 = q := ⟨_, rfl⟩
      have hmI : (i : Int).tmod 4 = (m : Int) := by rw [Int.tmod_eq_emod_of_nonneg (by omega)]; omega
      have hqI : (i : Int).tdiv 4 = (q : Int) := by rw [Int.tdiv_eq_ediv_of_nonneg (by omega)]; omega
      have hmE : (i : Int) % 4 = (m : Int) := by omega
      have hqE : (i : Int) / 4 = (q : Int) := by omega
      have hm4 : (m : Int) < 4 := by omega
      have hq4 : (q : Int) < 4 := by omega
      have hq44 : (q : Int) < 44 := by omega
      have hqw : IntKind.i64.wrap (q : Int) = (q : Int) := IntWalk.i64_in _ (by omega)
      have e2 : i = q * 4 + m := by omega
      have hT : Ci.T i = m * 4 + q := by unfold Ci.T; omega
      have hc1 := hmem.b.num (i := i) (by omega)
      have hc2 := hmem.k.num (i := q * 4 + m) (by omega)
      have hc0 := hmem.m.num (i := m * 4 + q) (by rw [Ci.updT_len]; omega)
      have hf0 := hmem.m.frozen (m * 4 + q)
      obtain ⟨c, hc⟩ : ∃ c, (Ci.encS L b 0).getD i 0 = c := ⟨_, rfl⟩
      have hv := Ci.encS_first L b i hli
      have hxor : bits BinOp.xor IntKind.u8 ((b.getD i 0 : Nat) : Int) ((L.getD (q * 4 + m) 0 : Nat) : Int) = (c : Int) := by rw [u8_xor_nat _ _ (hb.get _) (hL.get _), ← e2, ← hv, hc]
      have hput := hmem.drew_.put (m * 4 + q) c
      rw [Ci.updT_set _ _ i _ c hli hT hc] at hput
      have hputh := Lib.hid hput
      generalize (Ci.updT (fun s => (Ci.encS L b 0).getD s 0) z16 i).getD (m * 4 + q) 0 = y0 at *
      generalize b.getD i 0 = y1 at *
      generalize L.getD (q * 4 + m) 0 = y2 at *
      clear hmem hput hv hc hT e2 hm hq
      go_wp2
      refine wp_region_still_tail 17 (by kernel_rfl) (by kernel_rfl) ?_
      simp only [List.take_succ_cons, List.take_zero, List.drop_succ_cons, List.drop_zero]
      change wpStill _ _ wr.drew _ _ _
      iterate 17 still_step
      refine wpStill_nil ?_
      change wpList _ _ _ _ _ wr.drew
      go_wp2
      go_roundw
      case rel => exact ⟨i + 1, by omega, by go_num, hputh.out⟩
      case measure => simp [intOf]; omega
    · have hiI : 16 ≤ (i : Int) := by omega
      rw [show i = 16 from by omega, Ci.updT_all _ _ (Ci.encS L b 0) (fun _ _ => rfl)] at hmem
      have hmm := Lib.hid hmem
      clear hmem
      clear hzv
      go_wp2
      go_loopw [8] (fun s wr => ∃ k K : Nat, k ≤ 10 ∧ k + 1 = K ∧ s = .int .i64 (K : Int) ∧ RdMem w.heap.size X L b (Ci.tr (Ci.encS L b k)) w wr) (fun s _ => 11 - (intOf s).toNat)
      case atStart => exact ⟨0, 1, by omega, rfl, rfl, hmm.out⟩
      case round =>
        clear hmm
        obtain ⟨k, K, hk10, hkK, rfl, hmem⟩ := hrel
        by_cases hlk : k < 10
        · have hlkI : (K : Int) < 11 := by omega
          obtain ⟨y, hy⟩ : ∃ y, Ci.yR L b k = y := ⟨_, rfl⟩
          have hN : Blk (wr.alloc (.cells (va .u8 z16) 141)) wr.heap.size 141 (va .u8 (Ci.upd (fun i => (Ci.tr y).getD i 0) z16 (4 * 0))) := by rw [Ci.upd_zero]; exact Blk.new _ _ _
          have hY : X + 1 < wr.heap.size := hmem.m.lt
          have hM := hmem.below ((Below.refl _ wr).alloc (Nat.le_refl _) (.cells (va .u8 z16) 141))
          have hNh := Lib.hid hN
          have hMh := Lib.hid hM
          clear hN hM hmem
          go_wp2
          obtain ⟨Y, hYe⟩ : ∃ Y, wr.heap.size = Y := ⟨_, rfl⟩
          rw [hYe] at hNh hY
          rw [hYe]
          generalize wr.alloc (.cells (va .u8 z16) 141) = w3 at *
          clear hYe
          go_loopw [10] (fun s wx => ∃ r : Nat, r ≤ 4 ∧ s = .int .i64 (r : Int) ∧ Blk wx Y 141 (va .u8 (Ci.upd (fun i => (Ci.tr y).getD i 0) z16 (4 * r))) ∧ RdMem w.heap.size X L b (Ci.tr (Ci.encS L b k)) w wx) (fun s _ => 4 - (intOf s).toNat)
          case atStart => exact ⟨0, by omega, rfl, hNh.out, hMh.out⟩
          case round =>
            clear hNh hMh
            obtain ⟨r, hr4, rfl, hN, hM⟩ := hrel
            by_cases hlr : r < 4
            · have hlrI : (r : Int) < 4 := by omega
              have hNh := Lib.hid hN
              have hMh := Lib.hid hM
              clear hN hM
              go_wp2
              go_loopw [11] (fun s wx => ∃ c : Nat, c ≤ 4 ∧ s = .int .i64 (c : Int) ∧ Blk wx Y 141 (va .u8 (Ci.upd (fun i => (Ci.tr y).getD i 0) z16 (4 * r + c))) ∧ RdMem w.heap.size X L b (Ci.tr (Ci.encS L b k)) w wx) (fun s _ => 4 - (intOf s).toNat)
              case atStart => exact ⟨0, by omega, rfl, hNh.out, hMh.out⟩
              case round =>
                clear hNh hMh
                obtain ⟨c, hc4, rfl, hN, hM⟩ := hrel
                by_cases hlc : c < 4
                · have hlcI : (c : Int) < 4 := by omega
                  obtain ⟨q, hq⟩ : ∃ q, c + r = q := ⟨_, rfl⟩
                  have hqI : (c : Int) + (r : Int) = (q : Int) := by omega
                  have hqw : IntKind.i64.wrap (q : Int) = (q : Int) := IntWalk.i64_in _ (by omega)
                  obtain ⟨p, hp⟩ : ∃ p, q % 4 = p := ⟨_, rfl⟩
                  have hpI : (q : Int).tmod 4 = (p : Int) := by rw [Int.tmod_eq_emod_of_nonneg (by omega)]; omega
                  have hpE : (q : Int) % 4 = (p : Int) := by omega
                  have hp4 : (p : Int) < 4 := by omega
                  have hst := Ci.yR_get L b k r c hlr hlc
                  rw [hy, hq, hp, Nat.mul_comm 4 r] at hst
                  obtain ⟨x, hx⟩ : ∃ x, (Ci.tr (Ci.encS L b k)).getD (r * 4 + p) 0 = x := ⟨_, rfl⟩
                  have hxl : x < 256 := by
                    rw [← hx, Ci.tr_get _ (by omega)]; exact (Ci.encS_byt hL hb k).get _
                  have hxI : (x : Int) < 256 := by omega
                  have hc1 := hM.m.num (i := r * 4 + p) (by rw [Ci.tr_len]; omega)
                  rw [hx] at hc1 hst
                  have hc2 := table_out hM.t x hxl
                  obtain ⟨n, hn⟩ : ∃ n, 4 * r + c = n := ⟨_, rfl⟩
                  have e2 : n = r * 4 + c := by omega
                  rw [hn] at hN
                  have hst2 : (Ci.tr y).getD n 0 = Gf.sub x := by rw [e2]; exact hst
                  have hc0 := hN.num (i := n) (by rw [Ci.upd_len, z16_len]; omega)
                  have hf0 := hN.frozen n
                  have hput := hN.drew.setNum n (Gf.sub x)
                  rw [show Gf.sub x = (fun i => (Ci.tr y).getD i 0) n from hst2.symm, Ci.upd_set] at hput
                  simp only [hst2] at hput
                  have hMf : RdMem w.heap.size X L b (Ci.tr (Ci.encS L b k)) w (wr.drew.setCell ⟨Y, n, none⟩ (.int .u8 ((Gf.sub x : Nat) : Int))) := hM.drew_.far hY
                  generalize (Ci.upd (fun i => (Ci.tr y).getD i 0) z16 n).getD n 0 = y0 at *
                  generalize Gf.sub x = sx at *
                  rw [e2] at hc0 hf0 hput hMf
                  have hputh := Lib.hid hput
                  have hMfh := Lib.hid hMf
                  have hnh := Lib.hid hn
                  clear hN hM hput hMf hst hst2 hx hp hq hn e2
                  go_wp2
                  refine wp_region_still_tail 14 (by kernel_rfl) (by kernel_rfl) ?_
                  simp only [List.take_succ_cons, List.take_zero, List.drop_succ_cons, List.drop_zero]
                  change wpStill _ _ wr.drew _ _ _
                  iterate 14 still_step
                  refine wpStill_nil ?_
                  change wpList _ _ _ _ _ wr.drew
                  go_wp2
                  go_roundw
                  case rel => exact ⟨c + 1, by omega, by go_num, by rw [show 4 * r + (c + 1) = r * 4 + c + 1 from by omega]; exact hputh.out, hMfh.out⟩
                  case measure => simp [intOf]; omega
                · obtain rfl : c = 4 := by omega
                  have hNh := Lib.hid hN
                  have hMh := Lib.hid hM
                  clear hN hM
                  go_wp2
                  go_roundw
                  case rel => exact ⟨r + 1, by omega, by go_num, by rw [show 4 * (r + 1) = 4 * r + 4 from by omega]; exact hNh.out, hMh.out⟩
                  case measure => simp [intOf]; omega
            · have hrI : 4 ≤ (r : Int) := by omega
              rw [show 4 * r = 16 from by omega, ← hy, Ci.sub_all L b k z16 z16_len, hy] at hN
              rw [← Ci.updT_zero (fun s => (Ci.xR L b k).getD s 0) (Ci.tr_len y)] at hN
              rw [← Ci.updT_zero (fun s => (Ci.encS L b (k + 1)).getD s 0) (Ci.tr_len (Ci.encS L b k))] at hM
              have hNh := Lib.hid hN
              have hMh := Lib.hid hM
              clear hN hM
              go_wp2
              go_loopw [12] (fun s wx => ∃ c : Nat, c ≤ 4 ∧ s = .int .i64 (c : Int) ∧ Blk wx Y 141 (va .u8 (Ci.updT (fun s => (Ci.xR L b k).getD s 0) (Ci.tr y) (4 * c))) ∧ RdMem w.heap.size X L b (Ci.updT (fun s => (Ci.encS L b (k + 1)).getD s 0) (Ci.tr (Ci.encS L b k)) (4 * c)) w wx) (fun s _ => 4 - (intOf s).toNat)
              case atStart => exact ⟨0, by omega, rfl, hNh.out, hMh.out⟩
              case round =>
                clear hNh hMh
                obtain ⟨c, hc4, rfl, hN, hM⟩ := hrel
                by_cases hlc : c < 4
                · have hlcI : (c : Int) < 4 := by omega
                  have hyb : Ci.Byt y := hy ▸ Ci.yR_byt L b k
                  obtain ⟨N, hNe⟩ : ∃ N, Ci.updT (fun s => (Ci.xR L b k).getD s 0) (Ci.tr y) (4 * c) = N := ⟨_, rfl⟩
                  have hNl : N.length = 16 := by rw [← hNe]; exact Ci.updT_len _ _ _
                  have n0 := Ci.n_at (fun s => (Ci.xR L b k).getD s 0) y c 0 hlc (by omega)
                  have n1 := Ci.n_at (fun s => (Ci.xR L b k).getD s 0) y c 1 hlc (by omega)
                  have n2 := Ci.n_at (fun s => (Ci.xR L b k).getD s 0) y c 2 hlc (by omega)
                  have n3 := Ci.n_at (fun s => (Ci.xR L b k).getD s 0) y c 3 hlc (by omega)
                  rw [hNe] at n0 n1 n2 n3 hN
                  simp only [Nat.mul_zero, Nat.zero_add, Nat.add_zero, Nat.mul_one, Nat.reduceMul] at n0 n1 n2 n3
                  obtain ⟨a0, h0⟩ : ∃ a, y.getD (4 * c) 0 = a := ⟨_, rfl⟩
                  obtain ⟨a1, h1⟩ : ∃ a, y.getD (4 * c + 1) 0 = a := ⟨_, rfl⟩
                  obtain ⟨a2, h2⟩ : ∃ a, y.getD (4 * c + 2) 0 = a := ⟨_, rfl⟩
                  obtain ⟨a3, h3⟩ : ∃ a, y.getD (4 * c + 3) 0 = a := ⟨_, rfl⟩
                  have la0 : a0 < 256 := h0 ▸ hyb.get _
                  have la1 : a1 < 256 := h1 ▸ hyb.get _
                  have la2 : a2 < 256 := h2 ▸ hyb.get _
                  have la3 : a3 < 256 := h3 ▸ hyb.get _
                  rw [h0] at n0
                  rw [h1] at n1
                  rw [h2] at n2
                  rw [h3] at n3
                  have c0 := hN.num (i := c) (by omega)
                  have c1 := hN.num (i := 4 + c) (by omega)
                  have c2 := hN.num (i := 8 + c) (by omega)
                  have c3 := hN.num (i := 12 + c) (by omega)
                  rw [n0] at c0
                  rw [n1] at c1
                  rw [n2] at c2
                  rw [n3] at c3
                  have f0 := hN.frozen c
                  have f1 := hN.frozen (4 + c)
                  have f2 := hN.frozen (8 + c)
                  have f3 := hN.frozen (12 + c)
                  have hmx := Ci.mix_at y hyb c hlc a0 a1 a2 a3 h0 h1 h2 h3
                  have hNh := Lib.hid hN
                  have hMh := Lib.hid hM
                  have hmxh := Lib.hid hmx
                  have hNeh := Lib.hid hNe
                  have hyh := Lib.hid hy
                  clear hN hM hmx hNe hy hyb n0 n1 n2 n3 h0 h1 h2 h3
                  go_wp2
                  go_region
                  rename_i aK
                  refine aK _ _ ?_
                  clear aK
                  have hN4 := Lib.hid hNh.out.drew
                  have hM4 := Lib.hid hMh.out.drew_
                  clear hNh hMh c0 c1 c2 c3 f0 f1 f2 f3
                  generalize wr.drew = w4 at *
                  refine wp_seq_k fun Kc hKc => ?_
                  go_cut [] (fun wx => Blk wx Y 141 (va .u8 (Ci.updT (fun s => (Ci.xR L b k).getD s 0) (Ci.tr y) (4 * c + 4))) ∧ RdMem w.heap.size X L b (Ci.updT (fun s => (Ci.encS L b (k + 1)).getD s 0) (Ci.tr (Ci.encS L b k)) (4 * c)) w wx)
                  case first =>
                    by_cases h10 : k + 1 < 10
                    · have h10I : (K : Int) < 10 := by omega
                      obtain ⟨D0, hD0⟩ : ∃ D, Ci.dbl a0 = D := ⟨_, rfl⟩
                      have lD0 : D0 < 256 := hD0 ▸ Ci.dbl_lt _
                      obtain ⟨D1, hD1⟩ : ∃ D, Ci.dbl a1 = D := ⟨_, rfl⟩
                      have lD1 : D1 < 256 := hD1 ▸ Ci.dbl_lt _
                      obtain ⟨D2, hD2⟩ : ∃ D, Ci.dbl a2 = D := ⟨_, rfl⟩
                      have lD2 : D2 < 256 := hD2 ▸ Ci.dbl_lt _
                      obtain ⟨D3, hD3⟩ : ∃ D, Ci.dbl a3 = D := ⟨_, rfl⟩
                      have lD3 : D3 < 256 := hD3 ▸ Ci.dbl_lt _
                      obtain ⟨v0, hv0⟩ : ∃ v, D0 ^^^ D1 = v := ⟨_, rfl⟩
                      have lv0 : v0 < 256 := hv0 ▸ Nat.xor_lt_two_pow (n := 8) lD0 lD1
                      have xv0 : bits BinOp.xor IntKind.u8 (D0 : Int) (D1 : Int) = (v0 : Int) := by rw [u8_xor_nat _ _ lD0 lD1, hv0]
                      obtain ⟨v1, hv1⟩ : ∃ v, v0 ^^^ a1 = v := ⟨_, rfl⟩
                      have lv1 : v1 < 256 := hv1 ▸ Nat.xor_lt_two_pow (n := 8) lv0 la1
                      have xv1 : bits BinOp.xor IntKind.u8 (v0 : Int) (a1 : Int) = (v1 : Int) := by rw [u8_xor_nat _ _ lv0 la1, hv1]
                      obtain ⟨v2, hv2⟩ : ∃ v, v1 ^^^ a2 = v := ⟨_, rfl⟩
                      have lv2 : v2 < 256 := hv2 ▸ Nat.xor_lt_two_pow (n := 8) lv1 la2
                      have xv2 : bits BinOp.xor IntKind.u8 (v1 : Int) (a2 : Int) = (v2 : Int) := by rw [u8_xor_nat _ _ lv1 la2, hv2]
                      obtain ⟨v3, hv3⟩ : ∃ v, v2 ^^^ a3 = v := ⟨_, rfl⟩
                      have lv3 : v3 < 256 := hv3 ▸ Nat.xor_lt_two_pow (n := 8) lv2 la3
                      have xv3 : bits BinOp.xor IntKind.u8 (v2 : Int) (a3 : Int) = (v3 : Int) := by rw [u8_xor_nat _ _ lv2 la3, hv3]
                      obtain ⟨v4, hv4⟩ : ∃ v, a0 ^^^ D1 = v := ⟨_, rfl⟩
                      have lv4 : v4 < 256 := hv4 ▸ Nat.xor_lt_two_pow (n := 8) la0 lD1
                      have xv4 : bits BinOp.xor IntKind.u8 (a0 : Int) (D1 : Int) = (v4 : Int) := by rw [u8_xor_nat _ _ la0 lD1, hv4]
                      obtain ⟨v5, hv5⟩ : ∃ v, v4 ^^^ D2 = v := ⟨_, rfl⟩
                      have lv5 : v5 < 256 := hv5 ▸ Nat.xor_lt_two_pow (n := 8) lv4 lD2
                      have xv5 : bits BinOp.xor IntKind.u8 (v4 : Int) (D2 : Int) = (v5 : Int) := by rw [u8_xor_nat _ _ lv4 lD2, hv5]
                      obtain ⟨v6, hv6⟩ : ∃ v, v5 ^^^ a2 = v := ⟨_, rfl⟩
                      have lv6 : v6 < 256 := hv6 ▸ Nat.xor_lt_two_pow (n := 8) lv5 la2
                      have xv6 : bits BinOp.xor IntKind.u8 (v5 : Int) (a2 : Int) = (v6 : Int) := by rw [u8_xor_nat _ _ lv5 la2, hv6]
                      obtain ⟨v7, hv7⟩ : ∃ v, v6 ^^^ a3 = v := ⟨_, rfl⟩
                      have lv7 : v7 < 256 := hv7 ▸ Nat.xor_lt_two_pow (n := 8) lv6 la3
                      have xv7 : bits BinOp.xor IntKind.u8 (v6 : Int) (a3 : Int) = (v7 : Int) := by rw [u8_xor_nat _ _ lv6 la3, hv7]
                      obtain ⟨v8, hv8⟩ : ∃ v, a0 ^^^ a1 = v := ⟨_, rfl⟩
                      have lv8 : v8 < 256 := hv8 ▸ Nat.xor_lt_two_pow (n := 8) la0 la1
                      have xv8 : bits BinOp.xor IntKind.u8 (a0 : Int) (a1 : Int) = (v8 : Int) := by rw [u8_xor_nat _ _ la0 la1, hv8]
                      obtain ⟨v9, hv9⟩ : ∃ v, v8 ^^^ D2 = v := ⟨_, rfl⟩
                      have lv9 : v9 < 256 := hv9 ▸ Nat.xor_lt_two_pow (n := 8) lv8 lD2
                      have xv9 : bits BinOp.xor IntKind.u8 (v8 : Int) (D2 : Int) = (v9 : Int) := by rw [u8_xor_nat _ _ lv8 lD2, hv9]
                      obtain ⟨v10, hv10⟩ : ∃ v, v9 ^^^ D3 = v := ⟨_, rfl⟩
                      have lv10 : v10 < 256 := hv10 ▸ Nat.xor_lt_two_pow (n := 8) lv9 lD3
                      have xv10 : bits BinOp.xor IntKind.u8 (v9 : Int) (D3 : Int) = (v10 : Int) := by rw [u8_xor_nat _ _ lv9 lD3, hv10]
                      obtain ⟨v11, hv11⟩ : ∃ v, v10 ^^^ a3 = v := ⟨_, rfl⟩
                      have lv11 : v11 < 256 := hv11 ▸ Nat.xor_lt_two_pow (n := 8) lv10 la3
                      have xv11 : bits BinOp.xor IntKind.u8 (v10 : Int) (a3 : Int) = (v11 : Int) := by rw [u8_xor_nat _ _ lv10 la3, hv11]
                      obtain ⟨v12, hv12⟩ : ∃ v, D0 ^^^ a0 = v := ⟨_, rfl⟩
                      have lv12 : v12 < 256 := hv12 ▸ Nat.xor_lt_two_pow (n := 8) lD0 la0
                      have xv12 : bits BinOp.xor IntKind.u8 (D0 : Int) (a0 : Int) = (v12 : Int) := by rw [u8_xor_nat _ _ lD0 la0, hv12]
                      obtain ⟨v13, hv13⟩ : ∃ v, v12 ^^^ a1 = v := ⟨_, rfl⟩
                      have lv13 : v13 < 256 := hv13 ▸ Nat.xor_lt_two_pow (n := 8) lv12 la1
                      have xv13 : bits BinOp.xor IntKind.u8 (v12 : Int) (a1 : Int) = (v13 : Int) := by rw [u8_xor_nat _ _ lv12 la1, hv13]
                      obtain ⟨v14, hv14⟩ : ∃ v, v13 ^^^ a2 = v := ⟨_, rfl⟩
                      have lv14 : v14 < 256 := hv14 ▸ Nat.xor_lt_two_pow (n := 8) lv13 la2
                      have xv14 : bits BinOp.xor IntKind.u8 (v13 : Int) (a2 : Int) = (v14 : Int) := by rw [u8_xor_nat _ _ lv13 la2, hv14]
                      obtain ⟨v15, hv15⟩ : ∃ v, v14 ^^^ D3 = v := ⟨_, rfl⟩
                      have lv15 : v15 < 256 := hv15 ▸ Nat.xor_lt_two_pow (n := 8) lv14 lD3
                      have xv15 : bits BinOp.xor IntKind.u8 (v14 : Int) (D3 : Int) = (v15 : Int) := by rw [u8_xor_nat _ _ lv14 lD3, hv15]
                      have hxr : Ci.xR L b k = Ci.mix [2, 3, 1, 1] y := by unfold Ci.xR; rw [if_pos h10, hyh.out]
                      have g0 : (Ci.xR L b k).getD (4 * c) 0 = v3 := by rw [hxr, hmxh.out.1, hD0, hD1, hv0, hv1, hv2, hv3]
                      have g1 : (Ci.xR L b k).getD (4 * c + 1) 0 = v7 := by rw [hxr, hmxh.out.2.1, hD1, hD2, hv4, hv5, hv6, hv7]
                      have g2 : (Ci.xR L b k).getD (4 * c + 2) 0 = v11 := by rw [hxr, hmxh.out.2.2.1, hD2, hD3, hv8, hv9, hv10, hv11]
                      have g3 : (Ci.xR L b k).getD (4 * c + 3) 0 = v15 := by rw [hxr, hmxh.out.2.2.2, hD0, hD3, hv12, hv13, hv14, hv15]
                      have hcol := Ci.set_col (fun s => (Ci.xR L b k).getD s 0) (Ci.tr y) c v3 v7 v11 v15 hlc g0 g1 g2 g3
                      rw [hNeh.out] at hcol
                      have hNs := (((hN4.out.setNum c v3).setNum (4 + c) v7).setNum (8 + c) v11).setNum (12 + c) v15
                      rw [hcol] at hNs
                      have hMs := Lib.hid ((((hM4.out.far hY (i := c) (v := .int .u8 (v3 : Int))).far hY (i := 4 + c) (v := .int .u8 (v7 : Int))).far hY (i := 8 + c) (v := .int .u8 (v11 : Int))).far hY (i := 12 + c) (v := .int .u8 (v15 : Int)))
                      have c0 := hN4.out.num (i := c) (by omega)
                      have f0 := hN4.out.frozen (c)
                      generalize N.getD c 0 = y0 at c0
                      have c1 := hN4.out.num (i := 4 + c) (by omega)
                      have f1 := hN4.out.frozen (4 + c)
                      generalize N.getD (4 + c) 0 = y1 at c1
                      have c2 := hN4.out.num (i := 8 + c) (by omega)
                      have f2 := hN4.out.frozen (8 + c)
                      generalize N.getD (8 + c) 0 = y2 at c2
                      have c3 := hN4.out.num (i := 12 + c) (by omega)
                      have f3 := hN4.out.frozen (12 + c)
                      generalize N.getD (12 + c) 0 = y3 at c3
                      have hD0h := Lib.hid hD0
                      have hD1h := Lib.hid hD1
                      have hD2h := Lib.hid hD2
                      have hD3h := Lib.hid hD3
                      have hNsh := Lib.hid hNs
                      clear hNs hcol g0 g1 g2 g3 hxr hD0 hD1 hD2 hD3 hv0 lv0 hv1 lv1 hv2 lv2 hv3 lv3 hv4 lv4 hv5 lv5 hv6 lv6 hv7 lv7 hv8 lv8 hv9 lv9 hv10 lv10 hv11 lv11 hv12 lv12 hv13 lv13 hv14 lv14 hv15 lv15 lD0 lD1 lD2 lD3 hmxh
                      go_wp2_with fail
                      refine (double_to a0 D0 la0 hD0h.out _).mono ?_
                      rintro e w' ⟨rfl, rfl⟩
                      go_wp2_with fail
                      refine (double_to a1 D1 la1 hD1h.out _).mono ?_
                      rintro e w' ⟨rfl, rfl⟩
                      go_wp2_with fail
                      refine (double_to a1 D1 la1 hD1h.out _).mono ?_
                      rintro e w' ⟨rfl, rfl⟩
                      go_wp2_with fail
                      refine (double_to a2 D2 la2 hD2h.out _).mono ?_
                      rintro e w' ⟨rfl, rfl⟩
                      go_wp2_with fail
                      refine (double_to a2 D2 la2 hD2h.out _).mono ?_
                      rintro e w' ⟨rfl, rfl⟩
                      go_wp2_with fail
                      refine (double_to a3 D3 la3 hD3h.out _).mono ?_
                      rintro e w' ⟨rfl, rfl⟩
                      go_wp2_with fail
                      refine (double_to a0 D0 la0 hD0h.out _).mono ?_
                      rintro e w' ⟨rfl, rfl⟩
                      go_wp2_with fail
                      refine (double_to a3 D3 la3 hD3h.out _).mono ?_
                      rintro e w' ⟨rfl, rfl⟩
                      go_wp2
                      go_meet
                      exact ⟨hNsh.out, hMs.out⟩
                    · have h10I : 10 ≤ (K : Int) := by omega
                      have hxr : Ci.xR L b k = y := by unfold Ci.xR; rw [if_neg h10, hyh.out]
                      have hid : ∀ n, Ci.updT (fun s => (Ci.xR L b k).getD s 0) (Ci.tr y) n = Ci.tr y := fun n => Ci.updT_id _ (Ci.tr_len y) n (fun i hi => by rw [hxr, Ci.tr_get _ hi])
                      have hNe2 : Ci.updT (fun s => (Ci.xR L b k).getD s 0) (Ci.tr y) (4 * c + 4) = N := by rw [hid, ← hNeh.out, hid]
                      have hNs := hN4.out
                      rw [← hNe2] at hNs
                      have hNsh := Lib.hid hNs
                      clear hNs hNe2 hid hxr hmxh
                      go_wp2
                      go_meet
                      exact ⟨hNsh.out, hM4.out⟩
                  case rest =>
                    obtain ⟨hN, hM⟩ := hcut
                    clear hN4 hM4 hmxh hNeh hNl la0 la1 la2 la3
                    have hNh := Lib.hid hN
                    have hMh := Lib.hid hM
                    clear hN hM
                    go_wp2
                    go_loopw [17] (fun s wx => ∃ j : Nat, j ≤ 4 ∧ s = .int .i64 (j : Int) ∧ Blk wx Y 141 (va .u8 (Ci.updT (fun s => (Ci.xR L b k).getD s 0) (Ci.tr y) (4 * c + 4))) ∧ RdMem w.heap.size X L b (Ci.updT (fun s => (Ci.encS L b (k + 1)).getD s 0) (Ci.tr (Ci.encS L b k)) (4 * c + j)) w wx) (fun s _ => 4 - (intOf s).toNat)
                    case atStart => exact ⟨0, by omega, rfl, hNh.out, hMh.out⟩
                    case round =>
                      clear hNh hMh
                      obtain ⟨j, hj4, rfl, hN, hM⟩ := hrel
                      by_cases hlj : j < 4
                      · have hljI : (j : Int) < 4 := by omega
                        obtain ⟨n, hn⟩ : ∃ n, 4 * K + c = n := ⟨_, rfl⟩
                        have hnI : 4 * (K : Int) + (c : Int) = (n : Int) := by omega
                        have hw4 : IntKind.i64.wrap (4 * (K : Int)) = 4 * (K : Int) := IntWalk.i64_in _ (by omega)
                        have hw5 : IntKind.i64.wrap (n : Int) = (n : Int) := IntWalk.i64_in _ (by omega)
                        have hn44 : (n : Int) < 44 := by omega
                        have hc1 := hN.num (i := j * 4 + c) (by rw [Ci.updT_len]; omega)
                        have hd := Ci.n_done (fun s => (Ci.xR L b k).getD s 0) (Ci.tr y) c j hlc hlj
                        rw [Nat.mul_comm 4 j] at hd
                        rw [hd] at hc1
                        have hc2 := hM.k.num (i := n * 4 + j) (by omega)
                        have he := Ci.encS_get L b k (4 * c + j) (by omega)
                        rw [show (k + 1) * 16 + (4 * c + j) = n * 4 + j from by omega] at he
                        obtain ⟨v, hv⟩ : ∃ v, (Ci.encS L b (k + 1)).getD (4 * c + j) 0 = v := ⟨_, rfl⟩
                        have hxor : bits BinOp.xor IntKind.u8 (((Ci.xR L b k).getD (4 * c + j) 0 : Nat) : Int) ((L.getD (n * 4 + j) 0 : Nat) : Int) = (v : Int) := by rw [u8_xor_nat _ _ ((Ci.xR_byt L b k).get _) (hL.get _), ← he, hv]
                        have hc0 := hM.m.num (i := j * 4 + c) (by rw [Ci.updT_len]; omega)
                        have hf0 := hM.m.frozen (j * 4 + c)
                        have hput := hM.drew_.put (j * 4 + c) v
                        rw [Ci.updT_set _ _ (4 * c + j) _ v (by omega) (by unfold Ci.T; omega) hv] at hput
                        have hNf : Blk (wr.drew.setCell ⟨X + 1, j * 4 + c, none⟩ (.int .u8 (v : Int))) Y 141 (va .u8 (Ci.updT (fun s => (Ci.xR L b k).getD s 0) (Ci.tr y) (4 * c + 4))) := hN.drew.far (by simp; omega) _
                        have hputh := Lib.hid hput
                        have hNfh := Lib.hid hNf
                        generalize (Ci.updT (fun s => (Ci.encS L b (k + 1)).getD s 0) (Ci.tr (Ci.encS L b k)) (4 * c + j)).getD (j * 4 + c) 0 = y0 at *
                        generalize (Ci.xR L b k).getD (4 * c + j) 0 = y1 at *
                        generalize L.getD (n * 4 + j) 0 = y2 at *
                        clear hN hM hput hNf he hv hd hn
                        go_wp2
                        refine wp_region_still_tail 18 (by kernel_rfl) (by kernel_rfl) ?_
                        simp only [List.take_succ_cons, List.take_zero, List.drop_succ_cons, List.drop_zero]
                        change wpStill _ _ wr.drew _ _ _
                        iterate 18 still_step
                        refine wpStill_nil ?_
                        change wpList _ _ _ _ _ wr.drew
                        go_wp2
                        go_roundw
                        case rel => exact ⟨j + 1, by omega, by go_num, hNfh.out, hputh.out⟩
                        case measure => simp [intOf]; omega
                      · have hjI : 4 ≤ (j : Int) := by omega
                        rw [show j = 4 from by omega] at hM
                        have hNh := Lib.hid hN
                        have hMh := Lib.hid hM
                        clear hN hM
                        go_wp2
                        go_roundw
                        case rel => exact ⟨c + 1, by omega, by go_num, hNh.out, hMh.out⟩
                        case measure => simp [intOf]; omega
                · have hcI : 4 ≤ (c : Int) := by omega
                  rw [show 4 * c = 16 from by omega, Ci.updT_all _ _ (Ci.encS L b (k + 1)) (fun _ _ => rfl)] at hM
                  have hMh := Lib.hid hM
                  clear hN hM
                  go_wp2
                  go_roundw
                  case rel => exact ⟨k + 1, K + 1, by omega, by omega, by go_num, hMh.out⟩
                  case measure => simp [intOf]; omega
        · have hKI : 11 ≤ (K : Int) := by omega
          rw [show k = 10 from by omega] at hmem
          obtain ⟨E, hE⟩ : ∃ E, Ci.enc L b = E := ⟨_, rfl⟩
          have hEl : E.length = 16 := hE ▸ Ci.encS_len L b 10
          rw [show Ci.encS L b 10 = E from hE] at hmem
          have hzv := zero16
          have hN : Blk (wr.alloc (.cells (va .u8 z16) 22)) wr.heap.size 22 (va .u8 (Ci.upd (fun i => (Ci.tr E).getD (Ci.T i) 0) z16 0)) := by rw [Ci.upd_zero]; exact Blk.new _ _ _
          have hY : X + 1 < wr.heap.size := hmem.m.lt
          have hM := hmem.below ((Below.refl _ wr).alloc (Nat.le_refl _) (.cells (va .u8 z16) 22))
          have hNh := Lib.hid hN
          have hMh := Lib.hid hM
          clear hN hM hmem
          go_wp2
          obtain ⟨Y, hYe⟩ : ∃ Y, wr.heap.size = Y := ⟨_, rfl⟩
          rw [hYe] at hNh hY
          rw [hYe]
          generalize wr.alloc (.cells (va .u8 z16) 22) = w3 at *
          clear hYe
          go_loopw [19] (fun s wx => ∃ i : Nat, i ≤ 16 ∧ s = .int .i64 (i : Int) ∧ Blk wx Y 22 (va .u8 (Ci.upd (fun i => (Ci.tr E).getD (Ci.T i) 0) z16 i)) ∧ RdMem w.heap.size X L b (Ci.tr E) w wx) (fun s _ => 16 - (intOf s).toNat)
          case atStart => exact ⟨0, by omega, rfl, hNh.out, hMh.out⟩
          case round =>
            clear hNh hMh
            obtain ⟨n, hn16, rfl, hN, hM⟩ := hrel
            by_cases hln : n < 16
            · have hlnI : (n : Int) < 16 := by omega
              obtain ⟨m, hm⟩ : ∃ m, n % 4 = m := ⟨_, rfl⟩
              obtain ⟨q, hq⟩ : ∃ q, n / 4 = q := ⟨_, rfl⟩
              have hmI : (n : Int).tmod 4 = (m : Int) := by rw [Int.tmod_eq_emod_of_nonneg (by omega)]; omega
              have hqI : (n : Int).tdiv 4 = (q : Int) := by rw [Int.tdiv_eq_ediv_of_nonneg (by omega)]; omega
              have hmE : (n : Int) % 4 = (m : Int) := by omega
              have hqE : (n : Int) / 4 = (q : Int) := by omega
              have hm4 : (m : Int) < 4 := by omega
              have hq4 : (q : Int) < 4 := by omega
              have hqw : IntKind.i64.wrap (q : Int) = (q : Int) := IntWalk.i64_in _ (by omega)
              have hT : Ci.T n = m * 4 + q := by unfold Ci.T; omega
              have hc1 := hM.m.num (i := m * 4 + q) (by rw [Ci.tr_len]; omega)
              have hc0 := hN.num (i := n) (by rw [Ci.upd_len, z16_len]; omega)
              have hf0 := hN.frozen n
              obtain ⟨v, hv⟩ : ∃ v, (Ci.tr E).getD (m * 4 + q) 0 = v := ⟨_, rfl⟩
              have hv2 : (Ci.tr E).getD (Ci.T n) 0 = v := by rw [hT]; exact hv
              rw [hv] at hc1
              have hput := hN.setNum n v
              rw [show v = (fun i => (Ci.tr E).getD (Ci.T i) 0) n from hv2.symm, Ci.upd_set] at hput
              simp only [hv2] at hput
              have hMf : RdMem w.heap.size X L b (Ci.tr E) w (wr.setCell ⟨Y, n, none⟩ (.int .u8 (v : Int))) := hM.far hY
              generalize (Ci.upd (fun i => (Ci.tr E).getD (Ci.T i) 0) z16 n).getD n 0 = y0 at *
              have hputh := Lib.hid hput
              have hMfh := Lib.hid hMf
              clear hN hM hput hMf hv hv2 hT hm hq hzv
              go_wp2
              exact ⟨⟨n + 1, by omega, by go_num, hputh.out, hMfh.out⟩, by simp [intOf]; omega⟩
            · have hnI : 16 ≤ (n : Int) := by omega
              rw [show n = 16 from by omega, Ci.out_all E z16 hEl z16_len] at hN
              have hsz0 : (Tryd.prog.info? 22).map (·.size) = some (va .u8 E).size := by rw [va_size, hEl]; kernel_rfl
              have hszE := Lib.hid hsz0
              have hmr := hM.r
              have hst := run_storeBlk (P := Tryd.prog) hmr .u8 E (by rw [va_size, z16_len, hEl])
              have hvs : (va .u8 E).size = 16 := by rw [va_size, hEl]
              have hNh := Lib.hid hN
              have hMh := Lib.hid hM
              have hmrh := Lib.hid hmr
              clear hsz0 hN hM hmr hzv
              go_wp2_with (refine wpList_load_row rfl 22 (.tmp 18) rfl Y rfl 22 (va .u8 E) (0, 0) _ hNh.out Tryd.underlying22 rfl hszE.out ?_)
              exact bodyPost_ret (results_cell_row rfl _ _ (w.heap.size + 1 + 1) 22 (va .u8 E) (0, 0) _ rfl (hmrh.out.row _) Tryd.underlying22 rfl hszE.out) rfl ⟨by rw [hE], below_setRow hMh.out.bel (by omega) _⟩
end Go.Proofs.YtcfddmplnoknlaaDoor
namespace Go.Proofs.YtcfddmplnoknlaaDoor
set_option maxRecDepth 16384
open Go.RowKit

structure ReMem (G : Nat) (key b : List Nat) (w wr : World) : Prop where
 k : Blk wr G 22 (va .u8 key)
 b : Blk wr (G + 1) 22 (va .u8 b)
 r : ∃ c, Blk wr (G + 1 + 1) 22 c ∧ c.size = 16
 bel : Below G w wr
theorem ReMem.below {G : Nat} {key b : List Nat} {w wr w2 : World} (h : ReMem G key b w wr) (c : Below wr.heap.size wr w2) : ReMem G key b w w2 := by
 obtain ⟨c0, h0, h1⟩ := h.r
 exact ⟨h.k.below c h.k.lt, h.b.below c h.b.lt, ⟨c0, h0.below c h0.lt, h1⟩, h.bel.trans (c.mono (by have := h.k.lt; omega))⟩
theorem ReMem.drew_ {G : Nat} {key b : List Nat} {w wr : World} (h : ReMem G key b w wr) : ReMem G key b w wr.drew := by
 obtain ⟨c0, h0, h1⟩ := h.r
 exact ⟨h.k.drew, h.b.drew, ⟨c0, h0.drew, h1⟩, below_drewN h.bel 1⟩
theorem ReMem.row {G : Nat} {key b : List Nat} {w wr : World} (h : ReMem G key b w wr) (c : Array Value) (hc : c.size = 16) : ReMem G key b w (wr.setRow (G + 1 + 1) c) := by
 obtain ⟨c0, h0, h1⟩ := h.r
 exact ⟨h.k.rowFar (by omega) c, h.b.rowFar (by omega) c, ⟨c, h0.row c, hc⟩, below_setRow h.bel (by omega) c⟩

set_option maxHeartbeats 1000000 in
theorem rencrypt_any (key b : List Nat) (hkl : key.length = 16) (hbl : b.length = 16) (hk : Ci.Byt key) (hb : Ci.Byt b) (w : World) :
  Calls Tryd.prog 82 #[.agg (va .u8 key), .agg (va .u8 b)] w fun e w' => e = .returned (.agg (va .u8 (Ci.enc (Ci.exL key) b))) ∧ Below w.heap.size w w' := by
 have hc1 := rexpand_any key hkl hk
 have hc2 := rrounds_any (Ci.exL key) b (Ci.exL_len key) hbl (Ci.exL_byt hk) hb
 have hEl := enc_len (Ci.exL key) b
 generalize Ci.enc (Ci.exL key) b = E at *
 generalize Ci.exL key = L at *
 have hzv := zero16
 have hsz0 : (Tryd.prog.info? 22).map (·.size) = some (va .u8 key).size := by rw [va_size, hkl]; kernel_rfl
 have hsz1 : (Tryd.prog.info? 22).map (·.size) = some (va .u8 b).size := by rw [va_size, hbl]; kernel_rfl
 have hsz2 : (Tryd.prog.info? 22).map (·.size) = some (va .u8 E).size := by rw [va_size, hEl]; kernel_rfl
 have hm : ReMem w.heap.size key b w (((w.alloc (.cells (va .u8 key) 22)).alloc (.cells (va .u8 b) 22)).alloc (.cells (va .u8 z16) 22)) :=
  ⟨((Blk.new _ _ _).alloc _).alloc _, (Blk.newAt (by simp)).alloc _, ⟨va .u8 z16, Blk.newAt (by simp), by rw [va_size, z16_len]⟩, (((Below.refl _ _).alloc (Nat.le_refl _) _).alloc (by simp) _).alloc (by simp <;> omega) _⟩
 have hmm := Lib.hid hm
 have hs0 := Lib.hid hsz0
 have hs1 := Lib.hid hsz1
 have hs2 := Lib.hid hsz2
 have hc1h := Lib.hid hc1
 have hc2h := Lib.hid hc2
 clear hm hsz0 hsz1 hsz2 hc1 hc2
 go_enter Tryd.func82, Tryd.ntmps82
 go_upto_region 1 with fail
 clear hzv
 refine wp_region_held_drew (S := ReMem w.heap.size key b w) (by kernel_rfl) hmm.out.drew_ (fun hH => ?_)
 refine takeH 4 0 5 (.agg (va .u8 key)) rfl rfl (by kernel_rfl) (by kernel_rfl) (by kernel_rfl) (fun _ _ _ h => h) (yieldsIf_load_blk (by rfl) 22 (.tmp 2) rfl w.heap.size rfl 22 (va .u8 key) _ (fun _ h => h.k) Tryd.underlying22 rfl hs0.out) hH ?_
 simp only [Ls]
 refine takeH 3 2 7 (.agg (va .u8 b)) rfl rfl (by kernel_rfl) (by kernel_rfl) (by kernel_rfl) (fun _ _ _ h => h) (yieldsIf_load_blk (by rfl) 22 (.tmp 3) rfl (w.heap.size + 1) rfl 22 (va .u8 b) _ (fun _ h => h.b) Tryd.underlying22 rfl hs1.out) hH ?_
 simp only [Ls]
 refine callH 2 1 6 rfl rfl (by rfl) (by kernel_rfl) (fun K hK => ?_)
 go_simp
 refine (hc1h.out _).mono ?_
 rintro e w' ⟨rfl, bK⟩
 dsimp only
 refine hK.out _ _ (hH.below bK) (fun hH => ?_)
 clear hK K bK
 simp only [Ls]
 refine callH 1 3 8 rfl rfl (by rfl) (by kernel_rfl) (fun K hK => ?_)
 go_simp
 refine (hc2h.out _).mono ?_
 rintro e w' ⟨rfl, bK⟩
 dsimp only
 refine hK.out _ _ (hH.below bK) (fun hH => ?_)
 clear hK K bK
 simp only [Ls]
 obtain ⟨c0, hc0, hc16⟩ := hH.r
 refine storeH 0 4 rfl rfl (by rfl) (by kernel_rfl) 22 (.tmp 4) (.tmp 8) rfl (w.heap.size + 1 + 1) rfl (va .u8 E) rfl 22 c0 hc0 (by rw [hc16, va_size, hEl]) hs2.out (fun v hv => nv_one .u8 E v (by simpa [va] using hv)) (hH.row _ (by rw [va_size, hEl])) (fun hH => ?_)
 refine wpAnyH_done (by kernel_rfl) ?_ _
 go_wp2_with fail
 exact bodyPost_ret (results_cell_row rfl _ _ (w.heap.size + 1 + 1) 22 (va .u8 E) (0, 0) _ rfl (hc0.row _) Tryd.underlying22 rfl hs2.out) rfl ⟨rfl, hH.bel⟩


end Go.Proofs.YtcfddmplnoknlaaDoor
namespace Go.Proofs.YtcfddmplnoknlaaDoor
set_option maxRecDepth 16384
open Go.RowKit Sh

def cbl (s c k : Nat) : List Nat := beB s 4 ++ (beB c 8 ++ beB k 4)
theorem cbl_len (s c k : Nat) : (cbl s c k).length = 16 := by simp [cbl, beB_len]
theorem cbl_byt (s c k : Nat) : Byt (cbl s c k) := (beB_byt _ _).app ((beB_byt _ _).app (beB_byt _ _))
def sbl (key : List Nat) (s c k : Nat) : List Nat := Ci.enc (Ci.exL key) (cbl s c k)
theorem sbl_len (key : List Nat) (s c k : Nat) : (sbl key s c k).length = 16 := enc_len _ _

set_option maxRecDepth 8000 in
set_option maxHeartbeats 2000000 in
theorem counter_any (s c k : Nat) (hs : s < 4294967296) (hk : k < 4294967296) (w : World) :
  Calls Tryd.prog 41 #[.agg (noV s c), .int .u32 (k : Int)] w fun e w' => e = .returned (.agg (va .u8 (cbl s c k))) ∧ Below w.heap.size w w' := by
 obtain ⟨B0, hB0e, hW, hB0⟩ := stB w
 rw [hB0e]
 have hB0q := Lib.hid hB0e
 clear hB0e
 go_enter Tryd.func41, Tryd.ntmps41
 go_upto_region 0 with fail
 refine wl_lit ?_
 refine runWL 2 (.pointer (some ⟨w.heap.size, 0, none⟩)) (w.alloc (.cells (noV s c) 30)) rfl (by rfl) (exec_box 30 (.tmp 0) rfl (.agg (noV s c)) rfl) ?_
 simp only [Ls]
 have lw_p2 := Nat.le_trans hB0 hW.size
 have hp2 := Blk.new w 30 (noV s c)
 replace hW := alB hW hB0 (.cells (noV s c) 30)
 generalize w.alloc (.cells (noV s c) 30) = w1 at *
 generalize w.heap.size = p2 at hp2 lw_p2  ⊢
 refine runWL 4 (.pointer (some ⟨w1.heap.size, 0, none⟩)) (w1.alloc (.cells (va .u8 (List.replicate 16 0)) 22)) rfl (by rfl) (exec_allocV 22 rfl _ (zv__16_uint8 _)) ?_
 simp only [Ls]
 have lp2_p4 := hp2.lt
 have lw_p4 := Nat.le_trans hB0 hW.size
 have hp4 := Blk.new w1 22 (va .u8 (List.replicate 16 0))
 have bx := bAl w1 (.cells (va .u8 (List.replicate 16 0)) 22)
 replace hp2 := blB hp2 bx
 replace hW := trB hW hB0 bx
 clear bx
 generalize w1.alloc (.cells (va .u8 (List.replicate 16 0)) 22) = w2 at *
 generalize w1.heap.size = p4 at hp4 lw_p4 lp2_p4 ⊢
 refine nilL ?_
 go_upto_region 1 with fail
 replace hp4 := hp4.drew
 refine wp_region_held_drew (S := fun wr => Blk wr p2 30 (noV s c) ∧ Below B0 w wr) (by kernel_rfl) ⟨hp2.drew, below_drewN hW 1⟩ (fun hH => ?_)
 clear hp2 hW
 obtain ⟨hp2, hW⟩ := hH
 generalize w2.drew = w3 at *
 refine takeH 11 0 5 (.slice (some ⟨p4, 0, none⟩) 16 16) rfl rfl (by kernel_rfl) (by kernel_rfl) (by kernel_rfl) (fun _ _ _ h => h) (Or.inl ⟨by rfl, fun w _ => by go_simp⟩) ⟨hp2, hW⟩ ?_
 simp only [Ls]
 refine takeH 10 1 6 (.pointer (some ⟨p2, 0, none⟩)) rfl rfl (by kernel_rfl) (by kernel_rfl) (by kernel_rfl) (fun _ _ _ h => h) (Or.inl ⟨by rfl, fun w _ => by go_simp⟩) ⟨hp2, hW⟩ ?_
 simp only [Ls]
 refine takeH 9 2 7 (.int .u32 (((s : Nat) : Int))) rfl rfl (by kernel_rfl) (by kernel_rfl) (by kernel_rfl) (fun _ _ _ h => h) (Or.inl ⟨by rfl, fun _ h => exec_cell 27 (.tmp 6) rfl p2 0 rfl (.int .u32 (((s : Nat) : Int))) _ Tryd.underlying27 rfl (h.1.cellIs 0 rfl)⟩) ⟨hp2, hW⟩ ?_
 simp only [Ls]
 refine takeH 8 4 9 (.pointer (some ⟨p2, 1, none⟩)) rfl rfl (by kernel_rfl) (by kernel_rfl) (by kernel_rfl) (fun _ _ _ h => h) (Or.inl ⟨by rfl, fun w _ => by go_simp⟩) ⟨hp2, hW⟩ ?_
 simp only [Ls]
 refine takeH 7 5 10 (.int .u64 (((c : Nat) : Int))) rfl rfl (by kernel_rfl) (by kernel_rfl) (by kernel_rfl) (fun _ _ _ h => h) (Or.inl ⟨by rfl, fun _ h => exec_cell 28 (.tmp 9) rfl p2 1 rfl (.int .u64 (((c : Nat) : Int))) _ Tryd.underlying28 rfl (h.1.cellIs 1 rfl)⟩) ⟨hp2, hW⟩ ?_
 simp only [Ls]
 refine takeH 6 7 12 (.int .u32 (k : Int)) rfl rfl (by kernel_rfl) (by kernel_rfl) (by kernel_rfl) (fun _ _ _ h => h) (Or.inl ⟨by rfl, fun w _ => by go_simp⟩) ⟨hp2, hW⟩ ?_
 simp only [Ls]
 refine wpAnyH_ready (by kernel_rfl) (by simp) (readyCons 5 3 8 rfl rfl (by rfl) (fun K hK => wp_callF 43 #[.int .u32 (((s : Nat) : Int))] (by go_simp) (put32_to s (beB s 4) rfl hs _) ?_) AllReadyH.nil)
 rintro e w4 ⟨g1, rfl, hg1, hgg, bx⟩
 have lp2_g1 : p2 < g1 := Nat.lt_of_lt_of_le hp2.lt hgg
 have lp4_g1 : p4 < g1 := Nat.lt_of_lt_of_le hp4.lt hgg
 have lw_g1 : B0 ≤ g1 := Nat.le_trans (Nat.le_trans hB0 hW.size) hgg
 replace hp2 := blB hp2 bx
 replace hp4 := blB hp4 bx
 replace hW := trB hW hB0 bx
 clear hgg
 clear bx
 refine ⟨_, rfl, hK.out _ _ ⟨hp2, hW⟩ (fun _ => ?_)⟩
 clear hK K
 simp only [Ls]
 refine wpAnyH_ready (by kernel_rfl) (by simp) (readyCons 4 6 11 rfl rfl (by rfl) (fun K hK => wp_callF 65 #[.int .u64 (((c : Nat) : Int))] (by go_simp) (put64_to c (beB c 8) rfl _) ?_) AllReadyH.nil)
 rintro e w5 ⟨g2, rfl, hg2, hgg, bx⟩
 have lp2_g2 : p2 < g2 := Nat.lt_of_lt_of_le hp2.lt hgg
 have lp4_g2 : p4 < g2 := Nat.lt_of_lt_of_le hp4.lt hgg
 have lg1_g2 : g1 < g2 := Nat.lt_of_lt_of_le hg1.lt hgg
 have lw_g2 : B0 ≤ g2 := Nat.le_trans (Nat.le_trans hB0 hW.size) hgg
 replace hp2 := blB hp2 bx
 replace hp4 := blB hp4 bx
 replace hg1 := blB hg1 bx
 replace hW := trB hW hB0 bx
 clear hgg
 clear bx
 refine ⟨_, rfl, hK.out _ _ ⟨hp2, hW⟩ (fun _ => ?_)⟩
 clear hK K
 simp only [Ls]
 refine wpAnyH_ready (by kernel_rfl) (by simp) (readyCons 3 8 13 rfl rfl (by rfl) (fun K hK => wp_callF 43 #[.int .u32 (k : Int)] (by go_simp) (put32_to k (beB k 4) rfl hk _) ?_) AllReadyH.nil)
 rintro e w6 ⟨g3, rfl, hg3, hgg, bx⟩
 have lp2_g3 : p2 < g3 := Nat.lt_of_lt_of_le hp2.lt hgg
 have lp4_g3 : p4 < g3 := Nat.lt_of_lt_of_le hp4.lt hgg
 have lg1_g3 : g1 < g3 := Nat.lt_of_lt_of_le hg1.lt hgg
 have lg2_g3 : g2 < g3 := Nat.lt_of_lt_of_le hg2.lt hgg
 have lw_g3 : B0 ≤ g3 := Nat.le_trans (Nat.le_trans hB0 hW.size) hgg
 replace hp2 := blB hp2 bx
 replace hp4 := blB hp4 bx
 replace hg1 := blB hg1 bx
 replace hg2 := blB hg2 bx
 replace hW := trB hW hB0 bx
 clear hgg
 clear bx
 refine ⟨_, rfl, hK.out _ _ ⟨hp2, hW⟩ (fun _ => ?_)⟩
 clear hK K
 simp only [Ls]
 refine wpAnyH_ready (by kernel_rfl) (by simp) (readyRun 2 9 14 (.slice (some ⟨w6.heap.size, 0, none⟩) 3 3) (w6.alloc (.cells (#[.slice (some ⟨g1, 0, none⟩) 4 4, .slice (some ⟨g2, 0, none⟩) 8 8, .slice (some ⟨g3, 0, none⟩) 4 4]) 34)) rfl rfl (by rfl) (exec_bslice 90 3 _ rfl _ (by exact bs_3 (some ⟨g1, 0, none⟩) 4 4 (some ⟨g2, 0, none⟩) 8 8 (some ⟨g3, 0, none⟩) 4 4 _)) ⟨hp2.alloc _, hW.alloc (Nat.le_trans hB0 hW.size) _⟩ (fun _ => ?_) AllReadyH.nil)
 simp only [Ls]
 have lp2_q1 := hp2.lt
 have lp4_q1 := hp4.lt
 have lg1_q1 := hg1.lt
 have lg2_q1 := hg2.lt
 have lg3_q1 := hg3.lt
 have lw_q1 := Nat.le_trans hB0 hW.size
 have hq1 : Blk (w6.alloc (.cells (#[.slice (some ⟨g1, 0, none⟩) 4 4, .slice (some ⟨g2, 0, none⟩) 8 8, .slice (some ⟨g3, 0, none⟩) 4 4]) 34)) w6.heap.size 34 (#[.slice (some ⟨g1, 0, none⟩) 4 4, .slice (some ⟨g2, 0, none⟩) 8 8, .slice (some ⟨g3, 0, none⟩) 4 4]) := Blk.new _ _ _
 have bx := bAl w6 (.cells (#[.slice (some ⟨g1, 0, none⟩) 4 4, .slice (some ⟨g2, 0, none⟩) 8 8, .slice (some ⟨g3, 0, none⟩) 4 4]) 34)
 replace hp2 := blB hp2 bx
 replace hp4 := blB hp4 bx
 clear bx
 replace hg1 := hg1.alloc (.cells (#[.slice (some ⟨g1, 0, none⟩) 4 4, .slice (some ⟨g2, 0, none⟩) 8 8, .slice (some ⟨g3, 0, none⟩) 4 4]) 34)
 replace hg2 := hg2.alloc (.cells (#[.slice (some ⟨g1, 0, none⟩) 4 4, .slice (some ⟨g2, 0, none⟩) 8 8, .slice (some ⟨g3, 0, none⟩) 4 4]) 34)
 replace hg3 := hg3.alloc (.cells (#[.slice (some ⟨g1, 0, none⟩) 4 4, .slice (some ⟨g2, 0, none⟩) 8 8, .slice (some ⟨g3, 0, none⟩) 4 4]) 34)
 replace hW := alB hW hB0 (.cells (#[.slice (some ⟨g1, 0, none⟩) 4 4, .slice (some ⟨g2, 0, none⟩) 8 8, .slice (some ⟨g3, 0, none⟩) 4 4]) 34)
 generalize w6.alloc (.cells (#[.slice (some ⟨g1, 0, none⟩) 4 4, .slice (some ⟨g2, 0, none⟩) 8 8, .slice (some ⟨g3, 0, none⟩) 4 4]) 34) = w7 at *
 generalize w6.heap.size = q1 at hq1 lw_q1 lp2_q1 lp4_q1 lg1_q1 lg2_q1 lg3_q1 ⊢
 refine wpAnyH_ready (by kernel_rfl) (by simp) (readyCons 1 10 15 rfl rfl (by rfl) (fun K hK => wp_callF 42 #[.slice (some ⟨q1, 0, none⟩) 3 3] (by go_simp) (join_to [beB s 4, beB c 8, beB k 4] (cbl s c k) 3 3 _ 16 _ _ (parts_three hg1.lt hg2.lt hg3.lt hq1 (hg1.readsAll (Nat.lt_succ_self _) (beB_len _ _)) (Nat.le_refl _) (beB_byt _ _) (hg2.readsAll (Nat.lt_succ_self _) (beB_len _ _)) (Nat.le_refl _) (beB_byt _ _) (hg3.readsAll (Nat.lt_succ_self _) (beB_len _ _)) (Nat.le_refl _) (beB_byt _ _)) (by simp [cbl]) (by omega) (Nat.le_refl _) (cbl_len _ _ _) (by omega)) ?_) AllReadyH.nil)
 rintro e w8 ⟨g4, rfl, hg4, hgg, bx⟩
 have lp2_g4 : p2 < g4 := Nat.lt_of_lt_of_le hp2.lt hgg
 have lp4_g4 : p4 < g4 := Nat.lt_of_lt_of_le hp4.lt hgg
 have lg1_g4 : g1 < g4 := Nat.lt_of_lt_of_le hg1.lt hgg
 have lg2_g4 : g2 < g4 := Nat.lt_of_lt_of_le hg2.lt hgg
 have lg3_g4 : g3 < g4 := Nat.lt_of_lt_of_le hg3.lt hgg
 have lq1_g4 : q1 < g4 := Nat.lt_of_lt_of_le hq1.lt hgg
 have lw_g4 : B0 ≤ g4 := Nat.le_trans (Nat.le_trans hB0 hW.size) hgg
 replace hp2 := blB hp2 bx
 replace hp4 := blB hp4 bx
 replace hg1 := blB hg1 bx
 replace hg2 := blB hg2 bx
 replace hg3 := blB hg3 bx
 replace hq1 := blB hq1 bx
 replace hW := trB hW hB0 bx
 clear hgg
 clear bx
 refine ⟨_, rfl, hK.out _ _ ⟨hp2, hW⟩ (fun _ => ?_)⟩
 clear hK K
 simp only [Ls]
 refine wpAnyH_ready (by kernel_rfl) (by simp) (readyRun 0 11 16 (.int .i64 16) (w8.setRow p4 (va .u8 (cbl s c k))) rfl rfl (by rfl) (exec_copy _ _ _ _ rfl _ _ _ rfl rfl (copy_row _ _ _ Tryd.underlying34 p4 0 16 16 22 (List.replicate 16 0) hp4 (some ⟨g4, 0, none⟩) 16 16 _ (cbl s c k) (hg4.readsAll (Nat.lt_succ_self _) (cbl_len _ _ _)) (by omega) (by simp) (cbl s c k) (by simp [-List.reduceReplicate]))) ⟨hp2.rowFar (show p4 ≠ p2 from (by omega)) _, below_setRow hW lw_p4 _⟩ (fun _ => ?_) AllReadyH.nil)
 simp only [Ls]
 replace hp2 := hp2.rowFar (show p4 ≠ p2 from (by omega)) (va .u8 (cbl s c k))
 replace hg1 := hg1.rowFar (show p4 ≠ g1 from (by omega)) (va .u8 (cbl s c k))
 replace hg2 := hg2.rowFar (show p4 ≠ g2 from (by omega)) (va .u8 (cbl s c k))
 replace hg3 := hg3.rowFar (show p4 ≠ g3 from (by omega)) (va .u8 (cbl s c k))
 replace hq1 := hq1.rowFar (show p4 ≠ q1 from (by omega)) (va .u8 (cbl s c k))
 replace hg4 := hg4.rowFar (show p4 ≠ g4 from (by omega)) (va .u8 (cbl s c k))
 replace hp4 := hp4.row (va .u8 (cbl s c k))
 replace hW := below_setRow hW lw_p4 (va .u8 (cbl s c k))
 generalize w8.setRow p4 (va .u8 (cbl s c k)) = w9 at *
 refine wpAnyH_done (by kernel_rfl) ?_ _
 go_upto_region 2 with fail
 refine wl_lit ?_
 refine runL 17 (.agg (va .u8 (cbl s c k))) rfl (by rfl) (exec_row 22 (.tmp 4) rfl p4 rfl 22 (va .u8 (cbl s c k)) _ hp4 (by exact Tryd.underlying22) rfl (sz__16_uint8 _ (cbl_len _ _ _))) ?_
 simp only [Ls]
 refine runSL (w9.setRow p4 (va .u8 (cbl s c k))) rfl (by rfl) (exec_storeRow 22 (.tmp 4) (.tmp 17) rfl p4 rfl (va .u8 (cbl s c k)) rfl 22 (va .u8 (cbl s c k)) hp4 (sz_eq (sz__16_uint8 _ (cbl_len _ _ _)) (sz__16_uint8 _ (cbl_len _ _ _))) (sz__16_uint8 _ (cbl_len _ _ _)) (va_ones .u8 _)) ?_
 replace hp2 := hp2.rowFar (show p4 ≠ p2 from (by omega)) (va .u8 (cbl s c k))
 replace hg1 := hg1.rowFar (show p4 ≠ g1 from (by omega)) (va .u8 (cbl s c k))
 replace hg2 := hg2.rowFar (show p4 ≠ g2 from (by omega)) (va .u8 (cbl s c k))
 replace hg3 := hg3.rowFar (show p4 ≠ g3 from (by omega)) (va .u8 (cbl s c k))
 replace hq1 := hq1.rowFar (show p4 ≠ q1 from (by omega)) (va .u8 (cbl s c k))
 replace hg4 := hg4.rowFar (show p4 ≠ g4 from (by omega)) (va .u8 (cbl s c k))
 replace hp4 := hp4.row (va .u8 (cbl s c k))
 replace hW := below_setRow hW lw_p4 (va .u8 (cbl s c k))
 generalize w9.setRow p4 (va .u8 (cbl s c k)) = w10 at *
 refine nilL ?_
 go_wp2_with fail
 exact bodyPost_ret (results_cell_row rfl _ _ p4 22 (va .u8 (cbl s c k)) (0, 0) _ rfl hp4 (by exact Tryd.underlying22) rfl (sz__16_uint8 _ (cbl_len _ _ _))) rfl ⟨rfl, hW⟩

set_option maxRecDepth 8000 in
set_option maxHeartbeats 2000000 in
theorem sblock_any (key : List Nat) (s c k : Nat) (hkl : key.length = 16) (hkb : Byt key) (hs : s < 4294967296) (hk : k < 4294967296) (w : World) :
  Calls Tryd.prog 20 #[.agg (va .u8 key), .agg (noV s c), .int .u32 (k : Int)] w fun e w' => e = .returned (.agg (va .u8 (sbl key s c k))) ∧ Below w.heap.size w w' := by
 obtain ⟨B0, hB0e, hW, hB0⟩ := stB w
 rw [hB0e]
 have hB0q := Lib.hid hB0e
 clear hB0e
 go_enter Tryd.func20, Tryd.ntmps20
 go_upto_region 0 with fail
 refine wl_lit ?_
 refine runWL 3 (.pointer (some ⟨w.heap.size, 0, none⟩)) (w.alloc (.cells (va .u8 key) 22)) rfl (by rfl) (exec_box 22 (.tmp 0) rfl (.agg (va .u8 key)) rfl) ?_
 simp only [Ls]
 have lw_p3 := Nat.le_trans hB0 hW.size
 have hp3 := Blk.new w 22 (va .u8 key)
 replace hW := alB hW hB0 (.cells (va .u8 key) 22)
 generalize w.alloc (.cells (va .u8 key) 22) = w1 at *
 generalize w.heap.size = p3 at hp3 lw_p3  ⊢
 refine runWL 4 (.pointer (some ⟨w1.heap.size, 0, none⟩)) (w1.alloc (.cells (noV s c) 30)) rfl (by rfl) (exec_box 30 (.tmp 1) rfl (.agg (noV s c)) rfl) ?_
 simp only [Ls]
 have lp3_p4 := hp3.lt
 have lw_p4 := Nat.le_trans hB0 hW.size
 have hp4 := Blk.new w1 30 (noV s c)
 have bx := bAl w1 (.cells (noV s c) 30)
 replace hp3 := blB hp3 bx
 replace hW := trB hW hB0 bx
 clear bx
 generalize w1.alloc (.cells (noV s c) 30) = w2 at *
 generalize w1.heap.size = p4 at hp4 lw_p4 lp3_p4 ⊢
 refine runWL 6 (.pointer (some ⟨w2.heap.size, 0, none⟩)) (w2.alloc (.cells (va .u8 (List.replicate 16 0)) 22)) rfl (by rfl) (exec_allocV 22 rfl _ (zv__16_uint8 _)) ?_
 simp only [Ls]
 have lp3_p6 := hp3.lt
 have lp4_p6 := hp4.lt
 have lw_p6 := Nat.le_trans hB0 hW.size
 have hp6 := Blk.new w2 22 (va .u8 (List.replicate 16 0))
 have bx := bAl w2 (.cells (va .u8 (List.replicate 16 0)) 22)
 replace hp3 := blB hp3 bx
 replace hp4 := blB hp4 bx
 replace hW := trB hW hB0 bx
 clear bx
 generalize w2.alloc (.cells (va .u8 (List.replicate 16 0)) 22) = w3 at *
 generalize w2.heap.size = p6 at hp6 lw_p6 lp3_p6 lp4_p6 ⊢
 refine nilL ?_
 go_upto_region 1 with fail
 replace hp6 := hp6.drew
 refine wp_region_held_drew (S := fun wr => Blk wr p3 22 (va .u8 key) ∧ Blk wr p4 30 (noV s c) ∧ Below B0 w wr) (by kernel_rfl) ⟨hp3.drew, hp4.drew, below_drewN hW 1⟩ (fun hH => ?_)
 clear hp3 hp4 hW
 obtain ⟨hp3, hp4, hW⟩ := hH
 generalize w3.drew = w4 at *
 refine takeH 6 0 7 (.agg (va .u8 key)) rfl rfl (by kernel_rfl) (by kernel_rfl) (by kernel_rfl) (fun _ _ _ h => h) (Or.inl ⟨by rfl, fun _ h => exec_row 22 (.tmp 3) rfl p3 rfl 22 (va .u8 key) _ h.1 (by exact Tryd.underlying22) rfl (sz__16_uint8 _ hkl)⟩) ⟨hp3, hp4, hW⟩ ?_
 simp only [Ls]
 refine takeH 5 2 9 (.agg (noV s c)) rfl rfl (by kernel_rfl) (by kernel_rfl) (by kernel_rfl) (fun _ _ _ h => h) (Or.inl ⟨by rfl, fun _ h => exec_row 30 (.tmp 4) rfl p4 rfl 30 (noV s c) _ h.2.1 (by exact Tryd.underlying30) rfl (noV_sz _ _)⟩) ⟨hp3, hp4, hW⟩ ?_
 simp only [Ls]
 refine takeH 4 3 10 (.int .u32 (k : Int)) rfl rfl (by kernel_rfl) (by kernel_rfl) (by kernel_rfl) (fun _ _ _ h => h) (Or.inl ⟨by rfl, fun w _ => by go_simp⟩) ⟨hp3, hp4, hW⟩ ?_
 simp only [Ls]
 refine wpAnyH_ready (by kernel_rfl) (by simp) (readyCons 3 1 8 rfl rfl (by rfl) (fun K hK => wp_callF 39 #[.agg (va .u8 key)] (by go_simp) (expand_any key hkl hkb _) ?_) AllReadyH.nil)
 rintro e w5 ⟨rfl, bx⟩
 replace hp3 := blB hp3 bx
 replace hp4 := blB hp4 bx
 replace hp6 := blB hp6 bx
 replace hW := trB hW hB0 bx
 clear bx
 refine ⟨_, rfl, hK.out _ _ ⟨hp3, hp4, hW⟩ (fun _ => ?_)⟩
 clear hK K
 simp only [Ls]
 refine wpAnyH_ready (by kernel_rfl) (by simp) (readyCons 2 4 11 rfl rfl (by rfl) (fun K hK => wp_callF 41 #[.agg (noV s c), .int .u32 (k : Int)] (by go_simp) (counter_any s c k hs hk _) ?_) AllReadyH.nil)
 rintro e w6 ⟨rfl, bx⟩
 replace hp3 := blB hp3 bx
 replace hp4 := blB hp4 bx
 replace hp6 := blB hp6 bx
 replace hW := trB hW hB0 bx
 clear bx
 refine ⟨_, rfl, hK.out _ _ ⟨hp3, hp4, hW⟩ (fun _ => ?_)⟩
 clear hK K
 simp only [Ls]
 refine wpAnyH_ready (by kernel_rfl) (by simp) (readyCons 1 5 12 rfl rfl (by rfl) (fun K hK => wp_callF 40 #[.agg (va .u8 (Ci.exL key)), .agg (va .u8 (cbl s c k))] (by go_simp) (encrypt_any (Ci.exL key) (cbl s c k) (Ci.exL_len key) (cbl_len _ _ _) (Ci.exL_byt hkb) (cbl_byt _ _ _) _) ?_) AllReadyH.nil)
 rintro e w7 ⟨rfl, bx⟩
 replace hp3 := blB hp3 bx
 replace hp4 := blB hp4 bx
 replace hp6 := blB hp6 bx
 replace hW := trB hW hB0 bx
 clear bx
 refine ⟨_, rfl, hK.out _ _ ⟨hp3, hp4, hW⟩ (fun _ => ?_)⟩
 clear hK K
 simp only [Ls]
 refine wpAnyH_ready (by kernel_rfl) (by simp) (readyRunS 0 6 (w7.setRow p6 (va .u8 (sbl key s c k))) rfl rfl (by rfl) (exec_storeRow 22 (.tmp 6) (.tmp 12) rfl p6 rfl (va .u8 (sbl key s c k)) rfl 22 (va .u8 (List.replicate 16 0)) hp6 (sz_eq (sz__16_uint8 _ (List.length_replicate)) (sz__16_uint8 _ (sbl_len _ _ _ _))) (sz__16_uint8 _ (sbl_len _ _ _ _)) (va_ones .u8 _)) ⟨hp3.rowFar (show p6 ≠ p3 from (by omega)) _, hp4.rowFar (show p6 ≠ p4 from (by omega)) _, below_setRow hW lw_p6 _⟩ (fun _ => ?_) AllReadyH.nil)
 replace hp3 := hp3.rowFar (show p6 ≠ p3 from (by omega)) (va .u8 (sbl key s c k))
 replace hp4 := hp4.rowFar (show p6 ≠ p4 from (by omega)) (va .u8 (sbl key s c k))
 replace hp6 := hp6.row (va .u8 (sbl key s c k))
 replace hW := below_setRow hW lw_p6 (va .u8 (sbl key s c k))
 generalize w7.setRow p6 (va .u8 (sbl key s c k)) = w8 at *
 refine wpAnyH_done (by kernel_rfl) ?_ _
 go_wp2_with fail
 exact bodyPost_ret (results_cell_row rfl _ _ p6 22 (va .u8 (sbl key s c k)) (0, 0) _ rfl hp6 (by exact Tryd.underlying22) rfl (sz__16_uint8 _ (sbl_len _ _ _ _))) rfl ⟨rfl, hW⟩
end Go.Proofs.YtcfddmplnoknlaaDoor
