/-
  The walks of New, Initial and State.Sum.
-/
import Derived.Test.YtcdmbknmmnaocaaDoorDig4
import Derived.Deep.LoopGhost
import Derived.Deep.RegionHeld3
import Derived.Deep.DeepCutAuto
import Derived.Test.YtcdmbknmmnaocaaDoorStep
namespace Go.Proofs.YtcdmbknmmnaocaaDoor
open Go.RowKit Sh

theorem stOk_nil : StOk [] hL z64 := ⟨rfl, z64_len, Byt.rep 64 0 (by omega), rfl⟩
theorem foldNew : List.foldl (fun (cs : Array Value) (x : Value × Nat) => cs.setIfInBounds (1 + x.snd) x.fst) (sEmpty.setIfInBounds 0 (Value.bool true)) (nv IntKind.u32 hL).zipIdx = stL true hL z64 0 := by kernel_rfl

set_option maxRecDepth 100000 in
set_option maxHeartbeats 400000 in
theorem new_any (w : World) (hg : Glob w) :
    Calls Tryd.prog 22 #[] w fun e w' => e = .returned (.agg (stL true hL z64 0)) ∧ Below w.heap.size w w' := by
  have hzv := zvS
  have hs8 : (Tryd.prog.info? 54).map (·.size) = some (nv .u32 hL).length := by rw [nv_len, hL_len]; kernel_rfl
  have hs8' := Lib.hid hs8
  have hb := foldNew
  have hst := run_storeNewA (P := Tryd.prog) w 58 sEmpty (stL true hL z64 0) (by rw [sEmpty_size, stL_size _ _ _ _ hL_len z64_len]) (stL_one _ _ _ _)
  have hvs : (stL true hL z64 0).size = 74 := stL_size _ _ _ _ hL_len z64_len
  clear hs8
  go_enter Tryd.func22, Tryd.ntmps22
  go_wp2_with (refine wpList_load_mid rfl 54 (.global 0) rfl 0 0 rfl (nv .u32 hL) _ (hg.alloc _).h Tryd.underlying54 rfl hs8'.out ?_)
  have hsz : (Tryd.prog.info? 58).map (·.size) = some (stL true hL z64 0).size := by rw [hvs]; kernel_rfl
  exact bodyPost_ret (results_cell_row rfl _ _ w.heap.size 58 (stL true hL z64 0) (0, 0) _ rfl (Blk.new _ _ _) Tryd.underlying58 rfl hsz) rfl ⟨rfl, (Below.refl _ _).alloc (Nat.le_refl _) _⟩

/-- 32 zeros -/
def z32 : List Nat := List.replicate 32 0
theorem z32_len : z32.length = 32 := List.length_replicate ..
theorem zvD (w : World) : (zeroValue 25).run Tryd.prog w = .ok (.agg (va .u8 z32)) w := by kernel_rfl

/-- the result after i words -/
def outl (h : List Nat) (i : Nat) : List Nat := (List.range 32).map fun j => if j / 4 < i then beAt (h.getD (j / 4) 0) 4 (j % 4) else 0
theorem outl_len (h : List Nat) (i : Nat) : (outl h i).length = 32 := by simp [outl]
theorem outl_zero (h : List Nat) : outl h 0 = z32 := by kernel_rfl
theorem outl_done (h : List Nat) : outl h 8 = flat h := by kernel_rfl
theorem outl_step (h : List Nat) : ∀ i, i < 8 → (outl h i).take (4 * i) ++ (beB (h.getD i 0) 4 ++ (outl h i).drop (4 * i + 4)) = outl h (i + 1)
  | 0, _ => by kernel_rfl
  | 1, _ => by kernel_rfl
  | 2, _ => by kernel_rfl
  | 3, _ => by kernel_rfl
  | 4, _ => by kernel_rfl
  | 5, _ => by kernel_rfl
  | 6, _ => by kernel_rfl
  | 7, _ => by kernel_rfl
  | n + 8, h => by omega

/-- the blocks of Sum -/
structure SumSt (G : Nat) (l h r out : List Nat) (w wr : World) : Prop where
  s : Blk wr G 58 (stL true h r l.length)
  d : Blk wr (G + 1) 25 (va .u8 out)
  ok : StOk l h r
  ol : out.length = 32
  bel : Below G w wr

/-- Write of bytes that fill a block -/
theorem write_new (l h r m : List Nat) (L n : Nat) (hL : l.length = L) (hn : m.length = n) (hok : StOk l h r) (hm : Byt m) (hlen : L + n < 4611686018427387904) (w : World) (hg : Glob w) (g : Nat) (hb : Blk w g 5 (va .u8 m)) :
    Calls Tryd.prog 23 #[.agg (stL true h r L), .slice (some ⟨g, 0, none⟩) n n] w fun e w' =>
      ∃ h' r' n', e = .returned (.agg (stL true h' r' n')) ∧ n' = (l ++ m).length ∧ StOk (l ++ m) h' r' ∧ Below w.heap.size w w' := by
  subst hL hn
  refine (write_any l h r m _ m.length m.length w.heap.size hok hm (Nat.le_refl _) hlen _ hg (by have := hb.reads hb.lt 0 m.length (by simp); simpa using this) (Nat.le_refl _)).mono ?_
  rintro e w' ⟨h', r', he, ok, b⟩
  exact ⟨h', r', _, he, rfl, ok, b⟩

theorem byt_one (x : Nat) (hx : x < 256) : Byt [x] := fun y hy => by simp at hy; omega

/-- Write of one byte that stands in a new block -/
theorem write_one (l h r : List Nat) (x L : Nat) (hL : l.length = L) (hx : x < 256) (hok : StOk l h r) (hlen : L + 1 < 4611686018427387904) (W : World) (hg : Glob W) (g : Nat) (hgg : W.heap.size = g) :
    Calls Tryd.prog 23 #[.agg (stL true h r L), .slice (some ⟨g, 0, none⟩) 1 1] (W.alloc (.cells #[.int .u8 (x : Int)] 5)) fun e w' =>
      ∃ h' r' n', e = .returned (.agg (stL true h' r' n')) ∧ n' = (l ++ [x]).length ∧ StOk (l ++ [x]) h' r' ∧ Below (W.alloc (.cells #[.int .u8 (x : Int)] 5)).heap.size (W.alloc (.cells #[.int .u8 (x : Int)] 5)) w' := by
  subst hgg
  have hb : Blk (W.alloc (.cells #[.int .u8 (x : Int)] 5)) W.heap.size 5 (va .u8 [x]) := Blk.new _ _ _
  exact write_new l h r [x] L 1 hL rfl hok (byt_one x hx) hlen _ (hg.alloc _) _ hb

set_option maxRecDepth 100000 in
set_option maxHeartbeats 1600000 in
theorem sum_any (l h r : List Nat) (hok : StOk l h r) (hlen : l.length < 1152921504606846976) (w : World) (hg : Glob w) :
    Calls Tryd.prog 25 #[.agg (stL true h r l.length)] w fun e w' => e = .returned (.agg (va .u8 (sha l))) ∧ Below w.heap.size w w' := by
  have hzv := zvD
  go_enter Tryd.func25, Tryd.ntmps25
  have hm0 : SumSt w.heap.size l h r z32 w ((w.alloc (.cells (stL true h r l.length) 58)).alloc (.cells (va .u8 z32) 25)) := by
    refine ⟨(Blk.new _ _ _).alloc _, ?_, hok, z32_len, ((Below.refl _ _).alloc (Nat.le_refl _) _).alloc (by simp) _⟩
    have := Blk.new (w.alloc (.cells (stL true h r l.length) 58)) 25 (va .u8 z32)
    simpa using this
  have hcm := hm0.s.cell 73
  rw [stL_many _ _ _ _ hok.hl hok.len] at hcm
  have hm1 := Lib.hid hm0
  clear hm0
  have hsz0 : (Tryd.prog.info? 58).map (·.size) = some (stL true h r l.length).size := by rw [stL_size _ _ _ _ hok.hl hok.len]; kernel_rfl
  have hsz := Lib.hid hsz0
  clear hsz0
  go_wp2_with (first
    | (refine wpList_load_row rfl 58 (.tmp 1) rfl w.heap.size rfl 58 (stL true h r l.length) (0, 0) _ hm1.out.s Tryd.underlying58 rfl hsz.out ?_)
    | (go_at_call 23; fail))
  refine (write_one l h r 128 _ rfl (by omega) hok (by omega) _ ((hg.alloc _).alloc _) _ (by simp)).mono ?_
  rintro e w2 ⟨h1, r1, n1, rfl, hn1, hok1, b2⟩
  have hS2 := (hm1.out.s.alloc (Obj.cells #[Value.int .u8 128] 5)).below b2 (by simp; omega)
  have hD2 := (hm1.out.d.alloc (Obj.cells #[Value.int .u8 128] 5)).below b2 (by simp)
  have hB2 : Below w.heap.size w w2 := (hm1.out.bel.alloc hm1.out.bel.size _).trans (b2.mono (by simp; omega))
  have hvs : (stL true h1 r1 n1).size = 74 := stL_size _ _ _ _ hok1.hl hok1.len
  have hst := run_storeBlkA4 (P := Tryd.prog) hS2 (stL true h1 r1 n1) (by rw [hvs, stL_size _ _ _ _ hok.hl hok.len]) (stL_one _ _ _ _)
  have hm2 : SumSt w.heap.size (padk l 0) h1 r1 z32 w (w2.setRow w.heap.size (stL true h1 r1 n1)) := by
    rw [padk_zero]
    exact ⟨hn1 ▸ (hS2.row _), hD2.rowFar (by omega) _, hok1, z32_len, below_setRow hB2 (Nat.le_refl _) _⟩
  have hm3 := Lib.hid hm2
  have hG1 : 1 < w.heap.size := by have h1 := hg.lk; have h2 := hg.lh; omega
  clear hm2 hsz hm1 hcm hS2 hD2 hB2 hok1 b2 hn1
  go_wp2
  clear hst hvs
  generalize w2.setRow w.heap.size (stL true h1 r1 n1) = w3 at *
  go_loopg [] (zeros l.length) (fun gk wr => ∃ (h' r' : List Nat), gk ≤ zeros l.length ∧ SumSt w.heap.size (padk l (zeros l.length - gk)) h' r' z32 w wr)
  case atStart => exact ⟨h1, r1, Nat.le_refl _, by rw [Nat.sub_self]; exact hm3.out⟩
  case round =>
    clear hm3
    obtain ⟨h', r', hgk, hmem⟩ := hrel
    obtain ⟨k, hk⟩ : ∃ k, zeros l.length - gk = k := ⟨_, rfl⟩
    rw [hk] at hmem
    have hpl := padk_len l k
    have hcm := hmem.s.cell 73
    rw [stL_many _ _ _ _ hmem.ok.hl hmem.ok.len] at hcm
    have hz := zeros_lt l.length
    have hstop := zeros_stop l.length k (by omega)
    have hmem' := Lib.hid hmem
    have hgw : Glob wr := hg.below hmem.bel
    have hsz0 : (Tryd.prog.info? 58).map (·.size) = some (stL true h' r' (padk l k).length).size := by rw [stL_size _ _ _ _ hmem.ok.hl hmem.ok.len]; kernel_rfl
    have hsz := Lib.hid hsz0
    by_cases hlt : k = zeros l.length
    · have hlen56 : (l.length + 1 + k) % 64 = 56 := hstop.mpr hlt
      have ht : (((padk l k).length : Int) % 64 != 56) = false := by rw [bne_eq_false_iff_eq]; omega
      have hk2 : k < 64 := by omega
      have hpl' := Lib.hid hpl
      have hlt' := Lib.hid hlt
      clear hsz0 hmem hstop hpl hlen56 hlt
      generalize hL : (padk l k).length = L at *
      have hmul : IntKind.u64.wrap (8 * (l.length : Int)) = ((8 * l.length : Nat) : Int) := by
        rw [show IntKind.u64.wrap (8 * (l.length : Int)) = (8 * (l.length : Int)) % 18446744073709551616 from rfl]; omega
      generalize hM : 8 * l.length = M at *
      have hbm := beB_byt M 8
      go_upto_region 5 with fail
      go_cut [] (fun wx => ∃ (h2 r2 : List Nat), SumSt w.heap.size (pad l) h2 r2 z32 w wx)
      case first =>
        have hBd := hmem'.out.bel.drew
        have hSd : Blk wr.drew w.heap.size 58 (stL true h' r' L) := by have := hmem'.out.s; rw [hL] at this; exact this.drew
        have hDd := hmem'.out.d.drew
        refine wp_region_any (by kernel_rfl) ?_
        change wpAny _ _ _ _ _ _ _ (World.drew _)
        refine wpAny_take (i := 1) (v := .int .u64 (l.length : Int)) rfl (by kernel_rfl) (by kernel_rfl) (by kernel_rfl) (fun _ _ _ h => h) (Or.inl ⟨by rfl, by intro w; go_simp⟩) ?_
        refine wpAny_take (i := 2) (v := .int .u64 (M : Int)) rfl (by kernel_rfl) (by kernel_rfl) (by kernel_rfl) (fun _ _ _ h => h) (Or.inl ⟨by rfl, by intro w; go_simp⟩) ?_
        refine wpAny_ready (rs := [0, 3]) (by kernel_rfl) (by simp) ?_
        refine AllReady.cons rfl (fun K hK => ?_) (AllReady.cons rfl (fun K hK => ?_) AllReady.nil)
        · refine step_load_row rfl 58 (.tmp 1) rfl w.heap.size rfl 58 (stL true h' r' L) (by with_reducible assumption) _ Tryd.underlying58 rfl hsz.out ?_
          refine hK _ _ ?_
          clear hK K
          refine wpAny_ready (rs := [3]) (by kernel_rfl) (by simp) ?_
          refine AllReady.cons rfl (fun K hK => ?_) AllReady.nil
          go_simp
          go_at_call 35
          refine (put64_any M _).mono ?_
          rintro e w2 ⟨r, rfl, g, rfl, hb2, hg2, b2⟩
          have hS2 := hSd.below b2 hSd.lt
          have hD2 := hDd.below b2 hDd.lt
          have hB2 := hBd.trans (b2.mono hBd.size)
          refine hK _ _ ?_
          clear hK K
          refine wpAny_ready (rs := [4]) (by kernel_rfl) (by simp) ?_
          refine AllReady.cons rfl (fun K hK => ?_) AllReady.nil
          go_simp
          go_at_call 23
          refine (write_new (padk l k) h' r' (beB M 8) L (beB M 8).length hL rfl hmem'.out.ok hbm (by have h1 := hpl'.out; have h2 := beB_len M 8; omega) _ (hg.below hB2) _ hb2).mono ?_
          rintro e w4 ⟨h4, r4, n4, rfl, hn4, ok4, b4⟩
          have hS4 := hS2.below b4 hS2.lt
          have hD4 := hD2.below b4 hD2.lt
          have hB4 := hB2.trans (b4.mono hB2.size)
          refine hK _ _ ?_
          clear hK K
          refine wpAny_ready (rs := [5]) (by kernel_rfl) (by simp) ?_
          refine AllReady.cons rfl (fun K hK => ?_) AllReady.nil
          refine step_store_row rfl 58 (.tmp 1) (.tmp 22) rfl w.heap.size rfl (stL true h4 r4 n4) rfl 58 (stL true h' r' L) hS4 (by rw [stL_size _ _ _ _ hmem'.out.ok.hl hmem'.out.ok.len, stL_size _ _ _ _ ok4.hl ok4.len]) (by rw [stL_size _ _ _ _ ok4.hl ok4.len]; kernel_rfl) (stL_one _ _ _ _) ?_
          refine hK _ _ ?_
          clear hK K
          refine wpAny_done (by kernel_rfl) ?_ _
          go_wp2_with fail
          go_meet
          have hpd : padk l k ++ beB M 8 = pad l := by rw [hlt'.out, ← hM]; rfl
          rw [hpd] at hn4 ok4
          exact ⟨h4, r4, hn4 ▸ (hS4.row _), hD4.rowFar (by omega) _, ok4, z32_len, below_setRow hB4 (Nat.le_refl _) _⟩
        · go_simp
          go_at_call 35
          refine (put64_any M _).mono ?_
          rintro e w2 ⟨r, rfl, g, rfl, hb2, hg2, b2⟩
          have hS2 := hSd.below b2 hSd.lt
          have hD2 := hDd.below b2 hDd.lt
          have hB2 := hBd.trans (b2.mono hBd.size)
          refine hK _ _ ?_
          clear hK K
          refine wpAny_ready (rs := [0]) (by kernel_rfl) (by simp) ?_
          refine AllReady.cons rfl (fun K hK => ?_) AllReady.nil
          refine step_load_row rfl 58 (.tmp 1) rfl w.heap.size rfl 58 (stL true h' r' L) (by with_reducible assumption) _ Tryd.underlying58 rfl hsz.out ?_
          refine hK _ _ ?_
          clear hK K
          refine wpAny_ready (rs := [4]) (by kernel_rfl) (by simp) ?_
          refine AllReady.cons rfl (fun K hK => ?_) AllReady.nil
          go_simp
          go_at_call 23
          refine (write_new (padk l k) h' r' (beB M 8) L (beB M 8).length hL rfl hmem'.out.ok hbm (by have h1 := hpl'.out; have h2 := beB_len M 8; omega) _ (hg.below hB2) _ hb2).mono ?_
          rintro e w4 ⟨h4, r4, n4, rfl, hn4, ok4, b4⟩
          have hS4 := hS2.below b4 hS2.lt
          have hD4 := hD2.below b4 hD2.lt
          have hB4 := hB2.trans (b4.mono hB2.size)
          refine hK _ _ ?_
          clear hK K
          refine wpAny_ready (rs := [5]) (by kernel_rfl) (by simp) ?_
          refine AllReady.cons rfl (fun K hK => ?_) AllReady.nil
          refine step_store_row rfl 58 (.tmp 1) (.tmp 22) rfl w.heap.size rfl (stL true h4 r4 n4) rfl 58 (stL true h' r' L) hS4 (by rw [stL_size _ _ _ _ hmem'.out.ok.hl hmem'.out.ok.len, stL_size _ _ _ _ ok4.hl ok4.len]) (by rw [stL_size _ _ _ _ ok4.hl ok4.len]; kernel_rfl) (stL_one _ _ _ _) ?_
          refine hK _ _ ?_
          clear hK K
          refine wpAny_done (by kernel_rfl) ?_ _
          go_wp2_with fail
          go_meet
          have hpd : padk l k ++ beB M 8 = pad l := by rw [hlt'.out, ← hM]; rfl
          rw [hpd] at hn4 ok4
          exact ⟨h4, r4, hn4 ▸ (hS4.row _), hD4.rowFar (by omega) _, ok4, z32_len, below_setRow hB4 (Nat.le_refl _) _⟩
      case rest =>
        obtain ⟨h2, r2, hsum⟩ := hcut
        clear hmem' hsz hpl' hlt' hgw
        have hhl := hsum.ok.hl
        have hS := hsum.s
        have hrH : wc.rangeAt w.heap.size 1 (nv .u32 h2) := fun j v hv => by
          have hj : j < 8 := by
            rcases Nat.lt_or_ge j 8 with h0 | h0
            · exact h0
            · rw [List.getElem?_eq_none (by rw [nv_len, hhl]; exact h0)] at hv; cases hv
          rw [hS.cell, stL_h _ _ _ _ hhl j hj]; exact hv
        have hs8 : (Tryd.prog.info? 54).map (·.size) = some (nv .u32 h2).length := by rw [nv_len, hhl]; kernel_rfl
        have hrH' := Lib.hid hrH
        have hs8' := Lib.hid hs8
        have hsum' := Lib.hid hsum
        clear hrH hs8 hsum hS hhl
        go_wp2_with (refine wpList_load_mid rfl 54 (.tmp 23) rfl w.heap.size 1 rfl (nv .u32 h2) _ hrH'.out Tryd.underlying54 rfl hs8'.out ?_)
        clear hrH' hs8'
        go_loopw [25] (fun s wr => ∃ (i : Nat), i ≤ 8 ∧ s = .int .i64 (i : Int) ∧ SumSt w.heap.size (pad l) h2 r2 (outl h2 i) w wr) (fun s _ => 8 - (intOf s).toNat)
        case atStart => exact ⟨0, by omega, rfl, by rw [outl_zero]; exact hsum'.out⟩
        case round =>
          obtain ⟨i, hi, rfl, hm4⟩ := hrel
          clear hsum'
          have hm4' := Lib.hid hm4
          by_cases hlt : i < 8
          · have hlt' : (i : Int) < 8 := by omega
            have hv := hm4.ok.hw i
            have hix : (nv .u32 h2)[i]? = some (.int .u32 ((h2.getD i 0 : Nat) : Int)) := nv_get (by rw [hm4.ok.hl]; exact hlt)
            clear hm4
            obtain ⟨iu, hiu, hiu0, hiu1, hiu2⟩ := info_parts u32_info
            have hidx := run_index_num (P := Tryd.prog) (kk := .i64) (l := h2) (i := i) Tryd.underlying54 Tryd.underlying53 hiu hiu1 hm4'.out.ok.hl hlt
            rw [show va .u32 h2 = (nv .u32 h2).toArray from rfl] at hidx
            clear hiu hiu0 hiu1 hiu2
            obtain ⟨v, hvv⟩ : ∃ v, h2.getD i 0 = v := ⟨_, rfl⟩
            rw [hvv] at hidx hix hv
            obtain ⟨o, ho⟩ : ∃ o, 4 * i = o := ⟨_, rfl⟩
            have h4 : IntKind.i64.wrap (4 * (i : Int)) = (o : Int) := (IntWalk.i64_in _ (by omega)).trans (by omega)
            have ho0 : o + 4 ≤ 32 := by omega
            have ho1 : 0 ≤ (o : Int) := by omega
            have ho2 : (o : Int) ≤ 32 := by omega
            have ho3 : ¬ 32 = o := by omega
            have hD : Blk wr.drew (w.heap.size + 1) 25 (va .u8 (outl h2 i)) := hm4'.out.d.drew
            have hS : Blk wr.drew w.heap.size 58 (stL true h2 r2 (pad l).length) := hm4'.out.s.drew
            have hBd := hm4'.out.bel.drew
            have hvv' := Lib.hid hvv
            have ho' := Lib.hid ho
            clear hvv ho
            go_upto_region 9 with fail
            go_region_law (first
              | (go_simp; go_at_call 36; refine (put32_any v hv _).mono ?_; rintro e w2 ⟨r, rfl, g, rfl, hb2, hg2, b2⟩
                 have hD2 := hD.below b2 hD.lt
                 have hS2 := hS.below b2 hS.lt
                 have hB2 := hBd.trans (b2.mono hBd.size)
                 have hcp := fun dL hdL => copy_bytes (w := w2) 22 22 3 Tryd.underlying22 (w.heap.size + 1) o dL dL 25 (outl h2 i) hD2 g (beB v 4).length (beB v 4).length 5 (beB v 4) hb2 rfl hdL (by rw [beB_len, outl_len]; exact ho0)
                 have hcq := hcp (32 - o) (by rw [beB_len]; omega)
                 clear hcp))
            have hD3 := hD2.row (va .u8 ((outl h2 i).take o ++ (beB v 4 ++ (outl h2 i).drop (o + (beB v 4).length))))
            have hS3 : Blk (w2.setRow (w.heap.size + 1) (va .u8 ((outl h2 i).take o ++ (beB v 4 ++ (outl h2 i).drop (o + (beB v 4).length))))) w.heap.size 58 (stL true h2 r2 (pad l).length) := hS2.rowFar (by omega) _
            have hB3 := below_setRow hB2 (show w.heap.size ≤ w.heap.size + 1 from by omega) (va .u8 ((outl h2 i).take o ++ (beB v 4 ++ (outl h2 i).drop (o + (beB v 4).length))))
            have heq : (outl h2 i).take o ++ (beB v 4 ++ (outl h2 i).drop (o + (beB v 4).length)) = outl h2 (i + 1) := by
              rw [beB_len, ← hvv'.out, ← ho'.out]; exact outl_step h2 i hlt
            rw [heq] at hD3 hS3 hB3
            have hm5 : SumSt w.heap.size (pad l) h2 r2 (outl h2 (i + 1)) w (w2.setRow (w.heap.size + 1) (va .u8 (outl h2 (i + 1)))) := ⟨hS3, hD3, hm4'.out.ok, outl_len _ _, hB3⟩
            have hm6 := Lib.hid hm5
            have heq' := Lib.hid heq
            clear hm5 hS3 hD3 hB3 heq hS2 hD2 hB2 hcq
            go_wp2
            go_roundw
            case rel => exact ⟨i + 1, by omega, by go_num, by rw [heq'.out]; exact hm6.out⟩
            case measure => simp [intOf]; omega
          · obtain rfl : i = 8 := by omega
            have hsz : (Tryd.prog.info? 25).map (·.size) = some (va .u8 (outl h2 8)).size := by rw [va_size, outl_len]; kernel_rfl
            have hsz' := Lib.hid hsz
            have hvs : (va .u8 (outl h2 8)).size = 32 := by rw [va_size, outl_len]
            have hst := run_storeBlk (P := Tryd.prog) hm4.d .u8 (outl h2 8) (by rw [va_size])
            clear hm4 hsz
            go_wp2_with (refine wpList_load_row rfl 25 (.tmp 2) rfl (w.heap.size + 1) rfl 25 (va .u8 (outl h2 8)) (0, 0) _ hm4'.out.d Tryd.underlying25 rfl hsz'.out ?_)
            have hfin : outl h2 8 = sha l := by
              rw [outl_done, hm4'.out.ok.h]; rfl
            exact bodyPost_ret (results_cell_row rfl _ _ (w.heap.size + 1) 25 (va .u8 (outl h2 8)) (0, 0) _ rfl (hm4'.out.d.row _) Tryd.underlying25 rfl hsz'.out) rfl
              ⟨by rw [hfin], below_setRow hm4'.out.bel (by omega) _⟩
    · have hne : ¬ (l.length + 1 + k) % 64 = 56 := fun h0 => hlt (hstop.mp h0)
      have ht : (((padk l k).length : Int) % 64 != 56) = true := by rw [bne_iff_ne]; omega
      have hk2 : k < 64 := by omega
      clear hsz0 hmem hstop
      have hpl' := Lib.hid hpl
      clear hpl
      generalize hL : (padk l k).length = L at *
      go_wp2_with (first
        | (refine wpList_load_row rfl 58 (.tmp 1) rfl w.heap.size rfl 58 (stL true h' r' L) (0, 0) _ (hL ▸ hmem'.out.s) Tryd.underlying58 rfl hsz.out ?_)
        | (go_at_call 23; fail))
      have hpl2 := hpl'.out
      refine (write_one (padk l k) h' r' 0 L hL (by omega) hmem'.out.ok (by omega) _ hgw _ rfl).mono ?_
      rintro e w2 ⟨h2, r2, n2, rfl, hn2, hok2, b2⟩
      have hS2 := (hmem'.out.s.alloc (Obj.cells #[Value.int .u8 0] 5)).below b2 (by have := hmem'.out.s.lt; simp; omega)
      have hD2 := (hmem'.out.d.alloc (Obj.cells #[Value.int .u8 0] 5)).below b2 (by have := hmem'.out.d.lt; simp; omega)
      have hB2 : Below w.heap.size w w2 := (hmem'.out.bel.alloc hmem'.out.bel.size _).trans (b2.mono (by have := hmem'.out.s.lt; simp; omega))
      have hvs : (stL true h2 r2 n2).size = 74 := stL_size _ _ _ _ hok2.hl hok2.len
      have hst := run_storeBlkA4 (P := Tryd.prog) hS2 (stL true h2 r2 n2) (by rw [hvs, stL_size _ _ _ _ hmem'.out.ok.hl hmem'.out.ok.len]) (stL_one _ _ _ _)
      rw [padk_succ] at hn2 hok2
      have hm2 : SumSt w.heap.size (padk l (k + 1)) h2 r2 z32 w (w2.setRow w.heap.size (stL true h2 r2 n2)) :=
        ⟨hn2 ▸ (hS2.row _), hD2.rowFar (by omega) _, hok2, z32_len, below_setRow hB2 (Nat.le_refl _) _⟩
      have hm3 := Lib.hid hm2
      clear hm2 hS2 hD2 hB2 hok2 b2 hn2
      go_wp2
      go_roundg (gk - 1)
      case rel => exact ⟨h2, r2, by omega, by rw [show zeros l.length - (gk - 1) = k + 1 from by omega]; exact hm3.out⟩
      case measure => omega
end Go.Proofs.YtcdmbknmmnaocaaDoor
