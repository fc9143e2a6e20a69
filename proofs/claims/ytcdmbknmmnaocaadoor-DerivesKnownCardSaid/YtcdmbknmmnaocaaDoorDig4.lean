/-
  The walk of State.Write.
-/
import Derived.Test.YtcdmbknmmnaocaaDoorDig3
namespace Go.Proofs.YtcdmbknmmnaocaaDoor
open Go.RowKit Sh

def sEmpty : Array Value := stL false z8 z64 0
theorem zvS (w : World) : (zeroValue 58).run Tryd.prog w = .ok (.agg sEmpty) w := by kernel_rfl
theorem sEmpty_size : sEmpty.size = 74 := stL_size false z8 z64 0 rfl z64_len
/-- how many elements a slice value has -/
def slen : Value → Nat | .slice _ n _ => n | _ => 0

theorem run_storeMid4 {P : Program} {w : World} {g : Nat} {t : TypeId} {cur : Array Value} (h : Blk w g t cur) (o : Nat) (k : IntKind) (l : List Nat) (hf : o + l.length ≤ cur.size) :
    (storeCells ⟨g, o, none⟩ (va k l).toList).run P w = .ok () (w.setRow g (cur.toList.take o ++ (nv k l ++ cur.toList.drop (o + (nv k l).length))).toArray) := by
  have e := run_storeCells_at (P := P) g o t (va k l).toList 0 cur w h (by simp [va_size]; omega) (fun v hv => nv_one k l v (by simpa [va] using hv))
  simpa [va] using e
theorem run_storeBlkA4 {P : Program} {w : World} {g : Nat} {t : TypeId} {old : Array Value} (h : Blk w g t old) (c : Array Value) (hs : old.size = c.size) (h1 : ∀ v ∈ c.toList, v.oneCell' = true) :
    (storeCells ⟨g, 0, none⟩ c.toList).run P w = .ok () (w.setRow g c) := by
  have e := run_storeCells_from (P := P) g t c.toList 0 old w h (by simp; omega) h1
  simpa using e

/-- the blocks of Write: the State that is worked on, the result -/
structure WrMem (G : Nat) (l h r : List Nat) (w wr : World) : Prop where
  s : Blk wr G 58 (stL true h r l.length)
  e : Blk wr (G + 1) 58 sEmpty
  ok : StOk l h r
  bel : Below G w wr

/-- what copy(s.rest[q:], b) does, k bytes being copied -/
theorem copy_state {G L q n B : Nat} {l h r rest : List Nat} {ad : Addr} {w wr : World} (hm : WrMem G l h r w wr) (hL : l.length = L) (hr : Reads wr B 1 (some ad) n (nv .u8 rest)) (hBG : B ≤ G) (c k : Nat) (hk : k ≤ n) (hk2 : q + k ≤ 64)
    (hmin : k = min n (64 - q)) :
    ∃ w2, (Builtin.copy_ #[22, 22] 3 #[.slice (some ⟨G, 9 + q, none⟩) (64 - q) (64 - q), .slice (some ad) n c]).run Tryd.prog wr = .ok (.int .i64 (k : Int)) w2 ∧
      Blk w2 G 58 (stL true h (r.take q ++ (rest.take k ++ r.drop (q + k))) L) ∧ Blk w2 (G + 1) 58 sEmpty ∧ Below G w w2 ∧ Reads w2 B 1 (some ad) n (nv .u8 rest) ∧
      (r.take q ++ (rest.take k ++ r.drop (q + k))).length = 64 := by
  have hrl := hr.len
  have hkl : (rest.take k).length = k := by rw [List.length_take]; omega
  have hsz : (Tryd.prog.info? 5).map (·.size) = some 1 := by kernel_rfl
  have hcp := run_copy_row (P := Tryd.prog) wr 22 22 3 5 G (9 + q) (64 - q) (64 - q) ad n c (stL true h r l.length) 58 (nv .u8 (rest.take k)) Tryd.underlying22 hsz hm.s
    (by rw [nv_len, hkl]; exact hmin)
    (fun j v hv => by
      rcases Nat.eq_zero_or_pos n with h0 | h0
      · rw [List.getElem?_eq_none (by rw [nv_len, hkl]; omega)] at hv; cases hv
      · obtain ⟨ad', e, _, hc⟩ := hr.2 h0
        injection e with e
        subst e
        refine hc j v ?_
        rw [← nv_take] at hv
        rw [List.getElem?_take] at hv
        split at hv
        · exact hv
        · cases hv)
    (by rw [nv_len, hkl, stL_size _ _ _ _ hm.ok.hl hm.ok.len]; omega) (nv_one _ _)
  rw [List.append_assoc, stL_spliceR true h r (rest.take k) l.length q hm.ok.hl hm.ok.len (by rw [hkl]; exact hk2)] at hcp
  rw [hkl, hL] at hcp
  refine ⟨_, ?_, hm.s.row _, hm.e.rowFar (by omega) _, below_setRow hm.bel (Nat.le_refl _) _, hr.keep fun p hp => ?_, by rw [List.length_append, List.length_append, hkl, List.length_take, List.length_drop, hm.ok.len]; omega⟩
  · rw [hcp, nv_len, hkl]; rfl
  · exact World.cell?_of_block (setRow_other _ _ _ _ (by omega))

set_option maxRecDepth 100000 in
set_option maxHeartbeats 1600000 in
theorem write_any (l h r m : List Nat) (A : Option Addr) (n c B : Nat) (hok : StOk l h r) (hm : Byt m) (hnc : n ≤ c) (hlen : l.length + n < 4611686018427387904) (w : World) (hg : Glob w)
    (hr : Reads w B 1 A n (nv .u8 m)) (hB : B ≤ w.heap.size) :
    Calls Tryd.prog 23 #[.agg (stL true h r l.length), .slice A n c] w fun e w' =>
      ∃ h' r', e = .returned (.agg (stL true h' r' (l ++ m).length)) ∧ StOk (l ++ m) h' r' ∧ Below w.heap.size w w' := by
  have hzv := zvS
  go_enter Tryd.func23, Tryd.ntmps23
  have hm0 : WrMem w.heap.size l h r w ((w.alloc (.cells (stL true h r l.length) 58)).alloc (.cells sEmpty 58)) := by
    refine ⟨(Blk.new _ _ _).alloc _, ?_, hok, ((Below.refl _ _).alloc (Nat.le_refl _) _).alloc (by simp) _⟩
    have := Blk.new (w.alloc (.cells (stL true h r l.length) 58)) 58 sEmpty
    simpa using this
  have hbg := hm0.s.cell 0
  rw [stL_bg] at hbg
  have hm1 := Lib.hid hm0
  clear hm0
  go_wp2
  have hm0 := hm1.out
  have hr0 : Reads ((w.alloc (.cells (stL true h r l.length) 58)).alloc (.cells sEmpty 58)) B 1 A n (nv .u8 m) := (hr.alloc hB _).alloc (by simp; omega) _
  generalize (w.alloc (.cells (stL true h r l.length) 58)).alloc (.cells sEmpty 58) = w1 at *
  clear hm1 hbg hzv hok
  have hG1 : 1 < w.heap.size := by have h1 := hg.lk; have h2 := hg.lh; omega
  generalize hGG : w.heap.size = G at *
  go_loopw [1] (fun s wr => ∃ (d rest h' r' : List Nat) (A' : Option Addr) (n' c' : Nat), s = .slice A' n' c' ∧ d ++ rest = l ++ m ∧ WrMem G d h' r' w wr ∧ Reads wr B 1 A' n' (nv .u8 rest) ∧ Byt rest ∧ n' ≤ c' ∧ d.length + n' = l.length + n) (fun s _ => slen s)
  case atStart => exact ⟨l, m, h, r, A, n, c, rfl, rfl, hm0, hr0, hm, hnc, rfl⟩
  case round =>
    obtain ⟨d, rest, h', r', A', n', c', rfl, hd, hmem, hrd, hby, hnc', hle⟩ := hrel
    clear hm0 hr0
    have hrl := hrd.len
    by_cases hpos : 0 < n'
    · have hpos' : 0 < (n' : Int) := by omega
      obtain ⟨ad, rfl, hadB, _⟩ := hrd.num hpos
      have hlen' : d.length < 4611686018427387904 := by omega
      have hcm := hmem.s.cell 73
      rw [stL_many _ _ _ _ hmem.ok.hl hmem.ok.len] at hcm
      have hfm := hmem.s.frozen 73
      obtain ⟨q, hq, hq64⟩ : ∃ q : Nat, d.length % 64 = q ∧ q < 64 := ⟨_, rfl, Nat.mod_lt _ (by omega)⟩
      have hqi : (d.length : Int) % 64 = (q : Int) := by omega
      have hq' := Lib.hid hq
      have hle' := Lib.hid hle
      have hrl' := Lib.hid hrl
      have hd' := Lib.hid hd
      have hmem' := Lib.hid hmem
      have hq0 : 0 ≤ (q : Int) := by omega
      have hq1 : (q : Int) ≤ 64 := by omega
      clear hq hle hrl hd hmem
      generalize hL : d.length = L at *
      have hcs := fun k hk hk2 hmin => copy_state (q := q) (c := c') (k := k) hmem'.out hL hrd hB hk hk2 hmin
      by_cases hfull : 64 ≤ q + n'
      · obtain ⟨w2, hcp, hS2, hE2, hB2, hR2, hl2⟩ := hcs (64 - q) (by omega) (by omega) (by omega)
        obtain ⟨k, hk⟩ : ∃ k, 64 - q = k := ⟨_, rfl⟩
        rw [hk] at hcp hS2 hl2
        have hk0 : 0 < k := by omega
        have hkn : k ≤ n' := by omega
        have hkq : q + k = 64 := by omega
        have ht : ((q : Int) + (k : Int) == 64) = true := by rw [beq_iff_eq]; omega
        have hki : (k : Int) ≤ (c' : Int) := by omega
        have hki2 : (k : Int) ≤ (n' : Int) := by omega
        have hk64 : (k : Int) ≤ 64 := by omega
        have hkl : (rest.take k).length = k := by rw [List.length_take, hrl'.out]; omega
        have hhl := hmem'.out.ok.hl
        have hcm2 := hS2.cell 73
        rw [stL_many _ _ _ _ hhl hl2] at hcm2
        have hfm2 := hS2.frozen 73
        have hS3 := hS2.set_ 73 (.int .u64 ((L + k : Nat) : Int))
        rw [stL_set73 _ _ _ _ _ hhl hl2] at hS3
        have er : r'.take q ++ (rest.take k ++ r'.drop (q + k)) = r'.take q ++ rest.take k := by
          rw [List.drop_of_length_le (by rw [hmem'.out.ok.len]; omega), List.append_nil]
        rw [er] at hS3 hS2 hl2
        have hr2b : Byt (r'.take q ++ rest.take k) := (hmem'.out.ok.byt.take q).app (hby.take k)
        have hB3 : Below G w (w2.setCell ⟨G, 73, none⟩ (.int .u64 ((L + k : Nat) : Int))) := hB2.setCell (Nat.le_refl _) _
        have hE3 : Blk (w2.setCell ⟨G, 73, none⟩ (.int .u64 ((L + k : Nat) : Int))) (G + 1) 58 sEmpty := hE2.far (p := ⟨G, 73, none⟩) (by simp) _
        have hR3 : Reads (w2.setCell ⟨G, 73, none⟩ (.int .u64 ((L + k : Nat) : Int))) B 1 (some ad) n' (nv .u8 rest) := hR2.setCell (p := ⟨G, 73, none⟩) hB _
        have ev : ((L + k : Nat) : Int) = (L : Int) + (k : Int) := by omega
        have hok2 := hmem'.out.ok.full (rest.take k) (hby.take k) (by rw [hL, hq'.out, hkl]; exact hkq)
        rw [hL, hq'.out] at hok2
        have hok3 := Lib.hid hok2
        have hdl : (d ++ rest.take k).length = L + k := by rw [List.length_append, hL, hkl]
        have hdl' := Lib.hid hdl
        rw [ev] at hS3 hB3 hE3 hR3
        have hg3 : Glob (w2.setCell ⟨G, 73, none⟩ (.int .u64 ((L : Int) + (k : Int)))) := by
          refine hg.below ?_
          rw [hGG]; exact hB3
        have hrH : (w2.setCell ⟨G, 73, none⟩ (.int .u64 ((L : Int) + (k : Int)))).rangeAt G 1 (nv .u32 h') := fun j v hv => by
          have hj : j < 8 := by
            rcases Nat.lt_or_ge j 8 with h0 | h0
            · exact h0
            · rw [List.getElem?_eq_none (by rw [nv_len, hhl]; exact h0)] at hv; cases hv
          rw [hS3.cell, stL_h _ _ _ _ hhl j hj]; exact hv
        have hrR : (w2.setCell ⟨G, 73, none⟩ (.int .u64 ((L : Int) + (k : Int)))).rangeAt G 9 (nv .u8 (r'.take q ++ rest.take k)) := fun j v hv => by
          have hj : j < 64 := by
            rcases Nat.lt_or_ge j 64 with h0 | h0
            · exact h0
            · rw [List.getElem?_eq_none (by rw [nv_len, hl2]; exact h0)] at hv; cases hv
          rw [hS3.cell, stL_r _ _ _ _ hhl hl2 j hj]; exact hv
        have hs8 : (Tryd.prog.info? 54).map (·.size) = some (nv .u32 h').length := by rw [nv_len, hhl]; kernel_rfl
        have hs64 : (Tryd.prog.info? 55).map (·.size) = some (nv .u8 (r'.take q ++ rest.take k)).length := by rw [nv_len, hl2]; kernel_rfl
        have hs8' := Lib.hid hs8
        have hs64' := Lib.hid hs64
        have hrH' := Lib.hid hrH
        have hrR' := Lib.hid hrR
        have hS3' := Lib.hid hS3
        have hE3' := Lib.hid hE3
        have hR3' := Lib.hid hR3
        have hl2' := Lib.hid hl2
        have hkl' := Lib.hid hkl
        clear hcs hs8 hs64 hrH hrR hok2 hS3 hE3 hR3 hl2 er hdl ev hS2 hkl
        go_wp2_with (first
          | (refine wpList_load_mid rfl 54 (.tmp 36) rfl G 1 rfl (nv .u32 h') _ hrH'.out Tryd.underlying54 rfl hs8'.out ?_)
          | (refine wpList_load_mid rfl 55 (.tmp 38) rfl G 9 rfl (nv .u8 (r'.take q ++ rest.take k)) _ hrR'.out Tryd.underlying55 rfl hs64'.out ?_)
          | (go_at_call 32; fail))
        all_goals
          have h1 := compress_any h' (r'.take q ++ rest.take k) hhl hmem'.out.ok.hw hr2b hl2'.out _ hg3
          refine h1.mono ?_
          rintro e w4 ⟨rfl, b4⟩
          have hG3 := hS3'.out.lt
          have hS4 := hS3'.out.below b4 hG3
          have hE4 := hE3'.out.below b4 hE3'.out.lt
          have hR4 := hR3'.out.keep (w' := w4) fun p hp => b4.cell (Nat.lt_of_lt_of_le hp (Nat.le_trans hB (Nat.le_of_lt hG3)))
          have hB4 := hB3.trans (b4.mono (Nat.le_of_lt hG3))
          have hcl : (comp h' (r'.take q ++ rest.take k)).length = 8 := comp_len _ _
          have hst := run_storeMid4 (P := Tryd.prog) hS4 1 .u32 (comp h' (r'.take q ++ rest.take k)) (by rw [stL_size _ _ _ _ hhl hl2'.out, hcl]; omega)
          rw [stL_spliceH _ _ _ _ _ hhl hcl] at hst
          have hvs : (va .u32 (comp h' (r'.take q ++ rest.take k))).size = 8 := by rw [va_size, hcl]
          have hR5 := hR4.cut (k := k) (cap := n' + 1) hkn (by omega)
          rw [if_neg (by omega), nv_drop] at hR5
          simp only [Option.map_some, Nat.mul_one] at hR5
          have hR6 := Lib.hid hR5
          have hB5 := Lib.hid hB4
          clear h1 hR4 hR5 hB4 hcl
          go_wp2
          go_roundw
        case rel =>
          refine ⟨d ++ rest.take k, rest.drop k, comp h' (r'.take q ++ rest.take k), r'.take q ++ rest.take k, _, _, _, rfl, by rw [List.append_assoc, List.take_append_drop]; exact hd'.out, ⟨?_, ?_, hok3.out, ?_⟩, ?_, hby.drop k, by omega, ?_⟩
          · rw [hdl'.out]; exact hS4.row _
          · exact hE4.rowFar (by omega) _
          · exact below_setRow hB5.out (Nat.le_refl _) _
          · first | exact hR6.out.keep fun p hp => World.cell?_of_block (setRow_other _ G _ p.block (by omega)) | exact ⟨hR6.out.1, fun h0 => absurd h0 (by omega)⟩
          · rw [hdl'.out]; have := hle'.out; omega
        case measure => simp [slen]; omega
        case rel =>
          refine ⟨d ++ rest.take k, rest.drop k, comp h' (r'.take q ++ rest.take k), r'.take q ++ rest.take k, _, _, _, rfl, by rw [List.append_assoc, List.take_append_drop]; exact hd'.out, ⟨?_, ?_, hok3.out, ?_⟩, ?_, hby.drop k, by omega, ?_⟩
          · rw [hdl'.out]; exact hS4.row _
          · exact hE4.rowFar (by omega) _
          · exact below_setRow hB5.out (Nat.le_refl _) _
          · first | exact hR6.out.keep fun p hp => World.cell?_of_block (setRow_other _ G _ p.block (by omega)) | exact ⟨hR6.out.1, fun h0 => absurd h0 (by omega)⟩
          · rw [hdl'.out]; have := hle'.out; omega
        case measure => simp [slen]; omega
      · obtain ⟨w2, hcp, hS2, hE2, hB2, hR2, hl2⟩ := hcs n' (by omega) (by omega) (by omega)
        have ht : ((q : Int) + (n' : Int) == 64) = false := by rw [beq_eq_false_iff_ne]; omega
        have hcm2 := hS2.cell 73
        rw [stL_many _ _ _ _ hmem'.out.ok.hl hl2] at hcm2
        have hfm2 := hS2.frozen 73
        have hS3 := hS2.set_ 73 (.int .u64 ((L + n' : Nat) : Int))
        rw [stL_set73 _ _ _ _ _ hmem'.out.ok.hl hl2] at hS3
        have hS4 := Lib.hid hS3
        have hl3 := Lib.hid hl2
        clear hcs hl2 hS3
        go_wp2
        go_roundw
        case rel =>
          have ev : (L : Int) + (n' : Int) = ((L + n' : Nat) : Int) := by omega
          refine ⟨d ++ rest, [], h', r'.take q ++ (rest.take n' ++ r'.drop (q + n')), _, 0, _, rfl, by rw [List.append_nil]; exact hd'.out, ⟨?_, ?_, ?_, ?_⟩, ⟨by simp [nv], fun h0 => absurd h0 (by omega)⟩, Byt.nil, Nat.zero_le _, ?_⟩
          · rw [ev, List.length_append, hL, hrl'.out]; exact hS4.out
          · exact hE2.far (p := ⟨G, 73, none⟩) (by simp) _
          · have hmore := hmem'.out.ok.more rest hby (by rw [hL, hq'.out, hrl'.out]; omega)
            rw [hL, hq'.out, hrl'.out] at hmore
            rw [show rest.take n' = rest from List.take_of_length_le (by rw [hrl'.out]; omega)]
            exact hmore
          · exact hB2.setCell (Nat.le_refl _) _
          · rw [List.length_append, hL, hrl'.out]; have := hle'.out; omega
        case measure => simp [slen]; omega
    · have hn0 : n' = 0 := by omega
      have hrest : rest = [] := List.eq_nil_of_length_eq_zero (by omega)
      have hdlm : d = l ++ m := by rw [← hd, hrest, List.append_nil]
      have hpos' : (n' : Int) ≤ 0 := by omega
      have hhl := hmem.ok.hl
      have hrl2 := hmem.ok.len
      have hsz0 : (Tryd.prog.info? 58).map (·.size) = some (stL true h' r' d.length).size := by rw [stL_size _ _ _ _ hhl hrl2]; kernel_rfl
      have hsz := Lib.hid hsz0
      have hvs : (stL true h' r' d.length).size = 74 := stL_size _ _ _ _ hhl hrl2
      have hst := run_storeBlkA4 (P := Tryd.prog) hmem.e (stL true h' r' d.length) (by rw [sEmpty_size, hvs]) (stL_one _ _ _ _)
      have hmem' := Lib.hid hmem
      have hfin := Lib.hid hdlm
      clear hsz0 hmem hdlm hrest hd hn0 hrl
      go_wp2_with (refine wpList_load_row rfl 58 (.tmp 2) rfl G rfl 58 (stL true h' r' d.length) (0, 0) _ hmem'.out.s Tryd.underlying58 rfl hsz.out ?_)
      exact bodyPost_ret (results_cell_row rfl _ _ (G + 1) 58 (stL true h' r' d.length) (0, 0) _ rfl (hmem'.out.e.row _) Tryd.underlying58 rfl hsz.out) rfl
        ⟨h', r', by rw [hfin.out], by rw [← hfin.out]; exact hmem'.out.ok, by rw [hGG]; exact below_setRow hmem'.out.bel (by omega) _⟩
end Go.Proofs.YtcdmbknmmnaocaaDoor
