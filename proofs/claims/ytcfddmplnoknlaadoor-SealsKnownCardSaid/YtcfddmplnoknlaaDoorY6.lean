/-
  The walk of ciphers.Expand.
-/
import Derived.Test.YtcfddmplnoknlaaDoorY5
import Derived.Deep.RegionHeld3
import Derived.Deep.LoopGhost
import Derived.Deep.DeepCutAuto
import Derived.Deep.MidRow
import Derived.ChangeKeysEq
import Derived.BigRegion
namespace Go.Proofs.YtcfddmplnoknlaaDoor
set_option maxRecDepth 16384
open Go.RowKit

theorem zeroSched (w : World) : (zeroValue 79).run Tryd.prog w = .ok (.agg (va .u8 z176)) w := by kernel_rfl
theorem run_storeMid {P : Program} {w : World} {g : Nat} {t : TypeId} {cur : Array Value} (h : Blk w g t cur) (o : Nat) (k : IntKind) (l : List Nat) (hf : o + l.length ≤ cur.size) :
  (storeCells ⟨g, o, none⟩ (va k l).toList).run P w = .ok () (w.setRow g (cur.toList.take o ++ (nv k l ++ cur.toList.drop (o + (nv k l).length))).toArray) := by
 have e := run_storeCells_at (P := P) g o t (va k l).toList 0 cur w h (by simp [va_size]; omega) (fun v hv => nv_one k l v (by simpa [va] using hv))
 simpa [va] using e

theorem array_at (g : Nat) (W : World) : (Instr.arrayAt 106 (.slice (some ⟨g, 12, none⟩) 4 4)).run Tryd.prog W = .ok (.pointer (some ⟨g, 12, none⟩)) W := by kernel_rfl
theorem keepX {w0 wa wb : World} {g : Nat} {v0 v1 v2 v3 : Value} (hg : g < w0.heap.size) (hb : Below w0.heap.size w0 wa) (h0 : wa.cell? ⟨g, 0, none⟩ = some v0) (h1 : wa.cell? ⟨g, 1, none⟩ = some v1) (h2 : wa.cell? ⟨g, 2, none⟩ = some v2) (h3 : wa.cell? ⟨g, 3, none⟩ = some v3) (b : Below wa.heap.size wa wb) :
  Below w0.heap.size w0 wb ∧ wb.cell? ⟨g, 0, none⟩ = some v0 ∧ wb.cell? ⟨g, 1, none⟩ = some v1 ∧ wb.cell? ⟨g, 2, none⟩ = some v2 ∧ wb.cell? ⟨g, 3, none⟩ = some v3 := by
 have hs := hb.size
 exact ⟨hb.trans (b.mono hs), (b.cell (p := ⟨g, 0, none⟩) (by simp; omega)).trans h0, (b.cell (p := ⟨g, 1, none⟩) (by simp; omega)).trans h1, (b.cell (p := ⟨g, 2, none⟩) (by simp; omega)).trans h2, (b.cell (p := ⟨g, 3, none⟩) (by simp; omega)).trans h3⟩

def Sx (a : World) (g : Nat) (v0 v1 v2 v3 : Value) (w : World) : Prop :=
 Below a.heap.size a w ∧ w.cell? ⟨g, 0, none⟩ = some v0 ∧ w.cell? ⟨g, 1, none⟩ = some v1 ∧ w.cell? ⟨g, 2, none⟩ = some v2 ∧ w.cell? ⟨g, 3, none⟩ = some v3
theorem keepA4 {a w : World} {g : Nat} {v0 v1 v2 v3 : Value} {o : Obj} (hg : g < a.heap.size) (h : Sx a g v0 v1 v2 v3 w) : Sx a g v0 v1 v2 v3 (w.alloc o) := by
 obtain ⟨hb, h0, h1, h2, h3⟩ := h
 have hs := hb.size
 exact ⟨hb.alloc hs o, (World.cell?_alloc_lt w o _ (by simp; omega)).trans h0, (World.cell?_alloc_lt w o _ (by simp; omega)).trans h1, (World.cell?_alloc_lt w o _ (by simp; omega)).trans h2, (World.cell?_alloc_lt w o _ (by simp; omega)).trans h3⟩
theorem keepA4d {a w : World} {g : Nat} {v0 v1 v2 v3 : Value} {o : Obj} (hg : g < a.heap.size) (h : Sx a g v0 v1 v2 v3 w.drew) : Sx a g v0 v1 v2 v3 (w.alloc o).drew := keepA4 (w := w.drew) (o := o) hg h
theorem keepC1 {a w : World} {g N i : Nat} {v0 v1 v2 v3 u : Value} (hg : g < a.heap.size) (hN : a.heap.size ≤ N) (h : Sx a g v0 v1 v2 v3 w) : Sx a g v0 v1 v2 v3 (w.setCell ⟨N, i, none⟩ u) := by
 obtain ⟨hb, h0, h1, h2, h3⟩ := h
 exact ⟨hb.setCell hN u, (cell_set_blk (by omega)).trans h0, (cell_set_blk (by omega)).trans h1, (cell_set_blk (by omega)).trans h2, (cell_set_blk (by omega)).trans h3⟩
theorem keepX4 {a w w' : World} {g : Nat} {v0 v1 v2 v3 : Value} (hg : g < a.heap.size) (h : Sx a g v0 v1 v2 v3 w) (b : Below w.heap.size w w') : Sx a g v0 v1 v2 v3 w' := keepX hg h.1 h.2.1 h.2.2.1 h.2.2.2.1 h.2.2.2.2 b
theorem newBelow {a X w' : World} {g : Nat} {v0 v1 v2 v3 : Value} {cs : Array Value} {t : TypeId} (h : Sx a g v0 v1 v2 v3 X) (b : Below (X.alloc (.cells cs t)).heap.size (X.alloc (.cells cs t)) w') : Blk w' X.heap.size t cs ∧ a.heap.size ≤ X.heap.size := ⟨(Blk.new X t cs).below b (Blk.new X t cs).lt, h.1.size⟩
theorem newBelowd {a X w' : World} {g : Nat} {v0 v1 v2 v3 : Value} {cs : Array Value} {t : TypeId} (h : Sx a g v0 v1 v2 v3 X.drew) (b : Below (X.alloc (.cells cs t)).drew.heap.size (X.alloc (.cells cs t)).drew w') : Blk w' X.heap.size t cs ∧ a.heap.size ≤ X.heap.size := ⟨(Blk.new X t cs).drew.below b (Blk.new X t cs).drew.lt, h.1.size⟩
structure XpMem (G : Nat) (key : List Nat) (n : Nat) (w wr : World) : Prop where
 r : Blk wr (G + 1) 79 (va .u8 (Ci.upd (Ci.exF key) z176 n))
 bel : Below G w wr

set_option maxHeartbeats 2000000 in
theorem expand_any (key : List Nat) (hkl : key.length = 16) (hk : Ci.Byt key) (w : World) :
    Calls Tryd.prog 39 #[.agg (va .u8 key)] w fun e w' => e = .returned (.agg (va .u8 (Ci.exL key))) ∧ Below w.heap.size w w' := by
  have hzv := zero16
  have hz4 := zero4
  have hzs := zeroSched
  have hvs : (va .u8 key).size = 16 := by rw [va_size, hkl]
  have hsz0 : (Tryd.prog.info? 22).map (·.size) = some (va .u8 key).size := by rw [va_size, hkl]; kernel_rfl
  have hsz := Lib.hid hsz0
  have hst : (storeCells ⟨w.heap.size + 1, 0, none⟩ (va .u8 key).toList).run Tryd.prog ((w.alloc (.cells (va .u8 key) 22)).alloc (.cells (va .u8 z176) 79)) = .ok () ((w.alloc (.cells (va .u8 key) 22)).alloc (.cells (va .u8 (Ci.upd (Ci.exF key) z176 16)) 79)) := by
    have hb : Blk ((w.alloc (.cells (va .u8 key) 22)).alloc (.cells (va .u8 z176) 79)) (w.alloc (.cells (va .u8 key) 22)).heap.size 79 (va .u8 z176) := Blk.new _ _ _
    have h := run_storeMid (P := Tryd.prog) hb 0 .u8 key (by rw [va_size, hkl, z176_len]; omega)
    have e : ((va .u8 z176).toList.take 0 ++ (nv .u8 key ++ (va .u8 z176).toList.drop (0 + (nv .u8 key).length))).toArray = va .u8 (Ci.upd (Ci.exF key) z176 16) := by
      rw [← Ci.upd_first key z176 z176_len hkl, nv_len, hkl]
      simp [va, nv_drop, nv_app]
    rw [e, World.setRow_alloc_new, show (w.alloc (.cells (va .u8 key) 22)).heap.size = w.heap.size + 1 from by simp] at h
    exact h
  have hm : XpMem w.heap.size key 16 w ((w.alloc (.cells (va .u8 key) 22)).alloc (.cells (va .u8 (Ci.upd (Ci.exF key) z176 16)) 79)) := by
    refine ⟨?_, ((Below.refl _ _).alloc (Nat.le_refl _) _).alloc (by simp) _⟩
    have := Blk.new (w.alloc (.cells (va .u8 key) 22)) 79 (va .u8 (Ci.upd (Ci.exF key) z176 16))
    simpa using this
  have hmm := Lib.hid hm
  clear hsz0 hm
  go_enter Tryd.func39, Tryd.ntmps39
  go_wp2_with (refine wpList_load_row rfl 22 (.tmp 1) rfl w.heap.size rfl 22 (va .u8 key) (0, 0) _ ?hq Tryd.underlying22 rfl hsz.out ?_
               case hq => exact (Blk.new _ _ _).alloc _)
  clear hst hvs hzs
  generalize (w.alloc (.cells (va .u8 key) 22)).alloc (.cells (va .u8 (Ci.upd (Ci.exF key) z176 16)) 79) = w1 at *
  go_loopw [3] (fun s wr => ∃ K : Nat, K ≤ 10 ∧ s = .int .i64 ((K : Int) + 1) ∧ XpMem w.heap.size key (16 * (K + 1)) w wr) (fun s _ => 11 - (intOf s).toNat)
  case atStart => exact ⟨0, by omega, rfl, hmm.out⟩
  case round =>
    clear hmm
    obtain ⟨K, hK, rfl, hmem⟩ := hrel
    by_cases hlt : K < 10
    · have hltI : (K : Int) + 1 ≤ 10 := by omega
      have hKI : (K : Int) < 11 := by omega
      have hrow := hmem.r.part (K * 16) 16
      rw [Ci.upd_row key z176 z176_len hkl K _ (Nat.le_refl _) (by omega)] at hrow
      have hbl := Ci.rowE_len hkl K
      have hbb := Ci.rowE_byt hk K
      generalize hbe : Ci.rowE key K = b at *
      have hnl : (nv .u8 b).length = 16 := by rw [nv_len, hbl]
      have hst := run_storeNew (P := Tryd.prog) wr 22 (va .u8 z16) .u8 b (by rw [va_size, hbl, z16_len])
      have hst2 : (storeCells ⟨wr.heap.size, 0, none⟩ (nv .u8 b)).run Tryd.prog (wr.alloc (.cells (va .u8 z16) 22)) = .ok () (wr.alloc (.cells (va .u8 b) 22)) := by
        have : (va .u8 b).toList = nv .u8 b := by simp [va]
        rw [← this]; exact hst
      have hmm := Lib.hid hmem
      have hrh := Lib.hid hrow
      clear hmem hrow
      have hsl := array_at
      obtain ⟨lst, hle⟩ : ∃ lst, (b.drop 12).take 4 = lst := ⟨_, rfl⟩
      have hll : lst.length = 4 := by rw [← hle]; simp; omega
      have hrl := (Blk.new wr 22 (va .u8 b)).part 12 4
      rw [hle] at hrl
      have hg : ∀ j, j < 4 → lst.getD j 0 = b.getD (12 + j) 0 := fun j hj => by
        rw [← hle]
        simp [hj]
      have hrlh := Lib.hid hrl
      have hghh := Lib.hid hg
      have hnl4 : (nv .u8 lst).length = 4 := by rw [nv_len, hll]
      have hst4 : (storeCells ⟨wr.heap.size + 1, 0, none⟩ (nv .u8 lst)).run Tryd.prog ((wr.alloc (.cells (va .u8 b) 22)).alloc (.cells (va .u8 z4) 106)) = .ok () ((wr.alloc (.cells (va .u8 b) 22)).alloc (.cells (va .u8 lst) 106)) := by
        have h := run_storeNew (P := Tryd.prog) (wr.alloc (.cells (va .u8 b) 22)) 106 (va .u8 z4) .u8 lst (by rw [va_size, hll, z4_len])
        have : (va .u8 lst).toList = nv .u8 lst := by simp [va]
        rw [this, show (wr.alloc (.cells (va .u8 b) 22)).heap.size = wr.heap.size + 1 from by simp] at h
        exact h
      have hbL : Blk ((wr.alloc (.cells (va .u8 b) 22)).alloc (.cells (va .u8 lst) 106)) (wr.heap.size + 1) 106 (va .u8 lst) := by
        have := Blk.new (wr.alloc (.cells (va .u8 b) 22)) 106 (va .u8 lst)
        simpa using this
      have hbX : Blk ((wr.alloc (.cells (va .u8 b) 22)).alloc (.cells (va .u8 lst) 106)) wr.heap.size 22 (va .u8 b) := (Blk.new _ _ _).alloc _
      have hbW : XpMem w.heap.size key (16 * (K + 1)) w ((wr.alloc (.cells (va .u8 b) 22)).alloc (.cells (va .u8 lst) 106)) := ⟨(hmm.out.r.alloc _).alloc _, (hmm.out.bel.alloc hmm.out.bel.size _).alloc (by have := hmm.out.bel.size; simp; omega) _⟩
      have hbLh := Lib.hid hbL
      have hbXh := Lib.hid hbX
      have hbWh := Lib.hid hbW
      have hbeh := Lib.hid hbe
      clear hrl hle hg hbL hbX hbW hbe
      go_wp2_with (first
        | (refine wpList_load_mid rfl 22 (.tmp 16) rfl (w.heap.size + 1) (K * 16) rfl (nv .u8 b) _ hrh.out Tryd.underlying22 rfl (by rw [hnl]; kernel_rfl) ?_)
        | (refine wpList_load_mid rfl 106 (.tmp 19) rfl wr.heap.size 12 rfl (nv .u8 lst) _ hrlh.out Tryd.underlying106 rfl (by rw [hnl4]; kernel_rfl) ?_))
      have hwrs : wr.heap.size + 1 < ((wr.alloc (.cells (va .u8 b) 22)).alloc (.cells (va .u8 lst) 106)).heap.size := hbLh.out.lt
      generalize (wr.alloc (.cells (va .u8 b) 22)).alloc (.cells (va .u8 lst) 106) = w2 at *
      clear hst hst2 hst4 hsl hz4 hzv
      have e0 := hbLh.out.num (i := 0) (by omega)
      have e1 := hbLh.out.num (i := 1) (by omega)
      have e2 := hbLh.out.num (i := 2) (by omega)
      have e3 := hbLh.out.num (i := 3) (by omega)
      rw [hghh.out 0 (by omega)] at e0
      rw [hghh.out 1 (by omega)] at e1
      rw [hghh.out 2 (by omega)] at e2
      rw [hghh.out 3 (by omega)] at e3
      have hx0 := hbb.get (12 + 0)
      have hx1 := hbb.get (12 + 1)
      have hx2 := hbb.get (12 + 2)
      have hx3 := hbb.get (12 + 3)
      have hwz := Ci.wd_zero b K
      obtain ⟨x0, hy0⟩ : ∃ x, b.getD (12 + 0) 0 = x := ⟨_, rfl⟩
      obtain ⟨x1, hy1⟩ : ∃ x, b.getD (12 + 1) 0 = x := ⟨_, rfl⟩
      obtain ⟨x2, hy2⟩ : ∃ x, b.getD (12 + 2) 0 = x := ⟨_, rfl⟩
      obtain ⟨x3, hy3⟩ : ∃ x, b.getD (12 + 3) 0 = x := ⟨_, rfl⟩
      rw [hy0] at e0 hx0
      rw [hy1] at e1 hx1
      rw [hy2] at e2 hx2
      rw [hy3] at e3 hx3
      rw [show b.getD 13 0 = x1 from hy1, show b.getD 14 0 = x2 from hy2, show b.getD 15 0 = x3 from hy3, show b.getD 12 0 = x0 from hy0] at hwz
      obtain ⟨p2, hp2⟩ : ∃ p, Gf.pw 2 K = p := ⟨_, rfl⟩
      have hp2l : p2 < 256 := by rw [← hp2]; exact Gf.pw_lt 2 K (by omega)
      rw [hp2] at hwz
      have hpz := Lib.hid ((Gf.powZ_nat 2 K (by omega)).trans hp2)
      have hxor : bits BinOp.xor IntKind.u8 ((Gf.sub x1 : Nat) : Int) (p2 : Int) = ((Gf.sub x1 ^^^ p2 : Nat) : Int) := u8_xor_nat _ _ (Gf.sub_lt _) hp2l
      have hwzh := Lib.hid hwz
      have hwsh := Lib.hid hwrs
      have hwK : IntKind.i64.wrap (K : Int) = (K : Int) := IntWalk.i64_in _ (by omega)
      have hSp := Lib.hid (show Sx w2 (wr.heap.size + 1) _ _ _ _ w2.drew from ⟨below_drewN (Below.refl _ _) 1, e0, e1, e2, e3⟩)
      clear hwz hy0 hy1 hy2 hy3 hp2 hwrs
      go_upto_region 7 with fail
      go_cut [6] (fun v wx => ∃ N, v = .pointer (some ⟨N, 0, none⟩) ∧ Blk wx N 106 (va .u8 (Ci.wd b K 0)) ∧ w2.heap.size ≤ N ∧ Below w2.heap.size w2 wx)
      case first =>
        go_region_held3 (fun w' => Below w2.heap.size w2 w' ∧ w'.cell? ⟨wr.heap.size + 1, 0, none⟩ = some (.int .u8 (x0 : Int)) ∧ w'.cell? ⟨wr.heap.size + 1, 1, none⟩ = some (.int .u8 (x1 : Int)) ∧ w'.cell? ⟨wr.heap.size + 1, 2, none⟩ = some (.int .u8 (x2 : Int)) ∧ w'.cell? ⟨wr.heap.size + 1, 3, none⟩ = some (.int .u8 (x3 : Int)))
          (first
            | exact hSp.out
            | exact keepA4 hwsh.out hSp.out
            | exact keepA4d hwsh.out hSp.out
            | exact keepC1 hwsh.out hN.out.2 (keepC1 hwsh.out hN.out.2 (keepC1 hwsh.out hN.out.2 (keepC1 hwsh.out hN.out.2 hSp.out)))
            | go_keep)
          ((first
            | (go_at_call 59; (with_reducible refine (sub_to x1 (Gf.sub x1) hx1 rfl _).mono ?_); rintro e wq ⟨rfl, bq⟩; (first | (replace hN := Lib.hid (And.intro (hN.out.1.below bq hN.out.1.lt) hN.out.2); obtain ⟨n0, n1, n2, n3⟩ := fourCells hN.out.1; obtain ⟨m0, m1, m2, m3⟩ := fourFree hN.out.1; replace hSp := Lib.hid (keepX4 hwsh.out hSp.out bq)) | (with_reducible have hN := Lib.hid (newBelow hSp.out bq); obtain ⟨n0, n1, n2, n3⟩ := fourCells hN.out.1; obtain ⟨m0, m1, m2, m3⟩ := fourFree hN.out.1; replace hSp := Lib.hid (keepX4 hwsh.out (keepA4 hwsh.out hSp.out) bq)) | (with_reducible have hN := Lib.hid (newBelowd hSp.out bq); obtain ⟨n0, n1, n2, n3⟩ := fourCells hN.out.1; obtain ⟨m0, m1, m2, m3⟩ := fourFree hN.out.1; replace hSp := Lib.hid (keepX4 hwsh.out (keepA4d hwsh.out hSp.out) bq)) | (replace hSp := Lib.hid (keepX4 hwsh.out hSp.out bq))))
            | (go_at_call 59; (with_reducible refine (sub_to x2 (Gf.sub x2) hx2 rfl _).mono ?_); rintro e wq ⟨rfl, bq⟩; (first | (replace hN := Lib.hid (And.intro (hN.out.1.below bq hN.out.1.lt) hN.out.2); obtain ⟨n0, n1, n2, n3⟩ := fourCells hN.out.1; obtain ⟨m0, m1, m2, m3⟩ := fourFree hN.out.1; replace hSp := Lib.hid (keepX4 hwsh.out hSp.out bq)) | (with_reducible have hN := Lib.hid (newBelow hSp.out bq); obtain ⟨n0, n1, n2, n3⟩ := fourCells hN.out.1; obtain ⟨m0, m1, m2, m3⟩ := fourFree hN.out.1; replace hSp := Lib.hid (keepX4 hwsh.out (keepA4 hwsh.out hSp.out) bq)) | (with_reducible have hN := Lib.hid (newBelowd hSp.out bq); obtain ⟨n0, n1, n2, n3⟩ := fourCells hN.out.1; obtain ⟨m0, m1, m2, m3⟩ := fourFree hN.out.1; replace hSp := Lib.hid (keepX4 hwsh.out (keepA4d hwsh.out hSp.out) bq)) | (replace hSp := Lib.hid (keepX4 hwsh.out hSp.out bq))))
            | (go_at_call 59; (with_reducible refine (sub_to x3 (Gf.sub x3) hx3 rfl _).mono ?_); rintro e wq ⟨rfl, bq⟩; (first | (replace hN := Lib.hid (And.intro (hN.out.1.below bq hN.out.1.lt) hN.out.2); obtain ⟨n0, n1, n2, n3⟩ := fourCells hN.out.1; obtain ⟨m0, m1, m2, m3⟩ := fourFree hN.out.1; replace hSp := Lib.hid (keepX4 hwsh.out hSp.out bq)) | (with_reducible have hN := Lib.hid (newBelow hSp.out bq); obtain ⟨n0, n1, n2, n3⟩ := fourCells hN.out.1; obtain ⟨m0, m1, m2, m3⟩ := fourFree hN.out.1; replace hSp := Lib.hid (keepX4 hwsh.out (keepA4 hwsh.out hSp.out) bq)) | (with_reducible have hN := Lib.hid (newBelowd hSp.out bq); obtain ⟨n0, n1, n2, n3⟩ := fourCells hN.out.1; obtain ⟨m0, m1, m2, m3⟩ := fourFree hN.out.1; replace hSp := Lib.hid (keepX4 hwsh.out (keepA4d hwsh.out hSp.out) bq)) | (replace hSp := Lib.hid (keepX4 hwsh.out hSp.out bq))))
            | (go_at_call 59; (with_reducible refine (sub_to x0 (Gf.sub x0) hx0 rfl _).mono ?_); rintro e wq ⟨rfl, bq⟩; (first | (replace hN := Lib.hid (And.intro (hN.out.1.below bq hN.out.1.lt) hN.out.2); obtain ⟨n0, n1, n2, n3⟩ := fourCells hN.out.1; obtain ⟨m0, m1, m2, m3⟩ := fourFree hN.out.1; replace hSp := Lib.hid (keepX4 hwsh.out hSp.out bq)) | (with_reducible have hN := Lib.hid (newBelow hSp.out bq); obtain ⟨n0, n1, n2, n3⟩ := fourCells hN.out.1; obtain ⟨m0, m1, m2, m3⟩ := fourFree hN.out.1; replace hSp := Lib.hid (keepX4 hwsh.out (keepA4 hwsh.out hSp.out) bq)) | (with_reducible have hN := Lib.hid (newBelowd hSp.out bq); obtain ⟨n0, n1, n2, n3⟩ := fourCells hN.out.1; obtain ⟨m0, m1, m2, m3⟩ := fourFree hN.out.1; replace hSp := Lib.hid (keepX4 hwsh.out (keepA4d hwsh.out hSp.out) bq)) | (replace hSp := Lib.hid (keepX4 hwsh.out hSp.out bq))))
            | (go_at_call 60; (refine (power_to 2 (K : Int) p2 (by omega) hpz.out _).mono ?_); rintro e wq ⟨rfl, bq⟩; (first | (replace hN := Lib.hid (And.intro (hN.out.1.below bq hN.out.1.lt) hN.out.2); obtain ⟨n0, n1, n2, n3⟩ := fourCells hN.out.1; obtain ⟨m0, m1, m2, m3⟩ := fourFree hN.out.1; replace hSp := Lib.hid (keepX4 hwsh.out hSp.out bq)) | (with_reducible have hN := Lib.hid (newBelow hSp.out bq); obtain ⟨n0, n1, n2, n3⟩ := fourCells hN.out.1; obtain ⟨m0, m1, m2, m3⟩ := fourFree hN.out.1; replace hSp := Lib.hid (keepX4 hwsh.out (keepA4 hwsh.out hSp.out) bq)) | (with_reducible have hN := Lib.hid (newBelowd hSp.out bq); obtain ⟨n0, n1, n2, n3⟩ := fourCells hN.out.1; obtain ⟨m0, m1, m2, m3⟩ := fourFree hN.out.1; replace hSp := Lib.hid (keepX4 hwsh.out (keepA4d hwsh.out hSp.out) bq)) | (replace hSp := Lib.hid (keepX4 hwsh.out hSp.out bq))))))
        all_goals
          go_wp2_with fail
          go_meet
        all_goals first
          | exact ⟨_, rfl, by rw [hwzh.out]; exact Blk.new _ _ _, hSp.out.1.size, hSp.out.1.alloc hSp.out.1.size _⟩
          | exact ⟨_, rfl, by rw [hwzh.out]; exact (Blk.new _ _ _).drew, hSp.out.1.size, below_drewN (hSp.out.1.alloc hSp.out.1.size _) 1⟩
          | exact ⟨_, rfl, by rw [hwzh.out]; exact (((hN.out.1.set_ 0 _).set_ 1 _).set_ 2 _).set_ 3 _, hN.out.2, (((hSp.out.1.setCell hN.out.2 _).setCell hN.out.2 _).setCell hN.out.2 _).setCell hN.out.2 _⟩
      case rest =>
        obtain ⟨N, rfl, hbN, hN2, hbC⟩ := hcut
        have hX2 := hbXh.out.below hbC hbXh.out.lt
        have hW2 : XpMem w.heap.size key (16 * (K + 1)) w wc := ⟨hbWh.out.r.below hbC hbWh.out.r.lt, hbWh.out.bel.trans (hbC.mono hbWh.out.bel.size)⟩
        have hNX : wr.heap.size ≠ N := by have := hwsh.out; omega
        have hNR : w.heap.size + 1 ≠ N := by have := hbWh.out.r.lt; omega
        have hXR : w.heap.size + 1 < wr.heap.size := hmm.out.r.lt
        have hNG : w.heap.size ≤ N := by have := hbWh.out.bel.size; omega
        have hNh := Lib.hid hbN
        have hXh := Lib.hid hX2
        have hWh := Lib.hid hW2
        have hne1 := Lib.hid hNX
        have hne2 := Lib.hid hNR
        clear hbN hX2 hW2 hbC hSp hpz hxor e0 e1 e2 e3 hx0 hx1 hx2 hx3 hwzh hp2l hNX hNR hwK
        obtain ⟨X, hXe⟩ : ∃ X, wr.heap.size = X := ⟨_, rfl⟩
        rw [hXe] at hXh hne1
        clear hwsh
        go_wp2
        rw [hXe]
        go_loopw [38] (fun s wx => ∃ i : Nat, i ≤ 16 ∧ s = .int .i64 (i : Int) ∧ Blk wx N 106 (va .u8 (Ci.wd b K i)) ∧ Blk wx X 22 (va .u8 b) ∧ XpMem w.heap.size key (16 * (K + 1) + i) w wx) (fun s _ => 16 - (intOf s).toNat)
        case atStart => exact ⟨0, by omega, rfl, hNh.out, hXh.out, hWh.out⟩
        case round =>
          clear hNh hXh hWh
          obtain ⟨i, hi16, rfl, hN0, hX0, hM0⟩ := hrel
          by_cases hli : i < 16
          · have hliI : (i : Int) < 16 := by omega
            obtain ⟨m, hm⟩ : ∃ m, i % 4 = m := ⟨_, rfl⟩
            have hm4 : m < 4 := by omega
            have hmI : (i : Int).tmod 4 = (m : Int) := by rw [Int.tmod_eq_emod_of_nonneg (by omega)]; omega
            have hmE : (i : Int) % 4 = (m : Int) := by omega
            have hm4I : (m : Int) < 4 := by omega
            obtain ⟨hs1, hs2⟩ := Ci.wd_step b K i hli
            have hnx := Ci.exF_next key K i hli
            rw [hbeh.out] at hnx
            rw [hm] at hs1 hs2 hnx
            obtain ⟨c, hc⟩ : ∃ c, Ci.col b K m (i / 4) = c := ⟨_, rfl⟩
            rw [hc] at hs1 hs2 hnx
            have hc1 := hN0.num (i := m) (by rw [Ci.wd_len]; exact hm4)
            have hf1 := hN0.frozen m
            have hc2 := hX0.num (i := i) (by omega)
            have hu := (Ci.wd_byt hbb K i).get m
            have hy := hbb.get i
            have hxor : bits BinOp.xor IntKind.u8 (((Ci.wd b K i).getD m 0 : Nat) : Int) ((b.getD i 0 : Nat) : Int) = (c : Int) := by rw [u8_xor_nat _ _ hu hy, hs2]
            have hN3 : Blk (wr.drew.setCell ⟨N, m, none⟩ (.int .u8 (c : Int))) N 106 (va .u8 (Ci.wd b K (i + 1))) := by
              have := hN0.drew.setNum m c
              rw [hs1] at this
              exact this
            have hX3 : Blk (wr.drew.setCell ⟨N, m, none⟩ (.int .u8 (c : Int))) X 22 (va .u8 b) := hX0.drew.far hne1.out _
            have hM3 : XpMem w.heap.size key (16 * (K + 1) + i) w (wr.drew.setCell ⟨N, m, none⟩ (.int .u8 (c : Int))) := ⟨hM0.r.drew.far hne2.out _, (below_drewN hM0.bel 1).setCell hNG _⟩
            have hg3 : (Ci.wd b K (i + 1)).getD m 0 = c := by rw [← hs1]; exact getD_set_eq (by rw [Ci.wd_len]; exact hm4)
            have hN3h := Lib.hid hN3
            have hX3h := Lib.hid hX3
            have hM3h := Lib.hid hM3
            have hg3h := Lib.hid hg3
            have hnxh := Lib.hid hnx
            generalize (Ci.wd b K i).getD m 0 = u0 at *
            generalize b.getD i 0 = y0 at *
            clear hN0 hX0 hM0 hN3 hX3 hM3 hs1 hs2 hnx hg3 hc hm
            go_wp2
            refine wp_region_still_tail 9 (by kernel_rfl) (by kernel_rfl) ?_
            simp only [List.take_succ_cons, List.take_zero, List.drop_succ_cons, List.drop_zero]
            change wpStill _ _ wr.drew _ _ _
            iterate 9 still_step
            refine wpStill_nil ?_
            change wpList _ _ _ _ _ wr.drew
            go_wp2
            have hgz := hN3h.out.num (i := m) (by rw [Ci.wd_len]; exact hm4)
            rw [hg3h.out] at hgz
            have hK1 : (0 : Int) ≤ (K : Int) + 1 := by omega
            have hK2 : (K : Int) + 1 < 11 := by omega
            have hi176 : 16 * (K + 1) + i < 176 := by omega
            have hRf := hM3h.out.r.frozen ((K + 1) * 16 + i)
            have hRl : (va .u8 (Ci.upd (Ci.exF key) z176 (16 * (K + 1) + i))).size = 176 := by rw [va_size, Ci.upd_len, z176_len]
            have hRc := hM3h.out.r.num (i := (K + 1) * 16 + i) (by rw [Ci.upd_len, z176_len]; omega)
            generalize (Ci.upd (Ci.exF key) z176 (16 * (K + 1) + i)).getD ((K + 1) * 16 + i) 0 = r0 at hRc
            refine wp_region_still_tail 8 (by kernel_rfl) (by kernel_rfl) ?_
            simp only [List.take_succ_cons, List.take_zero, List.drop_succ_cons, List.drop_zero]
            change wpStill _ _ (wr.drew.setCell ⟨N, m, none⟩ (.int .u8 (c : Int))).drew _ _ _
            generalize hw3 : wr.drew.setCell ⟨N, m, none⟩ (.int .u8 (c : Int)) = w3 at *
            clear hc1 hf1 hc2
            iterate 8 still_step
            refine wpStill_nil ?_
            change wpList _ _ _ _ _ (wr.drew.setCell ⟨N, m, none⟩ (.int .u8 (c : Int))).drew
            rw [hw3]
            clear hw3
            go_wp2
            go_roundw
            case rel =>
              refine ⟨i + 1, by omega, by go_num, hN3h.out.drew.far (by have := hne2.out; simp; omega) _, hX3h.out.drew.far (by simp; omega) _, ⟨?_, (below_drewN hM3h.out.bel 1).setCell (by simp <;> omega) _⟩⟩
              have e5 := hM3h.out.r
              have e6 := hnxh.out
              rw [show 16 * (K + 1) + (i + 1) = (16 * (K + 1) + i) + 1 from rfl, ← Ci.upd_set]
              rw [show 16 * (K + 1) + i = (K + 1) * 16 + i from by omega] at e5 e6 ⊢
              rw [e6]
              exact e5.drew.setNum ((K + 1) * 16 + i) c
            case measure => simp [intOf]; omega
          · obtain rfl : i = 16 := by omega
            have hM0h := Lib.hid hM0
            clear hN0 hX0 hM0
            go_wp2
            go_roundw
            case rel => exact ⟨K + 1, by omega, by go_num, by rw [show 16 * (K + 1 + 1) = 16 * (K + 1) + 16 from by omega]; exact hM0h.out⟩
            case measure => simp [intOf]; omega
    · obtain rfl : K = 10 := by omega
      have hall : Ci.upd (Ci.exF key) z176 (16 * (10 + 1)) = Ci.exL key := Ci.exL_all key z176 z176_len
      obtain ⟨hmr, hmb⟩ := hmem
      rw [hall] at hmr
      have hLl := Ci.exL_len key
      have hsz0 : (Tryd.prog.info? 79).map (·.size) = some (va .u8 (Ci.exL key)).size := by rw [va_size, hLl]; kernel_rfl
      have hszE := Lib.hid hsz0
      have hst := run_storeBlk (P := Tryd.prog) hmr .u8 (Ci.exL key) (by simp [va_size])
      have hvs : (va .u8 (Ci.exL key)).size = 176 := by rw [va_size, hLl]
      have hmrh := Lib.hid hmr
      have hmbh := Lib.hid hmb
      clear hsz0 hmr hmb hall
      go_wp2_with (refine wpList_load_row rfl 79 (.tmp 2) rfl (w.heap.size + 1) rfl 79 (va .u8 (Ci.exL key)) (0, 0) _ hmrh.out Tryd.underlying79 rfl hszE.out ?_)
      exact bodyPost_ret (results_cell_row rfl _ _ (w.heap.size + 1) 79 (va .u8 (Ci.exL key)) (0, 0) _ rfl (hmrh.out.row _) Tryd.underlying79 rfl hszE.out) rfl ⟨rfl, below_setRow hmbh.out (by omega) _⟩
end Go.Proofs.YtcfddmplnoknlaaDoor
namespace Go.Proofs.YtcfddmplnoknlaaDoor
set_option maxRecDepth 16384
open Go.RowKit

theorem enc_len (L b : List Nat) : (Ci.enc L b).length = 16 := Ci.encS_len L b 10
end Go.Proofs.YtcfddmplnoknlaaDoor
namespace Go.Proofs.YtcfddmplnoknlaaDoor.Ci
set_option maxRecDepth 16384

def T (j : Nat) : Nat := 4 * (j % 4) + j / 4
theorem T_lt {j : Nat} (h : j < 16) : T j < 16 := by unfold T; omega
theorem T_T {j : Nat} (h : j < 16) : T (T j) = j := by unfold T; omega
theorem T_at (c r : Nat) (hr : r < 4) : T (4 * c + r) = 4 * r + c := by unfold T; omega
theorem getD_range (f : Nat → Nat) {i : Nat} (hi : i < 16) : ((List.range 16).map f).getD i 0 = f i := by
 simp [List.getD_eq_getElem?_getD, hi]
def tr (x : List Nat) : List Nat := (List.range 16).map fun j => x.getD (T j) 0
theorem tr_len (x : List Nat) : (tr x).length = 16 := by simp [tr]
theorem tr_get (x : List Nat) {j : Nat} (hj : j < 16) : (tr x).getD j 0 = x.getD (T j) 0 := getD_range _ hj
def updT (f : Nat → Nat) (b : List Nat) (k : Nat) : List Nat := (List.range 16).map fun j => if T j < k then f (T j) else b.getD j 0
theorem updT_len (f : Nat → Nat) (b : List Nat) (k : Nat) : (updT f b k).length = 16 := by simp [updT]
theorem updT_get (f : Nat → Nat) (b : List Nat) (k : Nat) {j : Nat} (hj : j < 16) : (updT f b k).getD j 0 = if T j < k then f (T j) else b.getD j 0 := getD_range _ hj
theorem ext16 {a b : List Nat} (ha : a.length = 16) (hb : b.length = 16) (h : ∀ i, i < 16 → a.getD i 0 = b.getD i 0) : a = b := by
 apply List.ext_getElem (by omega)
 intro i h1 h2
 have := h i (by omega)
 simpa [List.getD_eq_getElem?_getD, h1, h2] using this
theorem set_get (l : List Nat) (p v i : Nat) (hi : i < l.length) : (l.set p v).getD i 0 = if p = i then v else l.getD i 0 := by
  simp only [List.getD_eq_getElem?_getD, List.getElem?_set]
  by_cases h : p = i
  · subst h; simp [hi]
  · simp [h]
theorem updT_zero (f : Nat → Nat) {b : List Nat} (hb : b.length = 16) : updT f b 0 = b :=
 ext16 (updT_len ..) hb fun i hi => by rw [updT_get _ _ _ hi]; simp
theorem updT_set (f : Nat → Nat) (b : List Nat) (k p v : Nat) (hk : k < 16) (hp : T k = p) (hv : f k = v) : (updT f b k).set p v = updT f b (k + 1) := by
  refine ext16 (by simp [updT_len]) (updT_len ..) fun i hi => ?_
  rw [set_get _ _ _ _ (by rw [updT_len]; exact hi), updT_get _ _ _ hi, updT_get _ _ _ hi]
  by_cases h : p = i
  · subst hp h
    rw [if_pos rfl, T_T hk, if_pos (by omega), hv]
  · have : T i ≠ k := fun e => h (by rw [← hp, ← e, T_T hi])
    rw [if_neg h]
    by_cases hl : T i < k
    · rw [if_pos hl, if_pos (by omega)]
    · rw [if_neg hl, if_neg (by omega)]
theorem updT_id (f : Nat → Nat) {b : List Nat} (hb : b.length = 16) (k : Nat) (h : ∀ i, i < 16 → f (T i) = b.getD i 0) : updT f b k = b :=
  ext16 (updT_len ..) hb fun i hi => by
    rw [updT_get _ _ _ hi]
    split
    · exact h i hi
    · rfl
theorem updT_all (f : Nat → Nat) (b x : List Nat) (h : ∀ i, i < 16 → f i = x.getD i 0) : updT f b 16 = tr x :=
 ext16 (updT_len ..) (tr_len _) fun i hi => by rw [updT_get _ _ _ hi, if_pos (T_lt hi), h _ (T_lt hi), tr_get _ hi]
def yR (L b : List Nat) (k : Nat) : List Nat := rot 1 (each Gf.sub (encS L b k))
def xR (L b : List Nat) (k : Nat) : List Nat := if k + 1 < 10 then mix [2, 3, 1, 1] (yR L b k) else yR L b k
theorem yR_byt (L b : List Nat) (k : Nat) : Byt (yR L b k) := rot_byt (each_byt Gf.sub_lt _)
theorem xR_byt (L b : List Nat) (k : Nat) : Byt (xR L b k) := by
  unfold xR; split
  · exact mix_byt fac_byt (yR_byt L b k)
  · exact yR_byt L b k
theorem encS_next (L b : List Nat) (k : Nat) : encS L b (k + 1) = addK (xR L b k) (ks L (k + 1)) := rfl
theorem ks_get (L : List Nat) (k s : Nat) (hs : s < 16) : (ks L k).getD s 0 = L.getD (k * 16 + s) 0 := by
 unfold ks
 simp [List.getD_eq_getElem?_getD, List.getElem?_drop, hs]
theorem encS_get (L b : List Nat) (k s : Nat) (hs : s < 16) : (encS L b (k + 1)).getD s 0 = (xR L b k).getD s 0 ^^^ L.getD ((k + 1) * 16 + s) 0 := by
 rw [encS_next]; unfold addK; rw [getD_range _ hs, ks_get _ _ _ hs]
theorem encS_first (L b : List Nat) (s : Nat) (hs : s < 16) : (encS L b 0).getD s 0 = b.getD s 0 ^^^ L.getD s 0 := by
 show (addK b (ks L 0)).getD s 0 = _
 unfold addK; rw [getD_range _ hs, ks_get _ _ _ hs]; simp
theorem yR_get (L b : List Nat) (k r c : Nat) (hr : r < 4) (hc : c < 4) : (tr (yR L b k)).getD (4 * r + c) 0 = Gf.sub ((tr (encS L b k)).getD (4 * r + (c + r) % 4) 0) := by
 rw [tr_get _ (by omega), tr_get _ (by omega)]
 have e1 : T (4 * r + c) = 4 * c + r := T_at r c hc
 have e2 : T (4 * r + (c + r) % 4) = 4 * ((c + r) % 4) + r := T_at r _ (by omega)
 rw [e1, e2]
 unfold yR rot each
 rw [getD_range _ (by omega), getD_range _ (by omega)]
 have e3 : (4 * c + r) / 4 = c := by omega
 have e4 : (4 * c + r) % 4 = r := by omega
 rw [e3, e4, Nat.one_mul]
theorem sub_all (L b : List Nat) (k : Nat) (z : List Nat) (hz : z.length = 16) : upd (fun i => (tr (yR L b k)).getD i 0) z 16 = tr (yR L b k) := by
 rw [upd_all _ _ _ (by omega), hz]
 exact ext16 (by simp) (tr_len _) fun i hi => getD_range _ hi
theorem out_all (x z : List Nat) (hx : x.length = 16) (hz : z.length = 16) : upd (fun i => (tr x).getD (T i) 0) z 16 = x := by
 rw [upd_all _ _ _ (by omega), hz]
 exact ext16 (by simp) hx fun i hi => by rw [getD_range _ hi, tr_get _ (T_lt hi), T_T hi]

/-! the products with 1, 2 and 3 -/
theorem gm3 (a : Nat) : Gf.gm a 3 = Gf.gm a 2 ^^^ Gf.gm a 1 := by rw [show (3 : Nat) = 2 ^^^ 1 from rfl, Gf.gm_right]
theorem by3 (a : Nat) (h : a < 256) : Gf.gm 3 a = Gf.gm 2 a ^^^ a := by
 rw [Gf.gm_comm 3 a (by omega) h, gm3, Gf.gm_one a h, Gf.gm_comm a 2 h (by omega)]
theorem by1 (a : Nat) (h : a < 256) : Gf.gm 1 a = a := by rw [Gf.gm_comm 1 a (by omega) h, Gf.gm_one a h]
def dbl (a : Nat) : Nat := Gf.gm 2 a
theorem dbl_lt (a : Nat) : dbl a < 256 := Gf.gm_lt _ _ (by omega)
theorem mixS4 (y : List Nat) (c r p q s t : Nat) (h0 : y.getD (4 * c + (r + 0) % 4) 0 = p) (h1 : y.getD (4 * c + (r + 1) % 4) 0 = q) (h2 : y.getD (4 * c + (r + 2) % 4) 0 = s) (h3 : y.getD (4 * c + (r + 3) % 4) 0 = t) :
  mixS [2, 3, 1, 1] y c r 4 = Gf.gm 2 p ^^^ Gf.gm 3 q ^^^ Gf.gm 1 s ^^^ Gf.gm 1 t := by
 simp only [mixS]
 rw [h0, h1, h2, h3, Nat.zero_xor]
 rfl
theorem mix_at (y : List Nat) (hy : Byt y) (c : Nat) (hc : c < 4) (a0 a1 a2 a3 : Nat) (h0 : y.getD (4 * c) 0 = a0) (h1 : y.getD (4 * c + 1) 0 = a1) (h2 : y.getD (4 * c + 2) 0 = a2) (h3 : y.getD (4 * c + 3) 0 = a3) :
  (mix [2, 3, 1, 1] y).getD (4 * c) 0 = dbl a0 ^^^ dbl a1 ^^^ a1 ^^^ a2 ^^^ a3 ∧
  (mix [2, 3, 1, 1] y).getD (4 * c + 1) 0 = a0 ^^^ dbl a1 ^^^ dbl a2 ^^^ a2 ^^^ a3 ∧
  (mix [2, 3, 1, 1] y).getD (4 * c + 2) 0 = a0 ^^^ a1 ^^^ dbl a2 ^^^ dbl a3 ^^^ a3 ∧
  (mix [2, 3, 1, 1] y).getD (4 * c + 3) 0 = dbl a0 ^^^ a0 ^^^ a1 ^^^ a2 ^^^ dbl a3 := by
 have b0 : a0 < 256 := h0 ▸ hy.get _
 have b1 : a1 < 256 := h1 ▸ hy.get _
 have b2 : a2 < 256 := h2 ▸ hy.get _
 have b3 : a3 < 256 := h3 ▸ hy.get _
 have g : ∀ r, r < 4 → (mix [2, 3, 1, 1] y).getD (4 * c + r) 0 = mixS [2, 3, 1, 1] y c r 4 := fun r hr => by
  unfold mix
  rw [getD_range _ (by omega), show (4 * c + r) / 4 = c from by omega, show (4 * c + r) % 4 = r from by omega]
 have g0 := g 0 (by omega)
 rw [Nat.add_zero, mixS4 y c 0 a0 a1 a2 a3 h0 h1 h2 h3, by3 _ b1, by1 _ b2, by1 _ b3] at g0
 have g1 := g 1 (by omega)
 rw [mixS4 y c 1 a1 a2 a3 a0 h1 h2 h3 h0, by3 _ b2, by1 _ b3, by1 _ b0] at g1
 have g2 := g 2 (by omega)
 rw [mixS4 y c 2 a2 a3 a0 a1 h2 h3 h0 h1, by3 _ b3, by1 _ b0, by1 _ b1] at g2
 have g3 := g 3 (by omega)
 rw [mixS4 y c 3 a3 a0 a1 a2 h3 h0 h1 h2, by3 _ b0, by1 _ b1, by1 _ b2] at g3
 refine ⟨g0.trans ?_, g1.trans ?_, g2.trans ?_, g3.trans ?_⟩ <;> (unfold dbl; ac_rfl)
theorem n_at (g : Nat → Nat) (y : List Nat) (c i : Nat) (hc : c < 4) (hi : i < 4) : (updT g (tr y) (4 * c)).getD (4 * i + c) 0 = y.getD (4 * c + i) 0 := by
 have e : T (4 * i + c) = 4 * c + i := T_at i c hc
 rw [updT_get _ _ _ (by omega), if_neg (by omega), tr_get _ (by omega), e]
theorem n_done (g : Nat → Nat) (b : List Nat) (c r : Nat) (hc : c < 4) (hr : r < 4) : (updT g b (4 * c + 4)).getD (4 * r + c) 0 = g (4 * c + r) := by
 have e : T (4 * r + c) = 4 * c + r := T_at r c hc
 rw [updT_get _ _ _ (by omega), if_pos (by omega), e]
theorem set_col (g : Nat → Nat) (b : List Nat) (c v0 v1 v2 v3 : Nat) (hc : c < 4) (h0 : g (4 * c) = v0) (h1 : g (4 * c + 1) = v1) (h2 : g (4 * c + 2) = v2) (h3 : g (4 * c + 3) = v3) :
  ((((updT g b (4 * c)).set c v0).set (4 + c) v1).set (8 + c) v2).set (12 + c) v3 = updT g b (4 * c + 4) := by
 rw [updT_set g b (4 * c) c v0 (by omega) (by unfold T; omega) h0, updT_set g b (4 * c + 1) (4 + c) v1 (by omega) (by unfold T; omega) h1, updT_set g b (4 * c + 1 + 1) (8 + c) v2 (by omega) (by unfold T; omega) h2, updT_set g b (4 * c + 1 + 1 + 1) (12 + c) v3 (by omega) (by unfold T; omega) h3]
theorem dbl_hi : ∀ a : Fin 256, 127 < a.val → (2 * a.val) % 256 ^^^ 27 = dbl a.val := by decide +kernel
theorem dbl_lo : ∀ a : Fin 256, ¬ 127 < a.val → 2 * a.val = dbl a.val := by decide +kernel
end Go.Proofs.YtcfddmplnoknlaaDoor.Ci
namespace Go.Proofs.YtcfddmplnoknlaaDoor
set_option maxRecDepth 16384
open Go.RowKit

theorem double_any (a : Nat) (ha : a < 256) (w : World) :
    Calls Tryd.prog 91 #[.int .u8 (a : Int)] w fun e w' => e = .returned (.int .u8 ((Ci.dbl a : Nat) : Int)) ∧ w' = w := by
  by_cases h : 127 < a
  · have hI : 127 < (a : Int) := by omega
    have e := Ci.dbl_hi ⟨a, ha⟩ h
    simp only at e
    have e2 : bits .xor .u8 ((a : Int) * 2 % 256) 27 = ((Ci.dbl a : Nat) : Int) := by
      rw [show (a : Int) * 2 % 256 = ((2 * a % 256 : Nat) : Int) from by omega, show (27 : Int) = ((27 : Nat) : Int) from rfl, u8_xor_nat _ _ (by omega) (by omega), e]
    clear e
    go_enter Tryd.func91, Tryd.ntmps91
    go_wp2
    go_ret
    exact ⟨rfl, rfl⟩
  · have hI : ¬ 127 < (a : Int) := by omega
    have e := Ci.dbl_lo ⟨a, ha⟩ h
    simp only at e
    have e2 : (a : Int) * 2 = ((Ci.dbl a : Nat) : Int) := by omega
    clear e
    go_enter Tryd.func91, Tryd.ntmps91
    go_wp2
    go_ret
    exact ⟨rfl, rfl⟩
theorem double_to (a D : Nat) (ha : a < 256) (hD : Ci.dbl a = D) (w : World) :
  Calls Tryd.prog 91 #[.int .u8 (a : Int)] w fun e w' => e = .returned (.int .u8 (D : Int)) ∧ w = w' := by
 subst hD
 exact (double_any a ha w).mono fun _ _ h => ⟨h.1, h.2.symm⟩
end Go.Proofs.YtcfddmplnoknlaaDoor
namespace Go.Proofs.YtcfddmplnoknlaaDoor
set_option maxRecDepth 16384
open Go.RowKit

structure RxMem (G X : Nat) (key : List Nat) (n : Nat) (w wr : World) : Prop where
 k : Blk wr G 22 (va .u8 key)
 r : Blk wr (G + 1) 137 (va .u8 z176)
 o : Blk wr (G + 1 + 1) 137 (va .u8 (Ci.upd (Ci.exF key) z176 n))
 t : Blk wr X 139 (va .u8 subs)
 x : G + 1 + 1 < X
 bel : Below G w wr
theorem RxMem.below {G X : Nat} {key : List Nat} {n : Nat} {w wr w2 : World} (h : RxMem G X key n w wr) (b : Below wr.heap.size wr w2) : RxMem G X key n w w2 :=
 ⟨h.k.below b h.k.lt, h.r.below b h.r.lt, h.o.below b h.o.lt, h.t.below b h.t.lt, h.x, h.bel.trans (b.mono (by have := h.r.lt; omega))⟩
theorem RxMem.far {G X : Nat} {key : List Nat} {n N i : Nat} {w wr : World} {v : Value} (h : RxMem G X key n w wr) (hN : X < N) : RxMem G X key n w (wr.setCell ⟨N, i, none⟩ v) := by
 have := h.x
 exact ⟨h.k.far (by simp; omega) _, h.r.far (by simp; omega) _, h.o.far (by simp; omega) _, h.t.far (by simp; omega) _, h.x, h.bel.setCell (by simp; omega) _⟩
theorem RxMem.drew_ {G X : Nat} {key : List Nat} {n : Nat} {w wr : World} (h : RxMem G X key n w wr) : RxMem G X key n w wr.drew := ⟨h.k.drew, h.r.drew, h.o.drew, h.t.drew, h.x, below_drewN h.bel 1⟩
theorem RxMem.put {G X : Nat} {key : List Nat} {n v : Nat} {w wr : World} (h : RxMem G X key n w wr) (hv : Ci.exF key n = v) : RxMem G X key (n + 1) w (wr.setCell ⟨G + 1 + 1, n, none⟩ (.int .u8 (v : Int))) := by
 have := h.x
 refine ⟨h.k.far (by simp <;> omega) _, h.r.far (by simp <;> omega) _, ?_, h.t.far (by simp; omega) _, h.x, h.bel.setCell (by simp; omega) _⟩
 rw [← Ci.upd_set, hv]
 exact h.o.setNum n v
theorem table_out {w : World} {X : Nat} (h : Blk w X 139 (va .u8 subs)) (x : Nat) (hx : x < 256) : w.cell? ⟨X, x, none⟩ = some (.int .u8 ((Gf.sub x : Nat) : Int)) := by
 have e := h.num (i := x) (by rw [subs_len]; exact hx)
 have g : subs.getD x 0 = Gf.sub x := by simp [subs, List.getD_eq_getElem?_getD, hx]
 rw [g] at e
 exact e
theorem set4 {l : List Nat} (h : l.length = 4) {a b c d : Nat} : ((((va .u8 l).setIfInBounds 0 (.int .u8 (a : Int))).setIfInBounds 1 (.int .u8 (b : Int))).setIfInBounds 2 (.int .u8 (c : Int))).setIfInBounds 3 (.int .u8 (d : Int)) = va .u8 [a, b, c, d] := by
 rcases l with _ | ⟨x, _ | ⟨y, _ | ⟨z, _ | ⟨u, _ | ⟨v, l⟩⟩⟩⟩⟩ <;> simp at h
 rfl
theorem zeroTab (w : World) : (zeroValue 139).run Tryd.prog w = .ok (.agg (va .u8 z256)) w := by kernel_rfl

set_option maxRecDepth 8000 in
set_option maxHeartbeats 2000000 in
theorem rexpand_any (key : List Nat) (hkl : key.length = 16) (hk : Ci.Byt key) (w : World) :
    Calls Tryd.prog 88 #[.agg (va .u8 key)] w fun e w' => e = .returned (.agg (va .u8 (Ci.exL key))) ∧ Below w.heap.size w w' := by
  have hzv := zeroWords
  have hzt := zeroTab
  have hz4 := zero4
  go_enter Tryd.func88, Tryd.ntmps88
  go_wp2_with fail
  refine (table_any _).mono ?_
  obtain ⟨S, hS⟩ : ∃ S, subs = S := ⟨_, rfl⟩
  have hSl : S.length = 256 := by rw [← hS]; exact subs_len
  have hvs : (va .u8 S).size = 256 := by rw [va_size, hSl]
  rw [hS]
  rintro e w1 ⟨rfl, b1⟩
  have hk1 : Blk w1 w.heap.size 22 (va .u8 key) := Blk.below (((Blk.new _ _ _).alloc _).alloc _) b1 (by simp <;> omega)
  have hr1 : Blk w1 (w.heap.size + 1) 137 (va .u8 z176) := Blk.below ((Blk.newAt (by simp)).alloc _) b1 (by simp <;> omega)
  have ho1 : Blk w1 (w.heap.size + 1 + 1) 137 (va .u8 z176) := Blk.below (Blk.newAt (by simp)) b1 (by simp <;> omega)
  have hx1 := b1.size
  simp only [World.size_alloc] at hx1
  have hb1 : Below w.heap.size w w1 := (((((Below.refl _ _).alloc (Nat.le_refl _) _).alloc (by simp) _).alloc (by simp <;> omega) _)).trans (b1.mono (by simp <;> omega))
  clear b1
  have hst := run_storeNew (P := Tryd.prog) w1 139 (va .u8 z256) .u8 S (by rw [va_size, hSl, z256_len])
  have hmem : RxMem w.heap.size w1.heap.size key (4 * 0) w (w1.alloc (.cells (va .u8 S) 139)) := by
    rw [← hS]
    refine ⟨hk1.alloc _, hr1.alloc _, ?_, Blk.new _ _ _, hx1, hb1.alloc hb1.size _⟩
    rw [Ci.upd_zero]
    exact ho1.alloc _
  have hmm := Lib.hid hmem
  have hxh := Lib.hid hx1
  clear hk1 hr1 ho1 hb1 hmem hx1 hS
  go_wp2
  clear hzv hzt
  generalize hX : w1.heap.size = X at *
  generalize w1.alloc (.cells (va .u8 S) 139) = w2 at *
  clear hSl hvs hst
  go_loopw [5, 6] (fun f s wr => ∃ i : Nat, i ≤ 44 ∧ s = .int .i64 (i : Int) ∧ f = .int .u8 ((Gf.pw 2 ((i - 1) / 4) : Nat) : Int) ∧ RxMem w.heap.size X key (4 * i) w wr) (fun _ s _ => 44 - (intOf s).toNat)
  case atStart => exact ⟨0, by omega, rfl, rfl, hmm.out⟩
  case round =>
    clear hmm
    obtain ⟨i, hi44, rfl, rfl, hmem⟩ := hrel
    by_cases hli : i < 44
    · have hliI : (i : Int) < 44 := by omega
      by_cases hi4 : i < 4
      · have hi4I : (i : Int) < 4 := by omega
        have hmm := Lib.hid hmem
        clear hmem
        go_wp2
        go_loopw [7] (fun s wr => ∃ k : Nat, k ≤ 4 ∧ s = .int .i64 (k : Int) ∧ RxMem w.heap.size X key (4 * i + k) w wr) (fun s _ => 4 - (intOf s).toNat)
        case atStart => exact ⟨0, by omega, rfl, hmm.out⟩
        case round =>
          clear hmm
          obtain ⟨k, hk4, rfl, hmem⟩ := hrel
          by_cases hlk : k < 4
          · have hlkI : (k : Int) < 4 := by omega
            obtain ⟨n, hn⟩ : ∃ n, 4 * i + k = n := ⟨_, rfl⟩
            rw [hn] at hmem
            have hnI : 4 * (i : Int) + (k : Int) = (n : Int) := by omega
            have hn16 : (n : Int) < 16 := by omega
            have w4 : IntKind.i64.wrap (4 * (i : Int)) = 4 * (i : Int) := IntWalk.i64_in _ (by omega)
            have w5 : IntKind.i64.wrap (n : Int) = (n : Int) := IntWalk.i64_in _ (by omega)
            have hc1 := hmem.k.num (i := n) (by omega)
            have e2 : n = i * 4 + k := by omega
            have hc0 := hmem.o.num (i := n) (by rw [Ci.upd_len, z176_len]; omega)
            have hf0 := hmem.o.frozen n
            have hv := Ci.word_key (key := key) i k hi4 hlk
            rw [hn] at hv
            generalize key.getD n 0 = x0 at *
            generalize (Ci.upd (Ci.exF key) z176 n).getD n 0 = y0 at *
            have hput := Lib.hid (hmem.drew_.put hv)
            rw [e2] at hc0 hf0 hput
            have hnh := Lib.hid e2
            clear hmem hv e2 hn
            go_wp2
            refine wp_region_still_tail 10 (by kernel_rfl) (by kernel_rfl) ?_
            simp only [List.take_succ_cons, List.take_zero, List.drop_succ_cons, List.drop_zero]
            change wpStill _ _ wr.drew _ _ _
            iterate 10 still_step
            refine wpStill_nil ?_
            change wpList _ _ _ _ _ wr.drew
            go_wp2
            go_roundw
            case rel => exact ⟨k + 1, by omega, by go_num, by rw [show 4 * i + (k + 1) = i * 4 + k + 1 from by omega]; exact hput.out⟩
            case measure => simp [intOf]; omega
          · obtain rfl : k = 4 := by omega
            have hmm := Lib.hid hmem
            clear hmem
            go_wp2
            go_roundw
            case rel => exact ⟨i + 1, by omega, by go_num, by rw [show (i + 1 - 1) / 4 = (i - 1) / 4 from by omega], by rw [show 4 * (i + 1) = 4 * i + 4 from by omega]; exact hmm.out⟩
            case measure => simp [intOf]; omega
      · have hi4I : ¬ (i : Int) < 4 := by omega
        obtain ⟨p, hp⟩ : ∃ p, i - 1 = p := ⟨_, rfl⟩
        have hpI : (i : Int) - 1 = (p : Int) := by omega
        have hpw : IntKind.i64.wrap (p : Int) = (p : Int) := IntWalk.i64_in _ (by omega)
        have hp44 : (p : Int) < 44 := by omega
        have hrl := hmem.o.part (p * 4) 4
        rw [← hp, Ci.pvL_part key z176 (4 * i) i (by omega) (Nat.le_refl _) (by rw [z176_len]; omega), hp] at hrl
        have hlx : (Ci.pvL key i).length = 4 := rfl
        have hb := Ci.pv_lt hk i
        have hg0 : (Ci.pvL key i).getD 0 0 = Ci.pv key i 0 := rfl
        have hg1 : (Ci.pvL key i).getD 1 0 = Ci.pv key i 1 := rfl
        have hg2 : (Ci.pvL key i).getD 2 0 = Ci.pv key i 2 := rfl
        have hg3 : (Ci.pvL key i).getD 3 0 = Ci.pv key i 3 := rfl
        obtain ⟨lst, hle⟩ : ∃ lst, Ci.pvL key i = lst := ⟨_, rfl⟩
        rw [hle] at hrl hlx hg0 hg1 hg2 hg3
        have hnl : (nv .u8 lst).length = 4 := by rw [nv_len, hlx]
        have hst := run_storeNew (P := Tryd.prog) wr 106 (va .u8 z4) .u8 lst (by rw [va_size, hlx, z4_len])
        have hst2 : (storeCells ⟨wr.heap.size, 0, none⟩ (nv .u8 lst)).run Tryd.prog (wr.alloc (.cells (va .u8 z4) 106)) = .ok () (wr.alloc (.cells (va .u8 lst) 106)) := by
          have : (va .u8 lst).toList = nv .u8 lst := by simp [va]
          rw [← this]; exact hst
        have hY : X < wr.heap.size := hmem.t.lt
        have hrlh := Lib.hid hrl
        have hN : Blk (wr.alloc (.cells (va .u8 lst) 106)) wr.heap.size 106 (va .u8 lst) := Blk.new _ _ _
        have hM : RxMem w.heap.size X key (4 * i) w (wr.alloc (.cells (va .u8 lst) 106)) := hmem.below ((Below.refl _ _).alloc (Nat.le_refl _) _)
        have hNh := Lib.hid hN
        have hMh := Lib.hid hM
        have hleh := Lib.hid hle
        have hbh := Lib.hid hb
        clear hrl hN hM hle hmem hb hst
        go_upto_region 13 with (refine wpList_load_mid rfl 106 (.tmp 33) rfl (w.heap.size + 1 + 1) (p * 4) rfl (nv .u8 lst) _ hrlh.out Tryd.underlying106 rfl (by rw [hnl]; kernel_rfl) ?_)
        obtain ⟨m, hm⟩ : ∃ m, i % 4 = m := ⟨_, rfl⟩
        have hmI : (i : Int).tmod 4 = (m : Int) := by rw [Int.tmod_eq_emod_of_nonneg (by omega)]; omega
        have hmE : (i : Int) % 4 = (m : Int) := by omega
        go_cut [37] (fun v wx => v = .bool ((m : Int) == 0) ∧ wx = wr.alloc (.cells (va .u8 lst) 106))
        case first =>
          go_wp2
          go_meet
          exact ⟨rfl, rfl⟩
        case rest =>
          obtain ⟨hv37, rfl⟩ := hcut
          have hv37h := Lib.hid hv37
          clear hv37
          obtain ⟨Y, hYe⟩ : ∃ Y, wr.heap.size = Y := ⟨_, rfl⟩
          rw [hYe] at hNh hY hst2
          generalize wr.alloc (.cells (va .u8 lst) 106) = w3 at *
          clear hst2
          rename_i aK
          refine aK _ _ ?_
          clear aK
          rw [hYe]
          go_cut [5] (fun f wx => f = .int .u8 ((Gf.pw 2 ((i + 1 - 1) / 4) : Nat) : Int) ∧ Blk wx Y 106 (va .u8 (Ci.tWord key i)) ∧ RxMem w.heap.size X key (4 * i) w wx)
          case first =>
            by_cases hm0 : m = 0
            · have hmz : ((m : Int) == 0) = true := by rw [hm0]; rfl
              rw [hmz] at hv37h
              obtain rfl := hv37h.out
              have hmi : i % 4 = 0 := by omega
              obtain ⟨x0, hx0⟩ : ∃ x, Ci.pv key i 0 = x := ⟨_, rfl⟩
              obtain ⟨x1, hx1⟩ : ∃ x, Ci.pv key i 1 = x := ⟨_, rfl⟩
              obtain ⟨x2, hx2⟩ : ∃ x, Ci.pv key i 2 = x := ⟨_, rfl⟩
              obtain ⟨x3, hx3⟩ : ∃ x, Ci.pv key i 3 = x := ⟨_, rfl⟩
              have hxl0 := hbh.out 0
              have hxl1 := hbh.out 1
              have hxl2 := hbh.out 2
              have hxl3 := hbh.out 3
              rw [hx0] at hxl0 hg0
              rw [hx1] at hxl1 hg1
              rw [hx2] at hxl2 hg2
              rw [hx3] at hxl3 hg3
              have e0 := hNh.out.num (i := 0) (by omega)
              have e1 := hNh.out.num (i := 1) (by omega)
              have e2 := hNh.out.num (i := 2) (by omega)
              have e3 := hNh.out.num (i := 3) (by omega)
              rw [hg0] at e0
              rw [hg1] at e1
              rw [hg2] at e2
              rw [hg3] at e3
              have t0 := table_out hMh.out.t x0 hxl0
              have t1 := table_out hMh.out.t x1 hxl1
              have t2 := table_out hMh.out.t x2 hxl2
              have t3 := table_out hMh.out.t x3 hxl3
              have f0 := hNh.out.frozen 0
              have f1 := hNh.out.frozen 1
              have f2 := hNh.out.frozen 2
              have f3 := hNh.out.frozen 3
              have hxi0 : (x0 : Int) < 256 := by omega
              have hxi1 : (x1 : Int) < 256 := by omega
              have hxi2 : (x2 : Int) < 256 := by omega
              have hxi3 : (x3 : Int) < 256 := by omega
              have htw : Ci.tWord key i = [Gf.sub x1 ^^^ Gf.pw 2 (p / 4), Gf.sub x2, Gf.sub x3, Gf.sub x0] := by
                unfold Ci.tWord
                rw [if_pos hmi, hx0, hx1, hx2, hx3, hp]
              have hpl : Gf.pw 2 (p / 4) < 256 := Gf.pw_lt 2 _ (by omega)
              have hpn : Gf.gm (Gf.pw 2 (p / 4)) 2 = Gf.pw 2 ((i + 1 - 1) / 4) := by rw [← hp]; exact Ci.pow_next i hmi (by omega)
              have hxor : bits BinOp.xor IntKind.u8 ((Gf.sub x1 : Nat) : Int) ((Gf.pw 2 (p / 4) : Nat) : Int) = ((Gf.sub x1 ^^^ Gf.pw 2 (p / 4) : Nat) : Int) := u8_xor_nat _ _ (Gf.sub_lt _) hpl
              have htwh := Lib.hid htw
              generalize Gf.pw 2 ((i + 1 - 1) / 4) = q2 at *
              generalize Gf.pw 2 (p / 4) = q1 at *
              generalize hc : Gf.sub x1 ^^^ q1 = c1 at *
              generalize Gf.sub x0 = s0 at *
              generalize Gf.sub x1 = s1 at *
              generalize Gf.sub x2 = s2 at *
              generalize Gf.sub x3 = s3 at *
              have hpnh := Lib.hid hpn
              clear hpn htw hc hx0 hx1 hx2 hx3 hg0 hg1 hg2 hg3 hm hmI hmE hm0 hmz hmi hz4
              go_wp2
              refine wp_region_still_tail 19 (by kernel_rfl) (by kernel_rfl) ?_
              simp only [List.take_succ_cons, List.take_zero, List.drop_succ_cons, List.drop_zero]
              change wpStill _ _ w3.drew _ _ _
              iterate 19 still_step
              refine wpStill_nil ?_
              change wpList _ _ _ _ _ w3.drew
              go_wp2_with fail
              refine (rmul_to q1 2 q2 hpl (by omega) hpnh.out _).mono ?_
              rintro e w4 ⟨rfl, b4⟩
              go_wp2
              go_meet
              have hNs := ((((hNh.out.set_ 0 (.int .u8 (c1 : Int))).set_ 1 (.int .u8 (s2 : Int))).set_ 2 (.int .u8 (s3 : Int))).set_ 3 (.int .u8 (s0 : Int))).drew
              rw [set4 hlx] at hNs
              refine ⟨rfl, ?_, ((((hMh.out.far hY).far hY).far hY).far hY).drew_.below b4⟩
              rw [htwh.out]
              exact hNs.below b4 hNs.lt
            · have hmz : ((m : Int) == 0) = false := by rw [beq_eq_false_iff_ne]; omega
              rw [hmz] at hv37h
              obtain rfl := hv37h.out
              go_wp2
              go_meet
              refine ⟨by rw [← Ci.pow_keep i (by omega), hp], ?_, hMh.out⟩
              unfold Ci.tWord
              rw [if_neg (by omega), hleh.out]
              exact hNh.out
          case rest =>
            obtain ⟨rfl, hT, hM2⟩ := hcut
            have hTh := Lib.hid hT
            have hM2h := Lib.hid hM2
            have htl := Ci.tWord_len key i
            have htb := Ci.tWord_byt hk i
            have hnxh := Lib.hid (Ci.word_next key i)
            obtain ⟨T, hTe⟩ : ∃ T, Ci.tWord key i = T := ⟨_, rfl⟩
            rw [hTe] at hTh hnxh htl htb
            have hbyh := Lib.hid (Ci.exF_lt hk)
            obtain ⟨q, hq⟩ : ∃ q, i - 4 = q := ⟨_, rfl⟩
            have hqI : (i : Int) - 4 = (q : Int) := by omega
            have hqw : IntKind.i64.wrap (q : Int) = (q : Int) := IntWalk.i64_in _ (by omega)
            have hq44 : (q : Int) < 44 := by omega
            obtain ⟨d, hd⟩ : ∃ d, Gf.pw 2 ((i + 1 - 1) / 4) = d := ⟨_, rfl⟩
            have hdh := Lib.hid hd
            rw [hd]
            clear hT hM2 hTe hMh hNh hd hv37h hrlh hleh hbh hg0 hg1 hg2 hg3 hlx hnl hpw hp44 hm hmI hmE hpI
            go_wp2
            go_loopw [9] (fun s wx => ∃ k : Nat, k ≤ 4 ∧ s = .int .i64 (k : Int) ∧ Blk wx Y 106 (va .u8 T) ∧ RxMem w.heap.size X key (4 * i + k) w wx) (fun s _ => 4 - (intOf s).toNat)
            case atStart => exact ⟨0, by omega, rfl, hTh.out, hM2h.out⟩
            case round =>
              clear hTh hM2h
              obtain ⟨k, hk4, rfl, hT, hmem⟩ := hrel
              by_cases hlk : k < 4
              · have hlkI : (k : Int) < 4 := by omega
                obtain ⟨n, hn⟩ : ∃ n, 4 * i + k = n := ⟨_, rfl⟩
                have hnx := hnxh.out k (by omega) hlk
                rw [hn] at hmem hnx
                obtain ⟨c, hc⟩ : ∃ c, Ci.exF key n = c := ⟨_, rfl⟩
                rw [hc] at hnx
                have e2 : n = i * 4 + k := by omega
                have e3 : 4 * (i - 4) + k = q * 4 + k := by omega
                rw [e3] at hnx
                have hc1 := hT.num (i := k) (by omega)
                have hc2 := hmem.o.num (i := q * 4 + k) (by rw [Ci.upd_len, z176_len]; omega)
                have hg := Ci.upd_get (Ci.exF key) z176 n (q * 4 + k) (by rw [z176_len]; omega)
                rw [if_pos (by omega)] at hg
                rw [hg] at hc2
                have hc0 := hmem.o.num (i := n) (by rw [Ci.upd_len, z176_len]; omega)
                have hf0 := hmem.o.frozen n
                have hxor : bits BinOp.xor IntKind.u8 ((Ci.exF key (q * 4 + k) : Nat) : Int) ((T.getD k 0 : Nat) : Int) = (c : Int) := by rw [u8_xor_nat _ _ (hbyh.out _) (htb.get k), hnx]
                have hput := Lib.hid (hmem.drew_.put hc)
                have hT2 : Blk (wr.drew.setCell ⟨w.heap.size + 1 + 1, n, none⟩ (.int .u8 (c : Int))) Y 106 (va .u8 T) := hT.drew.far (by have := hmem.x; simp; omega) _
                have hT2h := Lib.hid hT2
                generalize Ci.exF key (q * 4 + k) = y1 at *
                generalize T.getD k 0 = y2 at *
                generalize (Ci.upd (Ci.exF key) z176 n).getD n 0 = y0 at *
                rw [e2] at hc0 hf0 hput hT2h
                have hnh := Lib.hid e2
                clear hmem hT hT2 hg hnx hc e2 e3 hn
                go_wp2
                refine wp_region_still_tail 14 (by kernel_rfl) (by kernel_rfl) ?_
                simp only [List.take_succ_cons, List.take_zero, List.drop_succ_cons, List.drop_zero]
                change wpStill _ _ wr.drew _ _ _
                iterate 14 still_step
                refine wpStill_nil ?_
                change wpList _ _ _ _ _ wr.drew
                go_wp2
                go_roundw
                case rel => exact ⟨k + 1, by omega, by go_num, hT2h.out, by rw [show 4 * i + (k + 1) = i * 4 + k + 1 from by omega]; exact hput.out⟩
                case measure => simp [intOf]; omega
              · obtain rfl : k = 4 := by omega
                have hmm := Lib.hid hmem
                clear hmem hT
                go_wp2
                go_roundw
                case rel => exact ⟨i + 1, by omega, by go_num, by rw [hdh.out], by rw [show 4 * (i + 1) = 4 * i + 4 from by omega]; exact hmm.out⟩
                case measure => simp [intOf]; omega
    · obtain rfl : i = 44 := by omega
      have hall : Ci.upd (Ci.exF key) z176 (4 * 44) = Ci.exL key := Ci.exL_all key z176 z176_len
      have hmo := hmem.o
      rw [hall] at hmo
      have hmr := hmem.r
      have hmb := hmem.bel
      have hLl := Ci.exL_len key
      have hsz0 : (Tryd.prog.info? 137).map (·.size) = some (va .u8 (Ci.exL key)).size := by rw [va_size, hLl]; kernel_rfl
      have hszE := Lib.hid hsz0
      have hst := run_storeBlk (P := Tryd.prog) hmr .u8 (Ci.exL key) (by rw [va_size, z176_len, hLl])
      have hvs : (va .u8 (Ci.exL key)).size = 176 := by rw [va_size, hLl]
      have hmoh := Lib.hid hmo
      have hmrh := Lib.hid hmr
      have hmbh := Lib.hid hmb
      clear hsz0 hmem hall hmo hmr hmb
      go_wp2_with (refine wpList_load_row rfl 137 (.tmp 3) rfl (w.heap.size + 1 + 1) rfl 137 (va .u8 (Ci.exL key)) (0, 0) _ hmoh.out Tryd.underlying137 rfl hszE.out ?_)
      exact bodyPost_ret (results_cell_row rfl _ _ (w.heap.size + 1) 137 (va .u8 (Ci.exL key)) (0, 0) _ rfl (hmrh.out.row _) Tryd.underlying137 rfl hszE.out) rfl ⟨rfl, below_setRow hmbh.out (by omega) _⟩
end Go.Proofs.YtcfddmplnoknlaaDoor
