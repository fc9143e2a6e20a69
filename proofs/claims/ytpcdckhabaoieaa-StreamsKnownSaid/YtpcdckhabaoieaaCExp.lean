/-
  The walk of ciphers.Expand.
-/
import Derived.Test.YtpcdckhabaoieaaZD
import Derived.Deep.RegionHeld3
import Derived.Deep.LoopGhost
import Derived.Deep.DeepCutAuto
namespace Go.Proofs.Ytpcdckhabaoieaa
open Go.RowKit

theorem zeroSched (w : World) : (zeroValue 50).run Try.prog w = .ok (.agg (va .u8 z176)) w := by kernel_rfl
theorem run_storeMid {P : Program} {w : World} {g : Nat} {t : TypeId} {cur : Array Value} (h : Blk w g t cur) (o : Nat) (k : IntKind) (l : List Nat) (hf : o + l.length ≤ cur.size) :
    (storeCells ⟨g, o, none⟩ (va k l).toList).run P w = .ok () (w.setRow g (cur.toList.take o ++ (nv k l ++ cur.toList.drop (o + (nv k l).length))).toArray) := by
  have e := run_storeCells_at (P := P) g o t (va k l).toList 0 cur w h (by simp [va_size]; omega) (fun v hv => nv_one k l v (by simpa [va] using hv))
  simpa [va] using e

theorem array_at (g : Nat) (W : World) : (Instr.arrayAt 63 (.slice (some ⟨g, 12, none⟩) 4 4)).run Try.prog W = .ok (.pointer (some ⟨g, 12, none⟩)) W := by kernel_rfl
theorem keepX {w0 wa wb : World} {g : Nat} {v0 v1 v2 v3 : Value} (hg : g < w0.heap.size) (hb : Below w0.heap.size w0 wa) (h0 : wa.cell? ⟨g, 0, none⟩ = some v0) (h1 : wa.cell? ⟨g, 1, none⟩ = some v1) (h2 : wa.cell? ⟨g, 2, none⟩ = some v2) (h3 : wa.cell? ⟨g, 3, none⟩ = some v3) (b : Below wa.heap.size wa wb) :
    Below w0.heap.size w0 wb ∧ wb.cell? ⟨g, 0, none⟩ = some v0 ∧ wb.cell? ⟨g, 1, none⟩ = some v1 ∧ wb.cell? ⟨g, 2, none⟩ = some v2 ∧ wb.cell? ⟨g, 3, none⟩ = some v3 := by
  have hs := hb.size
  exact ⟨hb.trans (b.mono hs), (b.cell (p := ⟨g, 0, none⟩) (by simp; omega)).trans h0, (b.cell (p := ⟨g, 1, none⟩) (by simp; omega)).trans h1, (b.cell (p := ⟨g, 2, none⟩) (by simp; omega)).trans h2, (b.cell (p := ⟨g, 3, none⟩) (by simp; omega)).trans h3⟩

/-- what is held in region 7 -/
def Sx (a : World) (g : Nat) (v0 v1 v2 v3 : Value) (w : World) : Prop :=
  Below a.heap.size a w ∧ w.cell? ⟨g, 0, none⟩ = some v0 ∧ w.cell? ⟨g, 1, none⟩ = some v1 ∧ w.cell? ⟨g, 2, none⟩ = some v2 ∧ w.cell? ⟨g, 3, none⟩ = some v3
theorem keepA4 {a w : World} {g : Nat} {v0 v1 v2 v3 : Value} {o : Obj} (hg : g < a.heap.size) (h : Sx a g v0 v1 v2 v3 w) : Sx a g v0 v1 v2 v3 (w.alloc o) := by
  obtain ⟨hb, h0, h1, h2, h3⟩ := h
  have hs := hb.size
  exact ⟨hb.alloc hs o, (World.cell?_alloc_lt w o _ (by simp; omega)).trans h0, (World.cell?_alloc_lt w o _ (by simp; omega)).trans h1, (World.cell?_alloc_lt w o _ (by simp; omega)).trans h2, (World.cell?_alloc_lt w o _ (by simp; omega)).trans h3⟩
theorem keepA4d {a w : World} {g : Nat} {v0 v1 v2 v3 : Value} {o : Obj} (hg : g < a.heap.size) (h : Sx a g v0 v1 v2 v3 w.drew) : Sx a g v0 v1 v2 v3 (w.alloc o).drew := keepA4 (w := w.drew) (o := o) hg h
theorem keepC1 {a w : World} {g N i : Nat} {v0 v1 v2 v3 u : Value} (hg : g < a.heap.size) (hN : a.heap.size ≤ N) (h : Sx a g v0 v1 v2 v3 w) : Sx a g v0 v1 v2 v3 (w.setCell ⟨N, i, none⟩ u) := by
  obtain ⟨hb, h0, h1, h2, h3⟩ := h
  exact ⟨hb.setCell hN u, (cell_set_blk (by omega)).trans h0, (cell_set_blk (by omega)).trans h1, (cell_set_blk (by omega)).trans h2, (cell_set_blk (by omega)).trans h3⟩
theorem keepX4 {a w w' : World} {g : Nat} {v0 v1 v2 v3 : Value} (hg : g < a.heap.size) (h : Sx a g v0 v1 v2 v3 w) (b : Below w.heap.size w w') : Sx a g v0 v1 v2 v3 w' := keepX hg h.1 h.2.1 h.2.2.1 h.2.2.2.1 h.2.2.2.2 b
theorem newBelow {a X w' : World} {g : Nat} {v0 v1 v2 v3 : Value} {cs : Array Value} {t : TypeId} (h : Sx a g v0 v1 v2 v3 X) (b : Below (X.alloc (.cells cs t)).heap.size (X.alloc (.cells cs t)) w') : Blk w' X.heap.size t cs ∧ a.heap.size ≤ X.heap.size := ⟨(Blk.new X t cs).below b (Blk.new X t cs).lt, h.1.size⟩
theorem newBelowd {a X w' : World} {g : Nat} {v0 v1 v2 v3 : Value} {cs : Array Value} {t : TypeId} (h : Sx a g v0 v1 v2 v3 X.drew) (b : Below (X.alloc (.cells cs t)).drew.heap.size (X.alloc (.cells cs t)).drew w') : Blk w' X.heap.size t cs ∧ a.heap.size ≤ X.heap.size := ⟨(Blk.new X t cs).drew.below b (Blk.new X t cs).drew.lt, h.1.size⟩
theorem keepA {a w : World} {o : Obj} (h : Below a.heap.size a w) : Below a.heap.size a (w.alloc o) := h.alloc h.size o

/-- the blocks of Expand -/
structure XpMem (G : Nat) (key : List Nat) (n : Nat) (w wr : World) : Prop where
  r : Blk wr (G + 1) 50 (va .u8 (Ci.upd (Ci.exF key) z176 n))
  bel : Below G w wr

set_option maxHeartbeats 2000000 in
theorem expand_any (key : List Nat) (hkl : key.length = 16) (hk : Ci.Byt key) (w : World) :
    Calls Try.prog 18 #[.agg (va .u8 key)] w fun e w' => e = .returned (.agg (va .u8 (Ci.exL key))) ∧ Below w.heap.size w w' := by
  have hzv := zero16
  have hz4 := zero4
  have hzs := zeroSched
  have hvs : (va .u8 key).size = 16 := by rw [va_size, hkl]
  have hsz0 : (Try.prog.info? 22).map (·.size) = some (va .u8 key).size := by rw [va_size, hkl]; kernel_rfl
  have hsz := Lib.hid hsz0
  have hst : (storeCells ⟨w.heap.size + 1, 0, none⟩ (va .u8 key).toList).run Try.prog ((w.alloc (.cells (va .u8 key) 22)).alloc (.cells (va .u8 z176) 50)) = .ok () ((w.alloc (.cells (va .u8 key) 22)).alloc (.cells (va .u8 (Ci.upd (Ci.exF key) z176 16)) 50)) := by
    have hb : Blk ((w.alloc (.cells (va .u8 key) 22)).alloc (.cells (va .u8 z176) 50)) (w.alloc (.cells (va .u8 key) 22)).heap.size 50 (va .u8 z176) := Blk.new _ _ _
    have h := run_storeMid (P := Try.prog) hb 0 .u8 key (by rw [va_size, hkl, z176_len]; omega)
    have e : ((va .u8 z176).toList.take 0 ++ (nv .u8 key ++ (va .u8 z176).toList.drop (0 + (nv .u8 key).length))).toArray = va .u8 (Ci.upd (Ci.exF key) z176 16) := by
      rw [← Ci.upd_first key z176 z176_len hkl, nv_len, hkl]
      simp [va, nv_drop, nv_app]
    rw [e, World.setRow_alloc_new, show (w.alloc (.cells (va .u8 key) 22)).heap.size = w.heap.size + 1 from by simp] at h
    exact h
  have hm : XpMem w.heap.size key 16 w ((w.alloc (.cells (va .u8 key) 22)).alloc (.cells (va .u8 (Ci.upd (Ci.exF key) z176 16)) 50)) := by
    refine ⟨?_, ((Below.refl _ _).alloc (Nat.le_refl _) _).alloc (by simp) _⟩
    have := Blk.new (w.alloc (.cells (va .u8 key) 22)) 50 (va .u8 (Ci.upd (Ci.exF key) z176 16))
    simpa using this
  have hmm := Lib.hid hm
  clear hsz0 hm
  go_enter Try.func18, Try.ntmps18
  go_wp2_with (refine wpList_load_row rfl 22 (.tmp 1) rfl w.heap.size rfl 22 (va .u8 key) (0, 0) _ ?hq Try.underlying22 rfl hsz.out ?_
               case hq => exact (Blk.new _ _ _).alloc _)
  clear hst hvs hzs
  generalize (w.alloc (.cells (va .u8 key) 22)).alloc (.cells (va .u8 (Ci.upd (Ci.exF key) z176 16)) 50) = w1 at *
  go_loopw [3] (fun s wr => ∃ K : Nat, K ≤ 10 ∧ s = .int .i64 ((K : Int) + 1) ∧ XpMem w.heap.size key (16 * (K + 1)) w wr) (fun s _ => 11 - (intOf s).toNat)
  case atStart => exact ⟨0, by omega, rfl, hmm.out⟩
  case round =>
    clear hmm
    obtain ⟨K, hK, rfl, hmem⟩ := hrel
    by_cases hlt : K < 10
    · have hltI : (K : Int) + 1 ≤ 10 := by omega
      have hKI : (K : Int) < 11 := by omega
      have hrow := hmem.r.part (K * 16) 16
      rw [Ci.upd_row key z176 z176_len hkl K _ (Nat.le_refl _) (by omega)] at hrow
      have hbl := Ci.rowE_len hkl K
      have hbb := Ci.rowE_byt hk K
      generalize hbe : Ci.rowE key K = b at *
      have hnl : (nv .u8 b).length = 16 := by rw [nv_len, hbl]
      have hst := run_storeNew (P := Try.prog) wr 22 (va .u8 z16) .u8 b (by rw [va_size, hbl, z16_len])
      have hst2 : (storeCells ⟨wr.heap.size, 0, none⟩ (nv .u8 b)).run Try.prog (wr.alloc (.cells (va .u8 z16) 22)) = .ok () (wr.alloc (.cells (va .u8 b) 22)) := by
        have : (va .u8 b).toList = nv .u8 b := by simp [va]
        rw [← this]; exact hst
      have hmm := Lib.hid hmem
      have hrh := Lib.hid hrow
      clear hmem hrow
      have hsl := array_at
      obtain ⟨lst, hle⟩ : ∃ lst, (b.drop 12).take 4 = lst := ⟨_, rfl⟩
      have hll : lst.length = 4 := by rw [← hle]; simp; omega
      have hrl := (Blk.new wr 22 (va .u8 b)).part 12 4
      rw [hle] at hrl
      have hg : ∀ j, j < 4 → lst.getD j 0 = b.getD (12 + j) 0 := fun j hj => by
        rw [← hle]
        simp [hj]
      have hrlh := Lib.hid hrl
      have hghh := Lib.hid hg
      have hnl4 : (nv .u8 lst).length = 4 := by rw [nv_len, hll]
      have hst4 : (storeCells ⟨wr.heap.size + 1, 0, none⟩ (nv .u8 lst)).run Try.prog ((wr.alloc (.cells (va .u8 b) 22)).alloc (.cells (va .u8 z4) 63)) = .ok () ((wr.alloc (.cells (va .u8 b) 22)).alloc (.cells (va .u8 lst) 63)) := by
        have h := run_storeNew (P := Try.prog) (wr.alloc (.cells (va .u8 b) 22)) 63 (va .u8 z4) .u8 lst (by rw [va_size, hll, z4_len])
        have : (va .u8 lst).toList = nv .u8 lst := by simp [va]
        rw [this, show (wr.alloc (.cells (va .u8 b) 22)).heap.size = wr.heap.size + 1 from by simp] at h
        exact h
      have hbL : Blk ((wr.alloc (.cells (va .u8 b) 22)).alloc (.cells (va .u8 lst) 63)) (wr.heap.size + 1) 63 (va .u8 lst) := by
        have := Blk.new (wr.alloc (.cells (va .u8 b) 22)) 63 (va .u8 lst)
        simpa using this
      have hbX : Blk ((wr.alloc (.cells (va .u8 b) 22)).alloc (.cells (va .u8 lst) 63)) wr.heap.size 22 (va .u8 b) := (Blk.new _ _ _).alloc _
      have hbW : XpMem w.heap.size key (16 * (K + 1)) w ((wr.alloc (.cells (va .u8 b) 22)).alloc (.cells (va .u8 lst) 63)) := ⟨(hmm.out.r.alloc _).alloc _, (hmm.out.bel.alloc hmm.out.bel.size _).alloc (by have := hmm.out.bel.size; simp; omega) _⟩
      have hbLh := Lib.hid hbL
      have hbXh := Lib.hid hbX
      have hbWh := Lib.hid hbW
      have hbeh := Lib.hid hbe
      clear hrl hle hg hbL hbX hbW hbe
      go_wp2_with (first
        | (refine wpList_load_mid rfl 22 (.tmp 16) rfl (w.heap.size + 1) (K * 16) rfl (nv .u8 b) _ hrh.out Try.underlying22 rfl (by rw [hnl]; kernel_rfl) ?_)
        | (refine wpList_load_mid rfl 63 (.tmp 19) rfl wr.heap.size 12 rfl (nv .u8 lst) _ hrlh.out Try.underlying63 rfl (by rw [hnl4]; kernel_rfl) ?_))
      have hwrs : wr.heap.size + 1 < ((wr.alloc (.cells (va .u8 b) 22)).alloc (.cells (va .u8 lst) 63)).heap.size := hbLh.out.lt
      generalize (wr.alloc (.cells (va .u8 b) 22)).alloc (.cells (va .u8 lst) 63) = w2 at *
      clear hst hst2 hst4 hsl hz4 hzv
      have e0 := hbLh.out.num (i := 0) (by omega)
      have e1 := hbLh.out.num (i := 1) (by omega)
      have e2 := hbLh.out.num (i := 2) (by omega)
      have e3 := hbLh.out.num (i := 3) (by omega)
      rw [hghh.out 0 (by omega)] at e0
      rw [hghh.out 1 (by omega)] at e1
      rw [hghh.out 2 (by omega)] at e2
      rw [hghh.out 3 (by omega)] at e3
      have hx0 := hbb.get (12 + 0)
      have hx1 := hbb.get (12 + 1)
      have hx2 := hbb.get (12 + 2)
      have hx3 := hbb.get (12 + 3)
      have hwz := Ci.wd_zero b K
      obtain ⟨x0, hy0⟩ : ∃ x, b.getD (12 + 0) 0 = x := ⟨_, rfl⟩
      obtain ⟨x1, hy1⟩ : ∃ x, b.getD (12 + 1) 0 = x := ⟨_, rfl⟩
      obtain ⟨x2, hy2⟩ : ∃ x, b.getD (12 + 2) 0 = x := ⟨_, rfl⟩
      obtain ⟨x3, hy3⟩ : ∃ x, b.getD (12 + 3) 0 = x := ⟨_, rfl⟩
      rw [hy0] at e0 hx0
      rw [hy1] at e1 hx1
      rw [hy2] at e2 hx2
      rw [hy3] at e3 hx3
      rw [show b.getD 13 0 = x1 from hy1, show b.getD 14 0 = x2 from hy2, show b.getD 15 0 = x3 from hy3, show b.getD 12 0 = x0 from hy0] at hwz
      obtain ⟨p2, hp2⟩ : ∃ p, Gf.pw 2 K = p := ⟨_, rfl⟩
      have hp2l : p2 < 256 := by rw [← hp2]; exact Gf.pw_lt 2 K (by omega)
      rw [hp2] at hwz
      have hpz := Lib.hid ((Gf.powZ_nat 2 K (by omega)).trans hp2)
      have hxor : bits BinOp.xor IntKind.u8 ((Gf.sub x1 : Nat) : Int) (p2 : Int) = ((Gf.sub x1 ^^^ p2 : Nat) : Int) := u8_xor_nat _ _ (Gf.sub_lt _) hp2l
      have hwzh := Lib.hid hwz
      have hwsh := Lib.hid hwrs
      have hwK : IntKind.i64.wrap (K : Int) = (K : Int) := IntWalk.i64_in _ (by omega)
      have hSp := Lib.hid (show Sx w2 (wr.heap.size + 1) _ _ _ _ w2.drew from ⟨below_drewN (Below.refl _ _) 1, e0, e1, e2, e3⟩)
      clear hwz hy0 hy1 hy2 hy3 hp2 hwrs
      go_upto_region 7 with fail
      go_cut [6] (fun v wx => ∃ N, v = .pointer (some ⟨N, 0, none⟩) ∧ Blk wx N 63 (va .u8 (Ci.wd b K 0)) ∧ w2.heap.size ≤ N ∧ Below w2.heap.size w2 wx)
      case first =>
        go_region_held3 (fun w' => Below w2.heap.size w2 w' ∧ w'.cell? ⟨wr.heap.size + 1, 0, none⟩ = some (.int .u8 (x0 : Int)) ∧ w'.cell? ⟨wr.heap.size + 1, 1, none⟩ = some (.int .u8 (x1 : Int)) ∧ w'.cell? ⟨wr.heap.size + 1, 2, none⟩ = some (.int .u8 (x2 : Int)) ∧ w'.cell? ⟨wr.heap.size + 1, 3, none⟩ = some (.int .u8 (x3 : Int)))
          (first
            | exact hSp.out
            | exact keepA4 hwsh.out hSp.out
            | exact keepA4d hwsh.out hSp.out
            | exact keepC1 hwsh.out hN.out.2 (keepC1 hwsh.out hN.out.2 (keepC1 hwsh.out hN.out.2 (keepC1 hwsh.out hN.out.2 hSp.out)))
            | go_keep)
          ((first
            | (go_at_call 27; (with_reducible refine (sub_to x1 (Gf.sub x1) hx1 rfl _).mono ?_); rintro e wq ⟨rfl, bq⟩; (first | (replace hN := Lib.hid (And.intro (hN.out.1.below bq hN.out.1.lt) hN.out.2); obtain ⟨n0, n1, n2, n3⟩ := fourCells hN.out.1; obtain ⟨m0, m1, m2, m3⟩ := fourFree hN.out.1; replace hSp := Lib.hid (keepX4 hwsh.out hSp.out bq)) | (with_reducible have hN := Lib.hid (newBelow hSp.out bq); obtain ⟨n0, n1, n2, n3⟩ := fourCells hN.out.1; obtain ⟨m0, m1, m2, m3⟩ := fourFree hN.out.1; replace hSp := Lib.hid (keepX4 hwsh.out (keepA4 hwsh.out hSp.out) bq)) | (with_reducible have hN := Lib.hid (newBelowd hSp.out bq); obtain ⟨n0, n1, n2, n3⟩ := fourCells hN.out.1; obtain ⟨m0, m1, m2, m3⟩ := fourFree hN.out.1; replace hSp := Lib.hid (keepX4 hwsh.out (keepA4d hwsh.out hSp.out) bq)) | (replace hSp := Lib.hid (keepX4 hwsh.out hSp.out bq))))
            | (go_at_call 27; (with_reducible refine (sub_to x2 (Gf.sub x2) hx2 rfl _).mono ?_); rintro e wq ⟨rfl, bq⟩; (first | (replace hN := Lib.hid (And.intro (hN.out.1.below bq hN.out.1.lt) hN.out.2); obtain ⟨n0, n1, n2, n3⟩ := fourCells hN.out.1; obtain ⟨m0, m1, m2, m3⟩ := fourFree hN.out.1; replace hSp := Lib.hid (keepX4 hwsh.out hSp.out bq)) | (with_reducible have hN := Lib.hid (newBelow hSp.out bq); obtain ⟨n0, n1, n2, n3⟩ := fourCells hN.out.1; obtain ⟨m0, m1, m2, m3⟩ := fourFree hN.out.1; replace hSp := Lib.hid (keepX4 hwsh.out (keepA4 hwsh.out hSp.out) bq)) | (with_reducible have hN := Lib.hid (newBelowd hSp.out bq); obtain ⟨n0, n1, n2, n3⟩ := fourCells hN.out.1; obtain ⟨m0, m1, m2, m3⟩ := fourFree hN.out.1; replace hSp := Lib.hid (keepX4 hwsh.out (keepA4d hwsh.out hSp.out) bq)) | (replace hSp := Lib.hid (keepX4 hwsh.out hSp.out bq))))
            | (go_at_call 27; (with_reducible refine (sub_to x3 (Gf.sub x3) hx3 rfl _).mono ?_); rintro e wq ⟨rfl, bq⟩; (first | (replace hN := Lib.hid (And.intro (hN.out.1.below bq hN.out.1.lt) hN.out.2); obtain ⟨n0, n1, n2, n3⟩ := fourCells hN.out.1; obtain ⟨m0, m1, m2, m3⟩ := fourFree hN.out.1; replace hSp := Lib.hid (keepX4 hwsh.out hSp.out bq)) | (with_reducible have hN := Lib.hid (newBelow hSp.out bq); obtain ⟨n0, n1, n2, n3⟩ := fourCells hN.out.1; obtain ⟨m0, m1, m2, m3⟩ := fourFree hN.out.1; replace hSp := Lib.hid (keepX4 hwsh.out (keepA4 hwsh.out hSp.out) bq)) | (with_reducible have hN := Lib.hid (newBelowd hSp.out bq); obtain ⟨n0, n1, n2, n3⟩ := fourCells hN.out.1; obtain ⟨m0, m1, m2, m3⟩ := fourFree hN.out.1; replace hSp := Lib.hid (keepX4 hwsh.out (keepA4d hwsh.out hSp.out) bq)) | (replace hSp := Lib.hid (keepX4 hwsh.out hSp.out bq))))
            | (go_at_call 27; (with_reducible refine (sub_to x0 (Gf.sub x0) hx0 rfl _).mono ?_); rintro e wq ⟨rfl, bq⟩; (first | (replace hN := Lib.hid (And.intro (hN.out.1.below bq hN.out.1.lt) hN.out.2); obtain ⟨n0, n1, n2, n3⟩ := fourCells hN.out.1; obtain ⟨m0, m1, m2, m3⟩ := fourFree hN.out.1; replace hSp := Lib.hid (keepX4 hwsh.out hSp.out bq)) | (with_reducible have hN := Lib.hid (newBelow hSp.out bq); obtain ⟨n0, n1, n2, n3⟩ := fourCells hN.out.1; obtain ⟨m0, m1, m2, m3⟩ := fourFree hN.out.1; replace hSp := Lib.hid (keepX4 hwsh.out (keepA4 hwsh.out hSp.out) bq)) | (with_reducible have hN := Lib.hid (newBelowd hSp.out bq); obtain ⟨n0, n1, n2, n3⟩ := fourCells hN.out.1; obtain ⟨m0, m1, m2, m3⟩ := fourFree hN.out.1; replace hSp := Lib.hid (keepX4 hwsh.out (keepA4d hwsh.out hSp.out) bq)) | (replace hSp := Lib.hid (keepX4 hwsh.out hSp.out bq))))
            | (go_at_call 28; (refine (power_to 2 (K : Int) p2 (by omega) hpz.out _).mono ?_); rintro e wq ⟨rfl, bq⟩; (first | (replace hN := Lib.hid (And.intro (hN.out.1.below bq hN.out.1.lt) hN.out.2); obtain ⟨n0, n1, n2, n3⟩ := fourCells hN.out.1; obtain ⟨m0, m1, m2, m3⟩ := fourFree hN.out.1; replace hSp := Lib.hid (keepX4 hwsh.out hSp.out bq)) | (with_reducible have hN := Lib.hid (newBelow hSp.out bq); obtain ⟨n0, n1, n2, n3⟩ := fourCells hN.out.1; obtain ⟨m0, m1, m2, m3⟩ := fourFree hN.out.1; replace hSp := Lib.hid (keepX4 hwsh.out (keepA4 hwsh.out hSp.out) bq)) | (with_reducible have hN := Lib.hid (newBelowd hSp.out bq); obtain ⟨n0, n1, n2, n3⟩ := fourCells hN.out.1; obtain ⟨m0, m1, m2, m3⟩ := fourFree hN.out.1; replace hSp := Lib.hid (keepX4 hwsh.out (keepA4d hwsh.out hSp.out) bq)) | (replace hSp := Lib.hid (keepX4 hwsh.out hSp.out bq))))))
        all_goals
          go_wp2_with fail
          go_meet
        all_goals first
          | exact ⟨_, rfl, by rw [hwzh.out]; exact Blk.new _ _ _, hSp.out.1.size, hSp.out.1.alloc hSp.out.1.size _⟩
          | exact ⟨_, rfl, by rw [hwzh.out]; exact (Blk.new _ _ _).drew, hSp.out.1.size, below_drewN (hSp.out.1.alloc hSp.out.1.size _) 1⟩
          | exact ⟨_, rfl, by rw [hwzh.out]; exact (((hN.out.1.set_ 0 _).set_ 1 _).set_ 2 _).set_ 3 _, hN.out.2, (((hSp.out.1.setCell hN.out.2 _).setCell hN.out.2 _).setCell hN.out.2 _).setCell hN.out.2 _⟩
      case rest =>
        obtain ⟨N, rfl, hbN, hN2, hbC⟩ := hcut
        have hX2 := hbXh.out.below hbC hbXh.out.lt
        have hW2 : XpMem w.heap.size key (16 * (K + 1)) w wc := ⟨hbWh.out.r.below hbC hbWh.out.r.lt, hbWh.out.bel.trans (hbC.mono hbWh.out.bel.size)⟩
        have hNX : wr.heap.size ≠ N := by have := hwsh.out; omega
        have hNR : w.heap.size + 1 ≠ N := by have := hbWh.out.r.lt; omega
        have hXR : w.heap.size + 1 < wr.heap.size := hmm.out.r.lt
        have hNG : w.heap.size ≤ N := by have := hbWh.out.bel.size; omega
        have hNh := Lib.hid hbN
        have hXh := Lib.hid hX2
        have hWh := Lib.hid hW2
        have hne1 := Lib.hid hNX
        have hne2 := Lib.hid hNR
        clear hbN hX2 hW2 hbC hSp hpz hxor e0 e1 e2 e3 hx0 hx1 hx2 hx3 hwzh hp2l hNX hNR hwK
        obtain ⟨X, hXe⟩ : ∃ X, wr.heap.size = X := ⟨_, rfl⟩
        rw [hXe] at hXh hne1
        clear hwsh
        go_wp2
        rw [hXe]
        go_loopw [38] (fun s wx => ∃ i : Nat, i ≤ 16 ∧ s = .int .i64 (i : Int) ∧ Blk wx N 63 (va .u8 (Ci.wd b K i)) ∧ Blk wx X 22 (va .u8 b) ∧ XpMem w.heap.size key (16 * (K + 1) + i) w wx) (fun s _ => 16 - (intOf s).toNat)
        case atStart => exact ⟨0, by omega, rfl, hNh.out, hXh.out, hWh.out⟩
        case round =>
          clear hNh hXh hWh
          obtain ⟨i, hi16, rfl, hN0, hX0, hM0⟩ := hrel
          by_cases hli : i < 16
          · have hliI : (i : Int) < 16 := by omega
            obtain ⟨m, hm⟩ : ∃ m, i % 4 = m := ⟨_, rfl⟩
            have hm4 : m < 4 := by omega
            have hmI : (i : Int).tmod 4 = (m : Int) := by rw [Int.tmod_eq_emod_of_nonneg (by omega)]; omega
            have hmE : (i : Int) % 4 = (m : Int) := by omega
            have hm4I : (m : Int) < 4 := by omega
            obtain ⟨hs1, hs2⟩ := Ci.wd_step b K i hli
            have hnx := Ci.exF_next key K i hli
            rw [hbeh.out] at hnx
            rw [hm] at hs1 hs2 hnx
            obtain ⟨c, hc⟩ : ∃ c, Ci.col b K m (i / 4) = c := ⟨_, rfl⟩
            rw [hc] at hs1 hs2 hnx
            have hc1 := hN0.num (i := m) (by rw [Ci.wd_len]; exact hm4)
            have hf1 := hN0.frozen m
            have hc2 := hX0.num (i := i) (by omega)
            have hu := (Ci.wd_byt hbb K i).get m
            have hy := hbb.get i
            have hxor : bits BinOp.xor IntKind.u8 (((Ci.wd b K i).getD m 0 : Nat) : Int) ((b.getD i 0 : Nat) : Int) = (c : Int) := by rw [u8_xor_nat _ _ hu hy, hs2]
            have hN3 : Blk (wr.drew.setCell ⟨N, m, none⟩ (.int .u8 (c : Int))) N 63 (va .u8 (Ci.wd b K (i + 1))) := by
              have := hN0.drew.setNum m c
              rw [hs1] at this
              exact this
            have hX3 : Blk (wr.drew.setCell ⟨N, m, none⟩ (.int .u8 (c : Int))) X 22 (va .u8 b) := hX0.drew.far hne1.out _
            have hM3 : XpMem w.heap.size key (16 * (K + 1) + i) w (wr.drew.setCell ⟨N, m, none⟩ (.int .u8 (c : Int))) := ⟨hM0.r.drew.far hne2.out _, (below_drewN hM0.bel 1).setCell hNG _⟩
            have hg3 : (Ci.wd b K (i + 1)).getD m 0 = c := by rw [← hs1]; exact getD_set_eq (by rw [Ci.wd_len]; exact hm4)
            have hN3h := Lib.hid hN3
            have hX3h := Lib.hid hX3
            have hM3h := Lib.hid hM3
            have hg3h := Lib.hid hg3
            have hnxh := Lib.hid hnx
            generalize (Ci.wd b K i).getD m 0 = u0 at *
            generalize b.getD i 0 = y0 at *
            clear hN0 hX0 hM0 hN3 hX3 hM3 hs1 hs2 hnx hg3 hc hm
            go_wp2
            refine wp_region_still_tail 9 (by kernel_rfl) (by kernel_rfl) ?_
            simp only [List.take_succ_cons, List.take_zero, List.drop_succ_cons, List.drop_zero]
            change wpStill _ _ wr.drew _ _ _
            iterate 9 still_step
            refine wpStill_nil ?_
            change wpList _ _ _ _ _ wr.drew
            go_wp2
            have hgz := hN3h.out.num (i := m) (by rw [Ci.wd_len]; exact hm4)
            rw [hg3h.out] at hgz
            have hK1 : (0 : Int) ≤ (K : Int) + 1 := by omega
            have hK2 : (K : Int) + 1 < 11 := by omega
            have hi176 : 16 * (K + 1) + i < 176 := by omega
            have hRf := hM3h.out.r.frozen ((K + 1) * 16 + i)
            have hRl : (va .u8 (Ci.upd (Ci.exF key) z176 (16 * (K + 1) + i))).size = 176 := by rw [va_size, Ci.upd_len, z176_len]
            have hRc := hM3h.out.r.num (i := (K + 1) * 16 + i) (by rw [Ci.upd_len, z176_len]; omega)
            generalize (Ci.upd (Ci.exF key) z176 (16 * (K + 1) + i)).getD ((K + 1) * 16 + i) 0 = r0 at hRc
            refine wp_region_still_tail 8 (by kernel_rfl) (by kernel_rfl) ?_
            simp only [List.take_succ_cons, List.take_zero, List.drop_succ_cons, List.drop_zero]
            change wpStill _ _ (wr.drew.setCell ⟨N, m, none⟩ (.int .u8 (c : Int))).drew _ _ _
            generalize hw3 : wr.drew.setCell ⟨N, m, none⟩ (.int .u8 (c : Int)) = w3 at *
            clear hc1 hf1 hc2
            iterate 8 still_step
            refine wpStill_nil ?_
            change wpList _ _ _ _ _ (wr.drew.setCell ⟨N, m, none⟩ (.int .u8 (c : Int))).drew
            rw [hw3]
            clear hw3
            go_wp2
            go_roundw
            case rel =>
              refine ⟨i + 1, by omega, by go_num, hN3h.out.drew.far (by have := hne2.out; simp; omega) _, hX3h.out.drew.far (by simp; omega) _, ⟨?_, (below_drewN hM3h.out.bel 1).setCell (by simp <;> omega) _⟩⟩
              have e5 := hM3h.out.r
              have e6 := hnxh.out
              rw [show 16 * (K + 1) + (i + 1) = (16 * (K + 1) + i) + 1 from rfl, ← Ci.upd_set]
              rw [show 16 * (K + 1) + i = (K + 1) * 16 + i from by omega] at e5 e6 ⊢
              rw [e6]
              exact e5.drew.setNum ((K + 1) * 16 + i) c
            case measure => simp [intOf]; omega
          · obtain rfl : i = 16 := by omega
            have hM0h := Lib.hid hM0
            clear hN0 hX0 hM0
            go_wp2
            go_roundw
            case rel => exact ⟨K + 1, by omega, by go_num, by rw [show 16 * (K + 1 + 1) = 16 * (K + 1) + 16 from by omega]; exact hM0h.out⟩
            case measure => simp [intOf]; omega
    · obtain rfl : K = 10 := by omega
      have hall : Ci.upd (Ci.exF key) z176 (16 * (10 + 1)) = Ci.exL key := Ci.exL_all key z176 z176_len
      obtain ⟨hmr, hmb⟩ := hmem
      rw [hall] at hmr
      have hLl := Ci.exL_len key
      have hsz0 : (Try.prog.info? 50).map (·.size) = some (va .u8 (Ci.exL key)).size := by rw [va_size, hLl]; kernel_rfl
      have hszE := Lib.hid hsz0
      have hst := run_storeBlk (P := Try.prog) hmr .u8 (Ci.exL key) (by simp [va_size])
      have hvs : (va .u8 (Ci.exL key)).size = 176 := by rw [va_size, hLl]
      have hmrh := Lib.hid hmr
      have hmbh := Lib.hid hmb
      clear hsz0 hmr hmb hall
      go_wp2_with (refine wpList_load_row rfl 50 (.tmp 2) rfl (w.heap.size + 1) rfl 50 (va .u8 (Ci.exL key)) (0, 0) _ hmrh.out Try.underlying50 rfl hszE.out ?_)
      exact bodyPost_ret (results_cell_row rfl _ _ (w.heap.size + 1) 50 (va .u8 (Ci.exL key)) (0, 0) _ rfl (hmrh.out.row _) Try.underlying50 rfl hszE.out) rfl ⟨rfl, below_setRow hmbh.out (by omega) _⟩
end Go.Proofs.Ytpcdckhabaoieaa
