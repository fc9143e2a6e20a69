/-
  Walks of Extend, Crash and Left.
-/
import Derived.Test.YtaaldjmopifcjaaNon3
namespace Go.Proofs.Ytaaldjmopifcjaa
open Go.RowKit

/-- the blocks of Extend and Crash: the argument, the result -/
structure ExMem (G : Nat) (A : Option Addr) (n c m l r : Nat) (w wr : World) : Prop where
  a : Blk wr G 25 (alV A n c m l r)
  y : Blk wr (G + 1) 25 (alV none 0 0 0 0 0)
  bel : Below G w wr

set_option maxHeartbeats 800000 in
theorem extend_bad (A : Option Addr) (n c m l r B : Nat) (cs : List Nat) (hk : chk cs m l r = 1) (w : World) (hr : Reads w B 1 A n (nv .u64 cs)) (hB : B ≤ w.heap.size) :
    Calls Try.prog 15 #[.agg (alV A n c m l r)] w fun e w' => e = .returned (.tuple #[.agg (alV none 0 0 0 0 0), .int .i64 1]) ∧ Below w.heap.size w w' := by
  have hlr := Lib.hid hr
  clear hr
  unfold alV
  go_enter Try.func15, Try.ntmps15
  go_wp2_with fail
  refine (check_any A n c m l r B cs _ ((hlr.out.alloc hB _).alloc (by simp <;> omega) _) (by simp <;> omega)).mono ?_
  rintro e w1 ⟨rfl, b1⟩
  have hm : ExMem w.heap.size A n c m l r w w1 := ⟨Blk.below ((Blk.newAt rfl).alloc _) b1 (by simp <;> omega), Blk.below (Blk.newAt (by simp)) b1 (by simp <;> omega),
    Below.trans (((Below.refl _ _).alloc (Nat.le_refl _) _).alloc (by simp) _) (b1.mono (by simp <;> omega))⟩
  clear b1
  rw [hk]
  obtain ⟨y0, y1, y2, y3⟩ := alV_cells hm.y
  obtain ⟨g0, g1, g2, g3⟩ := blk_frozen4 hm.y
  go_wp2
  exact bodyPost_ret (results_row_tmp rfl _ _ (w.heap.size + 1) 25 (alV none 0 0 0 0 0) _ _ rfl
      ((((hm.y.set_ 0 _).set_ 1 _).set_ 2 _).set_ 3 _) Try.underlying25 rfl (alV_info _ _ _ _ _ _) rfl) rfl
    ⟨rfl, (((hm.bel.setCell (by simp <;> omega) _).setCell (by simp <;> omega) _).setCell (by simp <;> omega) _).setCell (by simp <;> omega) _⟩

set_option maxHeartbeats 800000 in
theorem extend_over (A : Option Addr) (n c m l r B : Nat) (cs : List Nat) (hk : chk cs m l r = 0) (hml : m ≤ l) (hl : l < 18446744073709551616) (ho : l < m + r) (w : World) (hr : Reads w B 1 A n (nv .u64 cs)) (hB : B ≤ w.heap.size) :
    Calls Try.prog 15 #[.agg (alV A n c m l r)] w fun e w' => e = .returned (.tuple #[.agg (alV none 0 0 0 0 0), .int .i64 8]) ∧ Below w.heap.size w w' := by
  have hlr := Lib.hid hr
  clear hr
  have hwr : IntKind.u64.wrap ((l : Int) - (m : Int)) = (l : Int) - (m : Int) := by simp [IntKind.wrap, IntKind.bits, IntKind.signed]; omega
  have hlt : (l : Int) - (m : Int) < (r : Int) := by omega
  unfold alV
  go_enter Try.func15, Try.ntmps15
  go_wp2_with fail
  refine (check_any A n c m l r B cs _ ((hlr.out.alloc hB _).alloc (by simp <;> omega) _) (by simp <;> omega)).mono ?_
  rintro e w1 ⟨rfl, b1⟩
  have hm : ExMem w.heap.size A n c m l r w w1 := ⟨Blk.below ((Blk.newAt rfl).alloc _) b1 (by simp <;> omega), Blk.below (Blk.newAt (by simp)) b1 (by simp <;> omega),
    Below.trans (((Below.refl _ _).alloc (Nat.le_refl _) _).alloc (by simp) _) (b1.mono (by simp <;> omega))⟩
  clear b1
  rw [hk]
  obtain ⟨a0, a1, a2, a3⟩ := alV_cells hm.a
  obtain ⟨y0, y1, y2, y3⟩ := alV_cells hm.y
  obtain ⟨g0, g1, g2, g3⟩ := blk_frozen4 hm.y
  go_wp2
  exact bodyPost_ret (results_row_tmp rfl _ _ (w.heap.size + 1) 25 (alV none 0 0 0 0 0) _ _ rfl
      ((((hm.y.set_ 0 _).set_ 1 _).set_ 2 _).set_ 3 _) Try.underlying25 rfl (alV_info _ _ _ _ _ _) rfl) rfl
    ⟨rfl, (((hm.bel.setCell (by simp <;> omega) _).setCell (by simp <;> omega) _).setCell (by simp <;> omega) _).setCell (by simp <;> omega) _⟩

set_option maxHeartbeats 800000 in
theorem extend_ok (ad : Addr) (n c m l r B : Nat) (cs : List Nat) (hn : 1 ≤ n) (hn8 : n ≤ 8) (hk : chk cs m l r = 0) (hml : m ≤ l) (hl : l < 18446744073709551616) (ho : m + r ≤ l) (w : World) (hr : Reads w B 1 (some ad) n (nv .u64 cs)) (hB : B ≤ w.heap.size) :
    Calls Try.prog 15 #[.agg (alV (some ad) n c m l r)] w fun e w' => ∃ g, e = .returned (.tuple #[.agg (alV (some ⟨g, 0, none⟩) n n (m + r) l r), .int .i64 0]) ∧
      Blk w' g 23 (va .u64 cs) ∧ w.heap.size ≤ g ∧ Below w.heap.size w w' := by
  have hlr := Lib.hid hr
  clear hr
  have hwr : IntKind.u64.wrap ((l : Int) - (m : Int)) = (l : Int) - (m : Int) := by simp [IntKind.wrap, IntKind.bits, IntKind.signed]; omega
  have hwm : IntKind.u64.wrap ((m : Int) + (r : Int)) = ((m + r : Nat) : Int) := by simp [IntKind.wrap, IntKind.bits, IntKind.signed]; omega
  have hlt : (r : Int) ≤ (l : Int) - (m : Int) := by omega
  unfold alV
  go_enter Try.func15, Try.ntmps15
  go_wp2_with fail
  refine (check_any (some ad) n c m l r B cs _ ((hlr.out.alloc hB _).alloc (by simp <;> omega) _) (by simp <;> omega)).mono ?_
  rintro e w1 ⟨rfl, b1⟩
  have hm : ExMem w.heap.size (some ad) n c m l r w w1 := ⟨Blk.below ((Blk.newAt rfl).alloc _) b1 (by simp <;> omega), Blk.below (Blk.newAt (by simp)) b1 (by simp <;> omega),
    Below.trans (((Below.refl _ _).alloc (Nat.le_refl _) _).alloc (by simp) _) (b1.mono (by simp <;> omega))⟩
  clear b1
  rw [hk]
  have hm' := Lib.hid hm
  obtain ⟨a0, a1, a2, a3⟩ := alV_cells hm.a
  clear hm
  go_wp2_with fail
  refine (own_any ad n c m l r B cs (by omega) (by omega) _ (hlr.out.below (hm'.out.bel.mono hB)) (by have := hm'.out.bel.size; omega)).mono ?_
  rintro e w2 ⟨g, rfl, hg, hge, b2⟩
  have hs1 := hm'.out.bel.size
  have ha := hm'.out.a.below b2 hm'.out.a.lt
  have hy := hm'.out.y.below b2 hm'.out.y.lt
  have hyl := hm'.out.y.lt
  have hb := hm'.out.bel.trans (b2.mono hs1)
  have hgl := hg.lt
  obtain ⟨y0, y1, y2, y3⟩ := alV_cells hy
  obtain ⟨g0, g1, g2, g3⟩ := blk_frozen4 hy
  clear a0 a1 a2 a3
  obtain ⟨a0, a1, a2, a3⟩ := alV_cells ha
  have hlt2 : w.heap.size < w2.heap.size := ha.lt
  have hlt3 : w.heap.size + 1 < w2.heap.size := hy.lt
  have hhg := Lib.hid hg
  have hhy := Lib.hid hy
  have hhb := Lib.hid hb
  clear hm' hlr b2 hy hg ha hb
  unfold alV
  go_wp2
  exact bodyPost_ret (results_row_tmp rfl _ _ (w.heap.size + 1) 25 (alV (some ⟨g, 0, none⟩) n n (m + r) l r) _ _ rfl
      (((((hhy.out.set_ 0 _).set_ 1 _).set_ 2 _).set_ 3 _).alloc _) Try.underlying25 rfl (alV_info _ _ _ _ _ _) rfl) rfl
    ⟨g, rfl, ((((hhg.out.far (by simp; omega) _).far (by simp; omega) _).far (by simp; omega) _).far (by simp; omega) _).alloc _, by omega,
      ((((hhb.out.setCell (by simp <;> omega) _).setCell (by simp <;> omega) _).setCell (by simp <;> omega) _).setCell (by simp <;> omega) _).alloc (by simp <;> omega) _⟩

theorem zero_u64 (w : World) : (zeroValue 23).run Try.prog w = .ok (.int .u64 0) w := by kernel_rfl
theorem run_clear_u64 {w : World} {g : Nat} {t : TypeId} {cur : List Nat} (h : Blk w g t (va .u64 cur)) (n c : Nat) (hn : cur.length = n) (hn1 : 1 ≤ n) (ty : TypeId) :
    (Builtin.clear_ #[22] ty #[.slice (some ⟨g, 0, none⟩) n c]).run Try.prog w = .ok (.tuple #[]) (w.setRow g (va .u64 (List.replicate n 0))) := by
  have hst := run_storeBlk (P := Try.prog) h .u64 (List.replicate n 0) (by rw [va_size]; simpa using hn)
  have hz : (Builtin.zeroCells (Value.cells (.int .u64 0)) n).toList = (va .u64 (List.replicate n 0)).toList := by
    rw [va_rep]
    congr 1
    apply Array.ext
    · simp [Builtin.zeroCells, Value.cells]
    · intro i h1 h2
      simp [Builtin.zeroCells, Value.cells, Nat.mod_one]
  cases n with
  | zero => omega
  | succ n => simp [Builtin.clear_, run_underlying Try.underlying22, zero_u64, hz, hst]

/-- k numbers m, and zeros behind them -/
def fill (n m k : Nat) : List Nat := List.replicate k m ++ List.replicate (n - k) 0
theorem fill_zero (n m : Nat) : fill n m 0 = List.replicate n 0 := by simp [fill]
theorem fill_all (n m : Nat) : fill n m n = List.replicate n m := by simp [fill]
theorem fill_len (n m k : Nat) (hk : k ≤ n) : (fill n m k).length = n := by simp [fill]; omega
theorem fill_get (n m k : Nat) (hk : k < n) : (fill n m k).getD k 0 = 0 := by
  unfold fill
  rw [List.getD_eq_getElem?_getD, List.getElem?_append_right (by simp)]
  simp [List.getElem?_replicate]
  split <;> rfl
theorem fill_set (n m k : Nat) (hk : k < n) : (fill n m k).set k m = fill n m (k + 1) := by
  unfold fill
  rw [List.set_append_right _ _ (by simp)]
  obtain ⟨j, rfl⟩ : ∃ j, n = k + 1 + j := ⟨n - (k + 1), by omega⟩
  rw [show k + 1 + j - k = j + 1 from by omega, show k + 1 + j - (k + 1) = j from by omega, List.replicate_succ, List.replicate_succ']
  simp

set_option maxHeartbeats 800000 in
theorem crash_bad (A : Option Addr) (n c m l r B : Nat) (cs : List Nat) (hk : chk cs m l r = 1) (w : World) (hr : Reads w B 1 A n (nv .u64 cs)) (hB : B ≤ w.heap.size) :
    Calls Try.prog 16 #[.agg (alV A n c m l r)] w fun e w' => e = .returned (.tuple #[.agg (alV none 0 0 0 0 0), .int .i64 1]) ∧ Below w.heap.size w w' := by
  have hlr := Lib.hid hr
  clear hr
  unfold alV
  go_enter Try.func16, Try.ntmps16
  go_wp2_with fail
  refine (check_any A n c m l r B cs _ ((hlr.out.alloc hB _).alloc (by simp <;> omega) _) (by simp <;> omega)).mono ?_
  rintro e w1 ⟨rfl, b1⟩
  have hm : ExMem w.heap.size A n c m l r w w1 := ⟨Blk.below ((Blk.newAt rfl).alloc _) b1 (by simp <;> omega), Blk.below (Blk.newAt (by simp)) b1 (by simp <;> omega),
    Below.trans (((Below.refl _ _).alloc (Nat.le_refl _) _).alloc (by simp) _) (b1.mono (by simp <;> omega))⟩
  clear b1
  rw [hk]
  obtain ⟨y0, y1, y2, y3⟩ := alV_cells hm.y
  obtain ⟨g0, g1, g2, g3⟩ := blk_frozen4 hm.y
  go_wp2
  exact bodyPost_ret (results_row_tmp rfl _ _ (w.heap.size + 1) 25 (alV none 0 0 0 0 0) _ _ rfl
      ((((hm.y.set_ 0 _).set_ 1 _).set_ 2 _).set_ 3 _) Try.underlying25 rfl (alV_info _ _ _ _ _ _) rfl) rfl
    ⟨rfl, (((hm.bel.setCell (by simp <;> omega) _).setCell (by simp <;> omega) _).setCell (by simp <;> omega) _).setCell (by simp <;> omega) _⟩

/-- the blocks of Crash in its loop -/
structure CrMem (G H q : Nat) (ad : Addr) (n c m l r : Nat) (cur : List Nat) (w wr : World) : Prop where
  a : Blk wr G 25 (alV (some ad) n c m l r)
  y : Blk wr (G + 1) 25 (alV none 0 0 0 0 0)
  b : Blk wr H 25 (alV (some ⟨q, 0, none⟩) n n m l r)
  x : Blk wr q 23 (va .u64 cur)
  ng : G ≤ q
  nb : G + 1 < H
  nx : q ≠ G ∧ q ≠ G + 1 ∧ q ≠ H
  bel : Below G w wr

set_option maxHeartbeats 800000 in
theorem crash_ok (ad : Addr) (n c m l r B : Nat) (cs : List Nat) (hn : 1 ≤ n) (hn8 : n ≤ 8) (hk : chk cs m l r = 0) (hm64 : m < 18446744073709551616) (w : World) (hr : Reads w B 1 (some ad) n (nv .u64 cs)) (hB : B ≤ w.heap.size) :
    Calls Try.prog 16 #[.agg (alV (some ad) n c m l r)] w fun e w' => ∃ g, e = .returned (.tuple #[.agg (alV (some ⟨g, 0, none⟩) n n m l r), .int .i64 0]) ∧
      Blk w' g 23 (va .u64 (List.replicate n m)) ∧ w.heap.size ≤ g ∧ Below w.heap.size w w' := by
  have hlr := Lib.hid hr
  clear hr
  have hwm : IntKind.u64.wrap (0 + (m : Int)) = (m : Int) := by simp [IntKind.wrap, IntKind.bits, IntKind.signed]; omega
  have hwm2 : IntKind.u64.wrap (m : Int) = (m : Int) := by simp [IntKind.wrap, IntKind.bits, IntKind.signed]; omega
  unfold alV
  go_enter Try.func16, Try.ntmps16
  go_wp2_with fail
  refine (check_any (some ad) n c m l r B cs _ ((hlr.out.alloc hB _).alloc (by simp <;> omega) _) (by simp <;> omega)).mono ?_
  rintro e w1 ⟨rfl, b1⟩
  have hm : ExMem w.heap.size (some ad) n c m l r w w1 := ⟨Blk.below ((Blk.newAt rfl).alloc _) b1 (by simp <;> omega), Blk.below (Blk.newAt (by simp)) b1 (by simp <;> omega),
    Below.trans (((Below.refl _ _).alloc (Nat.le_refl _) _).alloc (by simp) _) (b1.mono (by simp <;> omega))⟩
  clear b1
  rw [hk]
  have hm' := Lib.hid hm
  obtain ⟨a0, a1, a2, a3⟩ := alV_cells hm.a
  clear hm
  go_wp2_with fail
  refine (own_any ad n c m l r B cs (by omega) (by omega) _ (hlr.out.below (hm'.out.bel.mono hB)) (by have := hm'.out.bel.size; omega)).mono ?_
  rintro e w2 ⟨g, rfl, hg, hge, b2⟩
  have hs1 := hm'.out.bel.size
  have hyl1 := hm'.out.y.lt
  have ha := hm'.out.a.below b2 hm'.out.a.lt
  have hy := hm'.out.y.below b2 hm'.out.y.lt
  have hb := hm'.out.bel.trans (b2.mono hs1)
  have hgl := hg.lt
  have hlt3 : w.heap.size + 1 < w2.heap.size := hy.lt
  have hcsl : cs.length = n := hlr.out.len
  have hhg := Lib.hid hg
  have hhy := Lib.hid hy
  have hha := Lib.hid ha
  have hhb := Lib.hid hb
  clear hm' hlr b2 hy hg ha hb a0 a1 a2 a3
  unfold alV
  go_wp2
  rw [run_clear_u64 (hhg.out.alloc _) n n hcsl hn]
  have hmem : CrMem w.heap.size w2.heap.size g ad n c m l r (fill n m 0) w ((w2.alloc (.cells #[.slice (some ⟨g, 0, none⟩) n n, .int .u64 (m : Int), .int .u64 (l : Int), .int .u64 (r : Int)] 25)).setRow g (va .u64 (List.replicate n 0))) := by
    rw [fill_zero]
    exact ⟨(hha.out.alloc _).rowFar (by omega) _, (hhy.out.alloc _).rowFar (by omega) _, Blk.rowFar (Blk.newAt rfl) (by omega) _, (hhg.out.alloc _).row _, by omega, by omega, by omega, below_setRow (hhb.out.alloc (by omega) _) (by omega) _⟩
  generalize (w2.alloc (.cells #[.slice (some ⟨g, 0, none⟩) n n, .int .u64 (m : Int), .int .u64 (l : Int), .int .u64 (r : Int)] 25)).setRow g (va .u64 (List.replicate n 0)) = w3 at *
  generalize w2.heap.size = H at *
  have hmh := Lib.hid hmem
  obtain ⟨b0, b1, b2, b3⟩ := alV_cells hmem.b
  clear hmem hhg hhy hha hhb
  go_wp2
  go_loopw [20] (fun s wr => ∃ k : Nat, k ≤ n ∧ s = .int .i64 (k : Int) ∧ CrMem w.heap.size H g ad n c m l r (fill n m k) w wr) (fun s _ => n - (intOf s).toNat)
  case atStart => exact ⟨0, by omega, rfl, hmh.out⟩
  case round =>
    obtain ⟨k, hkn, rfl, hmem⟩ := hrel
    clear b0 b1 b2 b3 hmh
    have hmh := Lib.hid hmem
    obtain ⟨a0, a1, a2, a3⟩ := alV_cells hmem.a
    obtain ⟨b0, b1, b2, b3⟩ := alV_cells hmem.b
    by_cases hlt : k < n
    · have hlt' : (k : Int) < (n : Int) := by omega
      have hcx := hmem.x.num (i := k) (by rw [fill_len _ _ _ hkn]; exact hlt)
      have hfx := hmem.x.frozen k
      rw [fill_get _ _ _ hlt] at hcx
      clear hmem
      go_wp2
      go_region
      go_wp2
      go_roundw
      case rel =>
        have hx := (hmh.out.x.setNum k m).drew
        rw [fill_set _ _ _ hlt] at hx
        have hnx := hmh.out.nx
        exact ⟨k + 1, by omega, by go_num, ⟨(hmh.out.a.far (by simp; omega) _).drew, (hmh.out.y.far (by simp; omega) _).drew, (hmh.out.b.far (by simp; omega) _).drew, hx, hmh.out.ng, hmh.out.nb, hmh.out.nx, below_drewN (hmh.out.bel.setCell hmh.out.ng _) 1⟩⟩
      case measure => simp [intOf]; omega
    · obtain rfl : n = k := by omega
      obtain ⟨y0, y1, y2, y3⟩ := alV_cells hmem.y
      obtain ⟨g0, g1, g2, g3⟩ := blk_frozen4 hmem.y
      clear hmem
      go_wp2
      have hnx := hmh.out.nx
      exact bodyPost_ret (results_row_tmp rfl _ _ (w.heap.size + 1) 25 (alV (some ⟨g, 0, none⟩) n n m l r) _ _ rfl
          ((((hmh.out.y.set_ 0 _).set_ 1 _).set_ 2 _).set_ 3 _) Try.underlying25 rfl (alV_info _ _ _ _ _ _) rfl) rfl
        ⟨g, rfl, by rw [← fill_all]; exact (((hmh.out.x.far (by simp; omega) _).far (by simp; omega) _).far (by simp; omega) _).far (by simp; omega) _, by omega,
          (((hmh.out.bel.setCell (by simp <;> omega) _).setCell (by simp <;> omega) _).setCell (by simp <;> omega) _).setCell (by simp <;> omega) _⟩

set_option maxHeartbeats 800000 in
theorem left_bad (A : Option Addr) (n c m l r B : Nat) (cs : List Nat) (k : Int) (hk : chk cs m l r = 1 ∨ k < 0 ∨ (n : Int) ≤ k) (w : World) (hr : Reads w B 1 A n (nv .u64 cs)) (hB : B ≤ w.heap.size) :
    Calls Try.prog 14 #[.agg (alV A n c m l r), .int .i64 k] w fun e w' => e = .returned (.tuple #[.int .u64 0, .int .i64 1]) ∧ Below w.heap.size w w' := by
  have hlr := Lib.hid hr
  clear hr
  unfold alV
  go_enter Try.func14, Try.ntmps14
  go_wp2_with fail
  refine (icheck_bad A n c m l r B cs k hk _ (hlr.out.alloc hB _) (by simp <;> omega)).mono ?_
  rintro e w1 ⟨rfl, b1⟩
  have hb : Below w.heap.size w w1 := Below.trans ((Below.refl _ _).alloc (Nat.le_refl _) _) (b1.mono (by simp <;> omega))
  clear b1 hk
  go_wp2
  go_ret2
  exact ⟨rfl, hb⟩

set_option maxHeartbeats 800000 in
theorem left_ok (A : Option Addr) (n c m l r B v : Nat) (cs : List Nat) (k : Nat) (hk : k < n) (hc : chk cs m l r = 0) (hv : cs.getD k 0 = v) (hvm : v ≤ m) (hm64 : m < 18446744073709551616) (w : World) (hr : Reads w B 1 A n (nv .u64 cs)) (hB : B ≤ w.heap.size) :
    Calls Try.prog 14 #[.agg (alV A n c m l r), .int .i64 (k : Int)] w fun e w' => e = .returned (.tuple #[.int .u64 ((m - v : Nat) : Int), .int .i64 0]) ∧ Below w.heap.size w w' := by
  have hlr := Lib.hid hr
  obtain ⟨ad, rfl, hb0, hcell⟩ := hr.num hk
  have hlt' : (k : Int) < (n : Int) := by omega
  have hwv : IntKind.u64.wrap ((m : Int) - (v : Int)) = ((m - v : Nat) : Int) := by simp [IntKind.wrap, IntKind.bits, IntKind.signed]; omega
  rw [hv] at hcell
  have hcl := Lib.hid hcell
  clear hr hcell hv
  unfold alV
  go_enter Try.func14, Try.ntmps14
  go_wp2_with fail
  refine (icheck_ok (some ad) n c m l r B cs k hk hc _ (hlr.out.alloc hB _) (by simp <;> omega)).mono ?_
  rintro e w1 ⟨rfl, b1⟩
  have ha : Blk w1 w.heap.size 25 (alV (some ad) n c m l r) := Blk.below (Blk.newAt rfl) b1 (by simp <;> omega)
  have hb : Below w.heap.size w w1 := Below.trans ((Below.refl _ _).alloc (Nat.le_refl _) _) (b1.mono (by simp <;> omega))
  have hce := (hb.cell (p := ad.add k) (by rw [block_of_add]; omega)).trans hcl.out
  obtain ⟨a0, a1, a2, a3⟩ := alV_cells ha
  clear b1 hlr ha hcl
  go_wp2
  go_region
  go_wp2
  go_ret2
  exact ⟨rfl, below_drewN hb 1⟩
end Go.Proofs.Ytaaldjmopifcjaa
