/-
  Walks of New (a bad limit), Take, Extend, Crash and Left.
-/
import Derived.Test.YtaaldjmopifcjaaNon2
namespace Go.Proofs.Ytaaldjmopifcjaa
open Go.RowKit

set_option maxHeartbeats 800000 in
theorem new_bad (k l r : Nat) (hk : 1 ≤ k) (hk8 : k ≤ 8) (hc : chk (List.replicate k 0) 0 l r = 1) (w : World) :
    Calls Try.prog 10 #[.int .i64 (k : Int), .int .u64 (l : Int), .int .u64 (r : Int)] w fun e w' =>
      e = .returned (.tuple #[.agg (alV none 0 0 0 0 0), .int .i64 1]) ∧ Below w.heap.size w w' := by
  have hmk := make_u64 k (by omega)
  have h1 : (1 : Int) ≤ (k : Int) := by omega
  have h8 : (k : Int) ≤ 8 := by omega
  go_enter Try.func10, Try.ntmps10
  go_wp2_with fail
  refine (check_any (some ⟨w.heap.size + 1, 0, none⟩) k k 0 l r (w.heap.size + 2) (List.replicate k 0) _ (Blk.readsAll ((Blk.newAt (by simp)).alloc _) (by simp) (by simp)) (by simp)).mono ?_
  rintro e w1 ⟨rfl, b1⟩
  have hR : Blk w1 w.heap.size 25 (alV none 0 0 0 0 0) := Blk.below (((Blk.newAt rfl).alloc _).alloc _) b1 (by simp <;> omega)
  have hb : Below w.heap.size w w1 := Below.trans ((((Below.refl _ _).alloc (Nat.le_refl _) _).alloc (by simp) _).alloc (by simp <;> omega) _) (b1.mono (by simp <;> omega))
  clear b1
  rw [hc]
  obtain ⟨c0, c1, c2, c3⟩ := alV_cells hR
  obtain ⟨f0, f1, f2, f3⟩ := blk_frozen4 hR
  go_wp2
  exact bodyPost_ret (results_row_tmp rfl _ _ w.heap.size 25 (alV none 0 0 0 0 0) _ _ rfl ((((hR.set_ 0 _).set_ 1 _).set_ 2 _).set_ 3 _) Try.underlying25 rfl (alV_info _ _ _ _ _ _) rfl) rfl
    ⟨rfl, (((hb.setCell (Nat.le_refl _) _).setCell (Nat.le_refl _) _).setCell (Nat.le_refl _) _).setCell (Nat.le_refl _) _⟩

/-- a nonce as a value -/
def noV (s c : Nat) : Array Value := #[.int .u32 (s : Int), .int .u64 (c : Int)]
theorem noV_info (s c : Nat) : (Try.prog.info? 35).map (·.size) = some (noV s c).size := by
  show _ = some 2
  kernel_rfl

theorem noV_cells {w : World} {g : Nat} {t : TypeId} {a b : Nat} (h : Blk w g t (noV a b)) : w.cell? ⟨g, 0, none⟩ = some (.int .u32 (a : Int)) ∧ w.cell? ⟨g, 1, none⟩ = some (.int .u64 (b : Int)) := ⟨h.cell 0, h.cell 1⟩

/-- the blocks of Take: its argument, its results -/
structure TkMem (G : Nat) (A : Option Addr) (n c m l r : Nat) (w wr : World) : Prop where
  a : Blk wr G 25 (alV A n c m l r)
  x : Blk wr (G + 1) 35 (noV 0 0)
  y : Blk wr (G + 1 + 1) 25 (alV none 0 0 0 0 0)
  bel : Below G w wr

set_option maxHeartbeats 800000 in
theorem take_bad (A : Option Addr) (n c m l r B : Nat) (cs : List Nat) (k : Int) (hk : chk cs m l r = 1 ∨ k < 0 ∨ (n : Int) ≤ k) (w : World) (hr : Reads w B 1 A n (nv .u64 cs)) (hB : B ≤ w.heap.size) :
    Calls Try.prog 13 #[.agg (alV A n c m l r), .int .i64 k] w fun e w' => e = .returned (.tuple #[.agg (noV 0 0), .agg (alV none 0 0 0 0 0), .int .i64 1]) ∧ Below w.heap.size w w' := by
  have hlr := Lib.hid hr
  clear hr
  unfold alV
  go_enter Try.func13, Try.ntmps13
  go_wp2_with fail
  refine (icheck_bad A n c m l r B cs k hk _ (((hlr.out.alloc hB _).alloc (by simp <;> omega) _).alloc (by simp <;> omega) _) (by simp <;> omega)).mono ?_
  rintro e w1 ⟨rfl, b1⟩
  have hm : TkMem w.heap.size A n c m l r w w1 := ⟨Blk.below (((Blk.newAt rfl).alloc _).alloc _) b1 (by simp <;> omega), Blk.below ((Blk.newAt (by simp)).alloc _) b1 (by simp <;> omega), Blk.below (Blk.newAt (by simp)) b1 (by simp <;> omega),
    Below.trans ((((Below.refl _ _).alloc (Nat.le_refl _) _).alloc (by simp) _).alloc (by simp <;> omega) _) (b1.mono (by simp <;> omega))⟩
  clear b1 hk
  obtain ⟨x0, x1⟩ := noV_cells hm.x
  obtain ⟨f0, f1, _, _⟩ := blk_frozen4 hm.x
  obtain ⟨y0, y1, y2, y3⟩ := alV_cells hm.y
  obtain ⟨g0, g1, g2, g3⟩ := blk_frozen4 hm.y
  go_wp2
  exact bodyPost_ret (results_row_row_tmp rfl _ _ (w.heap.size + 1) 35 (noV 0 0) _ (w.heap.size + 1 + 1) 25 (alV none 0 0 0 0 0) _ _ rfl
      (((((((hm.x.set_ 0 _).set_ 1 _).far (by simp) _).far (by simp) _).far (by simp) _).far (by simp) _)) Try.underlying35 rfl (noV_info _ _) rfl
      ((((((hm.y.far (by simp) _).far (by simp) _).set_ 0 _).set_ 1 _).set_ 2 _).set_ 3 _) Try.underlying25 rfl (alV_info _ _ _ _ _ _) rfl) rfl
    ⟨rfl, (((((hm.bel.setCell (by simp <;> omega) _).setCell (by simp <;> omega) _).setCell (by simp <;> omega) _).setCell (by simp <;> omega) _).setCell (by simp <;> omega) _).setCell (by simp <;> omega) _⟩

set_option maxHeartbeats 800000 in
theorem take_state (A : Option Addr) (n c m l r B : Nat) (cs : List Nat) (k : Nat) (hk : k < n) (hc : chk cs m l r = 0) (hmk : cs.getD k 0 = m) (w : World) (hr : Reads w B 1 A n (nv .u64 cs)) (hB : B ≤ w.heap.size) :
    Calls Try.prog 13 #[.agg (alV A n c m l r), .int .i64 (k : Int)] w fun e w' => e = .returned (.tuple #[.agg (noV 0 0), .agg (alV none 0 0 0 0 0), .int .i64 10]) ∧ Below w.heap.size w w' := by
  have hlr := Lib.hid hr
  obtain ⟨ad, rfl, hb0, hcell⟩ := hr.num hk
  have hlt' : (k : Int) < (n : Int) := by omega
  rw [hmk] at hcell
  clear hr
  have hcl := Lib.hid hcell
  clear hcell
  unfold alV
  go_enter Try.func13, Try.ntmps13
  go_wp2_with fail
  refine (icheck_ok (some ad) n c m l r B cs k hk hc _ (((hlr.out.alloc hB _).alloc (by simp <;> omega) _).alloc (by simp <;> omega) _) (by simp <;> omega)).mono ?_
  rintro e w1 ⟨rfl, b1⟩
  have hm : TkMem w.heap.size (some ad) n c m l r w w1 := ⟨Blk.below (((Blk.newAt rfl).alloc _).alloc _) b1 (by simp <;> omega), Blk.below ((Blk.newAt (by simp)).alloc _) b1 (by simp <;> omega), Blk.below (Blk.newAt (by simp)) b1 (by simp <;> omega),
    Below.trans ((((Below.refl _ _).alloc (Nat.le_refl _) _).alloc (by simp) _).alloc (by simp <;> omega) _) (b1.mono (by simp <;> omega))⟩
  clear b1 hlr
  have hce := (hm.bel.cell (p := ad.add k) (by rw [block_of_add]; omega)).trans hcl.out
  obtain ⟨a0, a1, a2, a3⟩ := alV_cells hm.a
  obtain ⟨x0, x1⟩ := noV_cells hm.x
  obtain ⟨f0, f1, _, _⟩ := blk_frozen4 hm.x
  obtain ⟨y0, y1, y2, y3⟩ := alV_cells hm.y
  obtain ⟨g0, g1, g2, g3⟩ := blk_frozen4 hm.y
  clear hcl
  go_wp2
  exact bodyPost_ret (results_row_row_tmp rfl _ _ (w.heap.size + 1) 35 (noV 0 0) _ (w.heap.size + 1 + 1) 25 (alV none 0 0 0 0 0) _ _ rfl
      (((((((hm.x.set_ 0 _).set_ 1 _).far (by simp) _).far (by simp) _).far (by simp) _).far (by simp) _)) Try.underlying35 rfl (noV_info _ _) rfl
      ((((((hm.y.far (by simp) _).far (by simp) _).set_ 0 _).set_ 1 _).set_ 2 _).set_ 3 _) Try.underlying25 rfl (alV_info _ _ _ _ _ _) rfl) rfl
    ⟨rfl, (((((hm.bel.setCell (by simp <;> omega) _).setCell (by simp <;> omega) _).setCell (by simp <;> omega) _).setCell (by simp <;> omega) _).setCell (by simp <;> omega) _).setCell (by simp <;> omega) _⟩

set_option maxHeartbeats 800000 in
theorem take_ok (A : Option Addr) (n c m l r B v : Nat) (cs : List Nat) (k : Nat) (hk : k < n) (hn8 : n ≤ 8) (hc : chk cs m l r = 0) (hv : cs.getD k 0 = v) (hvm : v < m) (hm64 : m < 18446744073709551616) (w : World) (hr : Reads w B 1 A n (nv .u64 cs)) (hB : B ≤ w.heap.size) :
    Calls Try.prog 13 #[.agg (alV A n c m l r), .int .i64 (k : Int)] w fun e w' => ∃ g, e = .returned (.tuple #[.agg (noV k v), .agg (alV (some ⟨g, 0, none⟩) n n m l r), .int .i64 0]) ∧
      Blk w' g 23 (va .u64 (cs.set k (v + 1))) ∧ w.heap.size ≤ g ∧ Below w.heap.size w w' := by
  have hlr := Lib.hid hr
  obtain ⟨ad, rfl, hb0, hcell⟩ := hr.num hk
  have hlt' : (k : Int) < (n : Int) := by omega
  have hne : ((v : Int) == (m : Int)) = false := by rw [beq_eq_false_iff_ne]; omega
  rw [hv] at hcell
  clear hr
  have hcl := Lib.hid hcell
  have hv' := Lib.hid hv
  clear hcell hv
  unfold alV
  go_enter Try.func13, Try.ntmps13
  go_wp2_with fail
  refine (icheck_ok (some ad) n c m l r B cs k hk hc _ (((hlr.out.alloc hB _).alloc (by simp <;> omega) _).alloc (by simp <;> omega) _) (by simp <;> omega)).mono ?_
  rintro e w1 ⟨rfl, b1⟩
  have hm : TkMem w.heap.size (some ad) n c m l r w w1 := ⟨Blk.below (((Blk.newAt rfl).alloc _).alloc _) b1 (by simp <;> omega), Blk.below ((Blk.newAt (by simp)).alloc _) b1 (by simp <;> omega), Blk.below (Blk.newAt (by simp)) b1 (by simp <;> omega),
    Below.trans ((((Below.refl _ _).alloc (Nat.le_refl _) _).alloc (by simp) _).alloc (by simp <;> omega) _) (b1.mono (by simp <;> omega))⟩
  clear b1
  have hm' := Lib.hid hm
  have hce := (hm.bel.cell (p := ad.add k) (by rw [block_of_add]; omega)).trans hcl.out
  obtain ⟨a0, a1, a2, a3⟩ := alV_cells hm.a
  clear hm hcl
  go_wp2_with fail
  refine (own_any ad n c m l r B cs (by omega) (by omega) _ (hlr.out.below (hm'.out.bel.mono hB)) (by have := hm'.out.bel.size; omega)).mono ?_
  rintro e w2 ⟨g, rfl, hg, hge, b2⟩
  have hs1 := hm'.out.bel.size
  have hx := hm'.out.x.below b2 (hm'.out.x.lt)
  have hy := hm'.out.y.below b2 (hm'.out.y.lt)
  have hxl := hm'.out.x.lt
  have hyl := hm'.out.y.lt
  have hb := hm'.out.bel.trans (b2.mono hs1)
  have hgl := hg.lt
  have hck := hg.num (i := k) (by have := hlr.out.len; omega)
  have hfk := hg.frozen k
  have hwk : IntKind.u32.wrap (k : Int) = (k : Int) := by simp [IntKind.wrap, IntKind.bits, IntKind.signed]; omega
  have hwv : IntKind.u64.wrap ((v : Int) + 1) = ((v + 1 : Nat) : Int) := by simp [IntKind.wrap, IntKind.bits, IntKind.signed]; omega
  rw [hv'.out] at hck
  obtain ⟨x0, x1⟩ := noV_cells hx
  obtain ⟨f0, f1, _, _⟩ := blk_frozen4 hx
  obtain ⟨y0, y1, y2, y3⟩ := alV_cells hy
  obtain ⟨g0, g1, g2, g3⟩ := blk_frozen4 hy
  have hhx := Lib.hid hx
  have hhy := Lib.hid hy
  have hhg := Lib.hid hg
  clear a0 a1 a2 a3 hm' hlr b2 hce hx hy hg
  unfold alV
  go_wp2
  have hx3 : Blk ((w2.setCell ⟨g, k, none⟩ (.int .u64 ((v : Int) + 1))).alloc (.cells #[.slice (some ⟨g, 0, none⟩) n n, .int .u64 (m : Int), .int .u64 (l : Int), .int .u64 (r : Int)] 25)) (w.heap.size + 1) 35 (noV 0 0) := (hhx.out.far (by simp; omega) _).alloc _
  have hy3 : Blk ((w2.setCell ⟨g, k, none⟩ (.int .u64 ((v : Int) + 1))).alloc (.cells #[.slice (some ⟨g, 0, none⟩) n n, .int .u64 (m : Int), .int .u64 (l : Int), .int .u64 (r : Int)] 25)) (w.heap.size + 1 + 1) 25 (alV none 0 0 0 0 0) := (hhy.out.far (by simp; omega) _).alloc _
  have hg3 : Blk ((w2.setCell ⟨g, k, none⟩ (.int .u64 ((v : Int) + 1))).alloc (.cells #[.slice (some ⟨g, 0, none⟩) n n, .int .u64 (m : Int), .int .u64 (l : Int), .int .u64 (r : Int)] 25)) g 23 (va .u64 (cs.set k (v + 1))) := (hhg.out.setNum k (v + 1)).alloc _
  have hb3 : Below w.heap.size w ((w2.setCell ⟨g, k, none⟩ (.int .u64 ((v : Int) + 1))).alloc (.cells #[.slice (some ⟨g, 0, none⟩) n n, .int .u64 (m : Int), .int .u64 (l : Int), .int .u64 (r : Int)] 25)) := (hb.setCell (by simp; omega) _).alloc (by simp; omega) _
  have hl3 : Blk ((w2.setCell ⟨g, k, none⟩ (.int .u64 ((v : Int) + 1))).alloc (.cells #[.slice (some ⟨g, 0, none⟩) n n, .int .u64 (m : Int), .int .u64 (l : Int), .int .u64 (r : Int)] 25)) w2.heap.size 25 (alV (some ⟨g, 0, none⟩) n n m l r) := Blk.newAt (by simp)
  generalize (w2.setCell ⟨g, k, none⟩ (.int .u64 ((v : Int) + 1))).alloc (.cells #[.slice (some ⟨g, 0, none⟩) n n, .int .u64 (m : Int), .int .u64 (l : Int), .int .u64 (r : Int)] 25) = w3 at *
  clear x0 x1 f0 f1 y0 y1 y2 y3 g0 g1 g2 g3
  obtain ⟨x0, x1⟩ := noV_cells hx3
  obtain ⟨f0, f1, _, _⟩ := blk_frozen4 hx3
  obtain ⟨y0, y1, y2, y3⟩ := alV_cells hy3
  obtain ⟨g0, g1, g2, g3⟩ := blk_frozen4 hy3
  obtain ⟨a0, a1, a2, a3⟩ := alV_cells hl3
  go_region
  go_wp2
  exact bodyPost_ret (results_row_row_tmp rfl _ _ (w.heap.size + 1) 35 (noV k v) _ (w.heap.size + 1 + 1) 25 (alV (some ⟨g, 0, none⟩) n n m l r) _ _ rfl
      (((((((hx3.set_ 0 _).set_ 1 _).far (by simp) _).far (by simp) _).far (by simp) _).far (by simp) _).drew) Try.underlying35 rfl (noV_info _ _) rfl
      ((((((hy3.far (by simp) _).far (by simp) _).set_ 0 _).set_ 1 _).set_ 2 _).set_ 3 _).drew Try.underlying25 rfl (alV_info _ _ _ _ _ _) rfl) rfl
    ⟨_, rfl, ((((((hg3.far (by simp; omega) _).far (by simp; omega) _).far (by simp; omega) _).far (by simp; omega) _).far (by simp; omega) _).far (by simp; omega) _).drew, by omega,
      below_drewN ((((((hb3.setCell (by simp <;> omega) _).setCell (by simp <;> omega) _).setCell (by simp <;> omega) _).setCell (by simp <;> omega) _).setCell (by simp <;> omega) _).setCell (by simp <;> omega) _) 1⟩
end Go.Proofs.Ytaaldjmopifcjaa
