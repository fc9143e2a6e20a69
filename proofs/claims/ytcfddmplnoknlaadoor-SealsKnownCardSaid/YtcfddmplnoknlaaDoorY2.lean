/-
  Walks through package digests: rotr, schedule, Compress.
-/
import Derived.Test.YtcfddmplnoknlaaDoorY1
import Derived.BigRegion
import Derived.BigQuiet
import Derived.Deep.QuietTactic
import Derived.Deep.MidRow
import Derived.Test.YtcfddmplnoknlaaDoorCards
import Derived.Test.YtcfddmplnoknlaaDoorTie
import Derived.Deep.DeepHandedRow
import Derived.Lib.LaidTab
import Derived.Laws.BytesString
import Derived.Laws.CopyRow
import Derived.Laws.Strings
import Derived.Deep.RegionLaw
import Derived.Laws.Tables
import Derived.Laws.ResultCell
import Derived.Deep.RegionHeld3
namespace Go.Proofs.YtcfddmplnoknlaaDoor
set_option maxRecDepth 16384
open Go.RowKit Sh

set_option maxHeartbeats 400000 in
theorem rotr_any (x n : Nat) (hx : x < 4294967296) (h1 : 1 ≤ n) (hn : n ≤ 31) (w : World) :
  Calls Tryd.prog 81 #[.int .u32 (x : Int), .int .i64 (n : Int)] w fun e w' => e = .returned (.int .u32 (rotr x n : Nat)) ∧ w = w' := by
 go_enter Tryd.func81, Tryd.ntmps81
 go_wp2_with fail
 refine (rot_any x n hx h1 hn _).mono ?_
 rintro e w1 ⟨rfl, rfl⟩
 go_wp2
 go_ret
 exact ⟨rfl, rfl⟩

theorem rotr_lit (x : Nat) (n : Int) (m : Nat) (hm : n = (m : Int)) (hx : x < 4294967296) (h1 : 1 ≤ m) (hn : m ≤ 31) (w : World) :
  Calls Tryd.prog 81 #[.int .u32 (x : Int), .int .i64 n] w fun e w' => e = .returned (.int .u32 (rotr x m : Nat)) ∧ w = w' := by
 subst hm; exact rotr_any x m hx h1 hn w

theorem sg0_eq (x : Nat) (hx : x < 4294967296) : bits BinOp.xor IntKind.u32 (bits BinOp.xor IntKind.u32 (rotr x 7 : Nat) (rotr x 18 : Nat)) ((x : Int) / 8) = ((sg0 x : Nat) : Int) := by
 rw [u32_xor_nat _ _ (rotr_lt x 7 hx) (rotr_lt x 18 hx), show (x : Int) / 8 = ((x / 8 : Nat) : Int) from by omega, u32_xor_nat _ _ (xor32 (rotr_lt x 7 hx) (rotr_lt x 18 hx)) (by omega)]
 unfold sg0; rw [Nat.shiftRight_eq_div_pow]
theorem sg1_eq (x : Nat) (hx : x < 4294967296) : bits BinOp.xor IntKind.u32 (bits BinOp.xor IntKind.u32 (rotr x 17 : Nat) (rotr x 19 : Nat)) ((x : Int) / 1024) = ((sg1 x : Nat) : Int) := by
 rw [u32_xor_nat _ _ (rotr_lt x 17 hx) (rotr_lt x 19 hx), show (x : Int) / 1024 = ((x / 1024 : Nat) : Int) from by omega, u32_xor_nat _ _ (xor32 (rotr_lt x 17 hx) (rotr_lt x 19 hx)) (by omega)]
 unfold sg1; rw [Nat.shiftRight_eq_div_pow]

def z64 : List Nat := List.replicate 64 0
theorem zvW (w : World) : (zeroValue 123).run Tryd.prog w = .ok (.agg (va .u32 z64)) w := by kernel_rfl
theorem z64_len : z64.length = 64 := List.length_replicate ..

def wL (b : List Nat) : List Nat := (List.range 64).map (wAt b)
theorem wL_len (b : List Nat) : (wL b).length = 64 := by simp [wL]
theorem wL_get (b : List Nat) (t : Nat) (ht : t < 64) : (wL b).getD t 0 = wAt b t := getD_map_range _ _ _ ht
structure SchMem (G : Nat) (b l : List Nat) (t : Nat) (w wr : World) : Prop where
 bb : Blk wr G 92 (va .u8 b)
 bl : Blk wr (G + 1) 123 (va .u32 l)
 len : l.length = 64
 d : ∀ j, j < t → l.getD j 0 = wAt b j
 bel : Below G w wr
theorem SchMem.step {G : Nat} {b l : List Nat} {t : Nat} {w wr : World} (h : SchMem G b l t w wr) (ht : t < 64) (v : Nat) (hv : v = wAt b t) :
    SchMem G b (l.set t v) (t + 1) w (wr.setCell ⟨G + 1, t, none⟩ (.int .u32 (v : Int))) := by
  refine ⟨h.bb.far (p := ⟨G + 1, t, none⟩) (by simp) _, h.bl.setNum t v, by rw [List.length_set]; exact h.len, fun j hj => ?_, h.bel.setCell (by simp) _⟩
  by_cases e : t = j
  · subst e; rw [Sh.getD_set_eq (by rw [h.len]; exact ht), hv]
  · rw [Sh.getD_set_ne e]; exact h.d j (by omega)
theorem SchMem.drewN_ {G : Nat} {b l : List Nat} {t : Nat} {w wr : World} (h : SchMem G b l t w wr) (n : Nat) : SchMem G b l t w (wr.drewN n) := ⟨h.bb, h.bl, h.len, h.d, below_drewN h.bel n⟩
theorem SchMem.all {G : Nat} {b l : List Nat} {w wr : World} (h : SchMem G b l 64 w wr) : l = wL b := by
 apply ext_getD (by rw [h.len, wL_len])
 intro i hi
 rw [h.len] at hi
 rw [h.d i hi, wL_get b i hi]

set_option maxRecDepth 100000 in
set_option maxHeartbeats 800000 in
theorem schedule_any (b : List Nat) (hb : Byt b) (hl : b.length = 64) (w : World) :
    Calls Tryd.prog 80 #[.agg (va .u8 b)] w fun e w' => e = .returned (.agg (va .u32 (wL b))) ∧ Below w.heap.size w w' := by
  have hzv := zvW
  go_enter Tryd.func80, Tryd.ntmps80
  go_wp2
  have hm : SchMem w.heap.size b z64 0 w ((w.alloc (Obj.cells (va .u8 b) 92)).alloc (Obj.cells (va .u32 z64) 123)) := by
    refine ⟨(Blk.new _ _ _).alloc _, ?_, z64_len, fun j hj => by omega, ((Below.refl _ _).alloc (Nat.le_refl _) _).alloc (by simp) _⟩
    have := Blk.new (w.alloc (Obj.cells (va .u8 b) 92)) 123 (va .u32 z64)
    simpa using this
  clear hzv
  generalize hGG : w.heap.size = G at *
  go_loopw [9] (fun s wr => ∃ (k : Nat) (l : List Nat), k ≤ 16 ∧ s = .int .i64 (k : Int) ∧ SchMem G b l k w wr) (fun s _ => 16 - (intOf s).toNat)
  case atStart => exact ⟨0, z64, by omega, rfl, hm⟩
  case round =>
    obtain ⟨k, l, hk, rfl, hmem⟩ := hrel
    clear hm
    by_cases hlt : k < 16
    · have hlt' : (k : Int) < 16 := by omega
      have q1 : 0 ≤ 4 * (k : Int) := by omega
      have q2 : 4 * (k : Int) ≤ 4 * (k : Int) + 4 := by omega
      have q3 : 4 * (k : Int) + 4 ≤ 64 := by omega
      have q4 : (4 * (k : Int) + 4).toNat = 4 * k + 4 := by omega
      have q5 : (4 * (k : Int)).toNat = 4 * k := by omega
      have hrd := hmem.bb.reads (B := wr.heap.size) hmem.bb.lt (4 * k) 4 (by omega)
      have hbl := be32_lt b hb k
      have hc := hmem.bl.num (i := k) (by rw [hmem.len]; omega)
      have hf := hmem.bl.frozen k
      have hmem' := Lib.hid hmem
      have hrd' := Lib.hid hrd
      clear hmem hrd
      generalize l.getD k 0 = lk at *
      go_wp2_with fail
      refine (get32_any _ _ _ _ ((hb.drop (4 * k)).take 4) _ hrd'.out).mono ?_
      rintro e w1 ⟨rfl, rfl⟩
      go_wp2
      go_roundw
      case rel => exact ⟨k + 1, _, by omega, by go_num, hmem'.out.step (by omega) (be32 b k) (wAt_lo b k hlt).symm⟩
      case measure => simp [intOf]; omega
    · have hmem16 : SchMem G b l 16 w wr := by
        obtain rfl : k = 16 := by omega
        exact hmem
      have ek : (k : Int) = 16 := by omega
      clear hmem
      go_wp2
      clear ek hk hlt
      go_loopw [4] (fun s wr => ∃ (k : Nat) (l : List Nat), 16 ≤ k ∧ k ≤ 64 ∧ s = .int .i64 (k : Int) ∧ SchMem G b l k w wr) (fun s _ => 64 - (intOf s).toNat)
      case atStart => exact ⟨16, l, by omega, by omega, rfl, hmem16⟩
      case round =>
        clear hmem16
        obtain ⟨k, l, hk16, hk, rfl, hmem⟩ := hrel
        by_cases hlt : k < 64
        · have hlt' : (k : Int) < 64 := by omega
          have hk16' : 16 ≤ (k : Int) := by omega
          have hlen := hmem.len
          have c15 := hmem.bl.num (i := k - 15) (by omega)
          have c2 := hmem.bl.num (i := k - 2) (by omega)
          have c7 := hmem.bl.num (i := k - 7) (by omega)
          have c16 := hmem.bl.num (i := k - 16) (by omega)
          have cc := hmem.bl.num (i := k) (by omega)
          have ff := hmem.bl.frozen k
          rw [hmem.d _ (by omega)] at c15 c2 c7 c16
          have hw := Lib.hid (wAt_hi b k hk16 hlt)
          have l15 := wAt_lt b hb (k - 15)
          have l2 := wAt_lt b hb (k - 2)
          have l7 := wAt_lt b hb (k - 7)
          have l16 := wAt_lt b hb (k - 16)
          generalize wAt b (k - 15) = x15 at *
          generalize wAt b (k - 2) = x2 at *
          generalize wAt b (k - 7) = x7 at *
          generalize wAt b (k - 16) = x16 at *
          generalize l.getD k 0 = lk at *
          have i15 : ((k : Int) - 15).toNat = k - 15 := by omega
          have i2 : ((k : Int) - 2).toNat = k - 2 := by omega
          have i7 : ((k : Int) - 7).toNat = k - 7 := by omega
          have i16 : ((k : Int) - 16).toNat = k - 16 := by omega
          have w15 : IntKind.i64.wrap ((k : Int) - 15) = (k : Int) - 15 := IntWalk.i64_in _ (by omega)
          have w2 : IntKind.i64.wrap ((k : Int) - 2) = (k : Int) - 2 := IntWalk.i64_in _ (by omega)
          have w7 : IntKind.i64.wrap ((k : Int) - 7) = (k : Int) - 7 := IntWalk.i64_in _ (by omega)
          have w16 : IntKind.i64.wrap ((k : Int) - 16) = (k : Int) - 16 := IntWalk.i64_in _ (by omega)
          have n15 : 0 ≤ (k : Int) - 15 := by omega
          have n2 : 0 ≤ (k : Int) - 2 := by omega
          have n7 : 0 ≤ (k : Int) - 7 := by omega
          have n16 : 0 ≤ (k : Int) - 16 := by omega
          have u15 : (k : Int) - 15 < 64 := by omega
          have u2 : (k : Int) - 2 < 64 := by omega
          have u7 : (k : Int) - 7 < 64 := by omega
          have u16 : (k : Int) - 16 < 64 := by omega
          have e0 := sg0_eq x15 l15
          have e1 := sg1_eq x2 l2
          go_wp2
          go_quiet (fail)
          clear w15 w2 i15 i2
          go_wp2_with (first
            | (go_at_call 81; (with_reducible refine (rotr_lit x15 7 7 rfl l15 (by omega) (by omega) _).mono ?_); rintro e w1 ⟨rfl, rfl⟩)
            | (go_at_call 81; (with_reducible refine (rotr_lit x15 18 18 rfl l15 (by omega) (by omega) _).mono ?_); rintro e w1 ⟨rfl, rfl⟩)
            | (go_at_call 81; (with_reducible refine (rotr_lit x2 17 17 rfl l2 (by omega) (by omega) _).mono ?_); rintro e w1 ⟨rfl, rfl⟩)
            | (go_at_call 81; (with_reducible refine (rotr_lit x2 19 19 rfl l2 (by omega) (by omega) _).mono ?_); rintro e w1 ⟨rfl, rfl⟩))
          clear e0 e1
          go_region
          all_goals go_wp2
          all_goals go_roundw
          case rel =>
            have hval : ((sg1 x2 : Nat) + (x7 : Int) + (sg0 x15 : Nat) + (x16 : Int)) % 4294967296 = ((wAt b k : Nat) : Int) := by rw [hw.out]; omega
            refine ⟨k + 1, l.set k (wAt b k), by omega, by omega, by go_num, ?_⟩
            rw [hval]
            exact (hmem.drewN_ _).step hlt _ rfl
          case measure => simp [intOf]; omega
        · have ek : (k : Int) = 64 := by omega
          obtain rfl : k = 64 := by omega
          have hlen := hmem.len
          have hall := Lib.hid hmem.all
          have hbl := hmem.bl
          have hbel := hmem.bel
          have hst := run_storeBlk (P := Tryd.prog) hbl .u32 l (va_size _ _)
          have hsz0 : (Tryd.prog.info? 123).map (·.size) = some (va .u32 l).size := by rw [va_size, hlen]; kernel_rfl
          have hsz := Lib.hid hsz0
          clear hsz0
          have hvs : (va .u32 l).size = 64 := by rw [va_size, hlen]
          go_wp2_with (refine wpList_load_row rfl 123 (.tmp 2) rfl (G + 1) rfl 123 (va .u32 l) (0, 0) _ hbl Tryd.underlying123 rfl hsz.out ?_)
          clear hsz
          have hsz : (Tryd.prog.info? 123).map (·.size) = some (va .u32 l).size := by rw [va_size, hlen]; kernel_rfl
          exact bodyPost_ret (results_cell_row rfl _ _ (G + 1) 123 (va .u32 l) (0, 0) _ rfl (hbl.row _) Tryd.underlying123 rfl hsz) rfl ⟨by rw [hall.out], by rw [hGG]; exact below_setRow hbel (by omega) _⟩
end Go.Proofs.YtcfddmplnoknlaaDoor
namespace Go.Proofs.YtcfddmplnoknlaaDoor
set_option maxRecDepth 16384
open Go.RowKit

theorem quiet_add_left {P : Program} {f : FuncId} {args : Array Value} {w : World} {a n : Nat} {v : Value}
  (h : Calls P f args (w.drewN (a + n)) fun e w' => e = .returned v ∧ w.drewN (a + n) = w') :
  Calls P f args (w.drewN (a + n)) fun e w'' => e = .returned v ∧ ∃ m, w'' = w.drewN (a + m) :=
 h.mono fun _ _ ⟨he, hm⟩ => ⟨he, n, hm.symm⟩
theorem range_below {B : Nat} {w w' : World} {b o : Nat} {cs : List Value} (h : w.rangeAt b o cs) (hb : Below B w w') (hlt : b < B) : w'.rangeAt b o cs := fun j v hv => by
 rw [hb.cell (p := ⟨b, o + j, none⟩) hlt]; exact h j v hv
end Go.Proofs.YtcfddmplnoknlaaDoor
namespace Go.Proofs.YtcfddmplnoknlaaDoor
set_option maxRecDepth 16384
open Go.RowKit Sh

structure Glob (w : World) : Prop where
 k : w.rangeAt 1 0 (nv .u32 kL)
 h : w.rangeAt 0 0 (nv .u32 hL)
 lk : 1 < w.heap.size
 lh : 0 < w.heap.size
theorem Glob.below {w w' : World} (g : Glob w) (h : Below w.heap.size w w') : Glob w' :=
 ⟨range_below g.k h g.lk, range_below g.h h g.lh, Nat.lt_of_lt_of_le g.lk h.size, Nat.lt_of_lt_of_le g.lh h.size⟩
theorem Glob.alloc {w : World} (g : Glob w) (o : Obj) : Glob (w.alloc o) := g.below ((Below.refl _ _).alloc (Nat.le_refl _) o)
theorem u32_info : (Tryd.prog.info? 27).map (fun i => (i.zero, i.size, i.bytes)) = some (some (.int .u32 0), 1, 4) := by kernel_rfl
theorem rotr_q (x : Nat) (n : Int) (m : Nat) (hm : n = (m : Int)) (hx : x < 4294967296) (h1 : 1 ≤ m) (hn : m ≤ 31) (w : World) (a q : Nat) :
  Calls Tryd.prog 81 #[.int .u32 (x : Int), .int .i64 n] (w.drewN (a + q)) fun e w'' => e = .returned (.int .u32 (rotr x m : Nat)) ∧ ∃ j, w'' = w.drewN (a + j) :=
 quiet_add_left (rotr_lit x n m hm hx h1 hn _)
theorem not32_eq (x : Nat) (hx : x < 4294967296) : bits BinOp.xor IntKind.u32 IntKind.u32.max (x : Int) = ((4294967295 - x : Nat) : Int) := by
  rw [show IntKind.u32.max = ((4294967295 : Nat) : Int) from rfl, u32_xor_nat _ _ (by omega) hx]
  congr 1
  apply Nat.eq_of_testBit_eq
  intro i
  rw [Nat.testBit_xor, not32_testBit x i hx, show (4294967295 : Nat) = 2 ^ 32 - 1 from rfl, Nat.testBit_two_pow_sub_one]
  by_cases hi : i < 32
  · simp [hi]
  · rw [hi_false x i hx (by omega)]; simp [hi]
theorem bs1_eq (x : Nat) (hx : x < 4294967296) : bits BinOp.xor IntKind.u32 (bits BinOp.xor IntKind.u32 (rotr x 6 : Nat) (rotr x 11 : Nat)) (rotr x 25 : Nat) = ((bs1 x : Nat) : Int) := by
 rw [u32_xor_nat _ _ (rotr_lt x 6 hx) (rotr_lt x 11 hx), u32_xor_nat _ _ (xor32 (rotr_lt x 6 hx) (rotr_lt x 11 hx)) (rotr_lt x 25 hx)]; rfl
theorem bs0_eq (x : Nat) (hx : x < 4294967296) : bits BinOp.xor IntKind.u32 (bits BinOp.xor IntKind.u32 (rotr x 2 : Nat) (rotr x 13 : Nat)) (rotr x 22 : Nat) = ((bs0 x : Nat) : Int) := by
 rw [u32_xor_nat _ _ (rotr_lt x 2 hx) (rotr_lt x 13 hx), u32_xor_nat _ _ (xor32 (rotr_lt x 2 hx) (rotr_lt x 13 hx)) (rotr_lt x 22 hx)]; rfl
theorem ch_eq (e f g : Nat) (he : e < 4294967296) (hf : f < 4294967296) (hg : g < 4294967296) :
  bits BinOp.xor IntKind.u32 (bits BinOp.and IntKind.u32 (e : Int) (f : Int)) (bits BinOp.and IntKind.u32 (bits BinOp.xor IntKind.u32 IntKind.u32.max (e : Int)) (g : Int)) = ((ch e f g : Nat) : Int) := by
 rw [not32_eq e he, u32_and_nat _ _ he hf, u32_and_nat _ _ (by omega) hg, u32_xor_nat _ _ (and32 he) (and32 (by omega))]; rfl
theorem mj_eq (a b c : Nat) (ha : a < 4294967296) (hb : b < 4294967296) (hc : c < 4294967296) :
  bits BinOp.xor IntKind.u32 (bits BinOp.xor IntKind.u32 (bits BinOp.and IntKind.u32 (a : Int) (b : Int)) (bits BinOp.and IntKind.u32 (a : Int) (c : Int))) (bits BinOp.and IntKind.u32 (b : Int) (c : Int)) = ((mj a b c : Nat) : Int) := by
 rw [u32_and_nat _ _ ha hb, u32_and_nat _ _ ha hc, u32_and_nat _ _ hb hc, u32_xor_nat _ _ (and32 ha) (and32 ha), u32_xor_nat _ _ (xor32 (and32 ha) (and32 ha)) (and32 hb)]; rfl
def z8 : List Nat := List.replicate 8 0
structure CmpMem (G T : Nat) (b : List Nat) (h0 h1 h2 h3 h4 h5 h6 h7 x0 x1 x2 x3 x4 x5 x6 x7 : Nat) (w wr : World) : Prop where
 a : Blk wr G 91 #[Value.int .u32 (h0 : Nat), Value.int .u32 (h1 : Nat), Value.int .u32 (h2 : Nat), Value.int .u32 (h3 : Nat), Value.int .u32 (h4 : Nat), Value.int .u32 (h5 : Nat), Value.int .u32 (h6 : Nat), Value.int .u32 (h7 : Nat)]
 s : Blk wr T 123 (va .u32 (wL b))
 x : Blk wr (T + 1) 91 #[Value.int .u32 (x0 : Nat), Value.int .u32 (x1 : Nat), Value.int .u32 (x2 : Nat), Value.int .u32 (x3 : Nat), Value.int .u32 (x4 : Nat), Value.int .u32 (x5 : Nat), Value.int .u32 (x6 : Nat), Value.int .u32 (x7 : Nat)]
 r : Blk wr (G + 1 + 1) 91 (va .u32 z8)
 lt : G + 1 + 1 < T
 bel : Below G w wr

theorem CmpMem.drewN_ {G T : Nat} {b : List Nat} {h0 h1 h2 h3 h4 h5 h6 h7 x0 x1 x2 x3 x4 x5 x6 x7 : Nat} {w wr : World} (h : CmpMem G T b h0 h1 h2 h3 h4 h5 h6 h7 x0 x1 x2 x3 x4 x5 x6 x7 w wr) (n : Nat) : CmpMem G T b h0 h1 h2 h3 h4 h5 h6 h7 x0 x1 x2 x3 x4 x5 x6 x7 w (wr.drewN n) :=
 ⟨h.a, h.s, h.x, h.r, h.lt, below_drewN h.bel n⟩
theorem CmpMem.round {G T : Nat} {b : List Nat} {h0 h1 h2 h3 h4 h5 h6 h7 x0 x1 x2 x3 x4 x5 x6 x7 : Nat} {w wr : World} (h : CmpMem G T b h0 h1 h2 h3 h4 h5 h6 h7 x0 x1 x2 x3 x4 x5 x6 x7 w wr) (y0 y4 : Nat) :
  CmpMem G T b h0 h1 h2 h3 h4 h5 h6 h7 y0 x0 x1 x2 y4 x4 x5 x6 w ((((((((wr.setCell ⟨T + 1, 0, none⟩ (.int .u32 (y0 : Nat))).setCell ⟨T + 1, 1, none⟩ (.int .u32 (x0 : Nat))).setCell ⟨T + 1, 2, none⟩ (.int .u32 (x1 : Nat))).setCell ⟨T + 1, 3, none⟩ (.int .u32 (x2 : Nat))).setCell ⟨T + 1, 4, none⟩ (.int .u32 (y4 : Nat))).setCell ⟨T + 1, 5, none⟩ (.int .u32 (x4 : Nat))).setCell ⟨T + 1, 6, none⟩ (.int .u32 (x5 : Nat))).setCell ⟨T + 1, 7, none⟩ (.int .u32 (x6 : Nat))) := by
 have h1 : G ≠ T + 1 := by have := h.lt; omega
 have h2 : T ≠ T + 1 := by omega
 have h3 : G + 1 + 1 ≠ T + 1 := by have := h.lt; omega
 have hB : G ≤ T + 1 := by have := h.lt; omega
 have hs := ((((((((h.x.set_ 0 (.int .u32 (y0 : Nat))).set_ 1 (.int .u32 (x0 : Nat))).set_ 2 (.int .u32 (x1 : Nat))).set_ 3 (.int .u32 (x2 : Nat))).set_ 4 (.int .u32 (y4 : Nat))).set_ 5 (.int .u32 (x4 : Nat))).set_ 6 (.int .u32 (x5 : Nat))).set_ 7 (.int .u32 (x6 : Nat)))
 simp only [List.setIfInBounds_toArray, List.set_cons_zero, List.set_cons_succ] at hs
 exact ⟨((((((((h.a.far (p := ⟨T + 1, 0, none⟩) h1 _).far (p := ⟨T + 1, 1, none⟩) h1 _).far (p := ⟨T + 1, 2, none⟩) h1 _).far (p := ⟨T + 1, 3, none⟩) h1 _).far (p := ⟨T + 1, 4, none⟩) h1 _).far (p := ⟨T + 1, 5, none⟩) h1 _).far (p := ⟨T + 1, 6, none⟩) h1 _).far (p := ⟨T + 1, 7, none⟩) h1 _), ((((((((h.s.far (p := ⟨T + 1, 0, none⟩) h2 _).far (p := ⟨T + 1, 1, none⟩) h2 _).far (p := ⟨T + 1, 2, none⟩) h2 _).far (p := ⟨T + 1, 3, none⟩) h2 _).far (p := ⟨T + 1, 4, none⟩) h2 _).far (p := ⟨T + 1, 5, none⟩) h2 _).far (p := ⟨T + 1, 6, none⟩) h2 _).far (p := ⟨T + 1, 7, none⟩) h2 _), hs, ((((((((h.r.far (p := ⟨T + 1, 0, none⟩) h3 _).far (p := ⟨T + 1, 1, none⟩) h3 _).far (p := ⟨T + 1, 2, none⟩) h3 _).far (p := ⟨T + 1, 3, none⟩) h3 _).far (p := ⟨T + 1, 4, none⟩) h3 _).far (p := ⟨T + 1, 5, none⟩) h3 _).far (p := ⟨T + 1, 6, none⟩) h3 _).far (p := ⟨T + 1, 7, none⟩) h3 _), h.lt, ((((((((h.bel.setCell (p := ⟨T + 1, 0, none⟩) hB _).setCell (p := ⟨T + 1, 1, none⟩) hB _).setCell (p := ⟨T + 1, 2, none⟩) hB _).setCell (p := ⟨T + 1, 3, none⟩) hB _).setCell (p := ⟨T + 1, 4, none⟩) hB _).setCell (p := ⟨T + 1, 5, none⟩) hB _).setCell (p := ⟨T + 1, 6, none⟩) hB _).setCell (p := ⟨T + 1, 7, none⟩) hB _)⟩

structure SumMem (G T : Nat) (l x : List Nat) (w wr : World) : Prop where
 a : Blk wr G 91 (va .u32 l)
 x : Blk wr (T + 1) 91 (va .u32 x)
 r : Blk wr (G + 1 + 1) 91 (va .u32 z8)
 lt : G + 1 + 1 < T
 bel : Below G w wr

set_option maxRecDepth 100000 in
set_option maxHeartbeats 800000 in
theorem compress8 (h0 h1 h2 h3 h4 h5 h6 h7 : Nat) (b : List Nat) (hh : W32 [h0, h1, h2, h3, h4, h5, h6, h7]) (hb : Byt b) (hl : b.length = 64) (w : World) (hg : Glob w) :
    Calls Tryd.prog 69 #[.agg #[Value.int .u32 (h0 : Nat), Value.int .u32 (h1 : Nat), Value.int .u32 (h2 : Nat), Value.int .u32 (h3 : Nat), Value.int .u32 (h4 : Nat), Value.int .u32 (h5 : Nat), Value.int .u32 (h6 : Nat), Value.int .u32 (h7 : Nat)], .agg (va .u8 b)] w fun e w' => e = .returned (.agg (va .u32 (comp [h0, h1, h2, h3, h4, h5, h6, h7] b))) ∧ Below w.heap.size w w' := by
  have hzv := zvW
  go_enter Tryd.func69, Tryd.ntmps69
  have hB : Blk ((w.alloc (Obj.cells #[Value.int .u32 (h0 : Nat), Value.int .u32 (h1 : Nat), Value.int .u32 (h2 : Nat), Value.int .u32 (h3 : Nat), Value.int .u32 (h4 : Nat), Value.int .u32 (h5 : Nat), Value.int .u32 (h6 : Nat), Value.int .u32 (h7 : Nat)] 91)).alloc (Obj.cells (va .u8 b) 92)) (w.heap.size + 1) 92 (va .u8 b) := by
    have := Blk.new (w.alloc (Obj.cells #[Value.int .u32 (h0 : Nat), Value.int .u32 (h1 : Nat), Value.int .u32 (h2 : Nat), Value.int .u32 (h3 : Nat), Value.int .u32 (h4 : Nat), Value.int .u32 (h5 : Nat), Value.int .u32 (h6 : Nat), Value.int .u32 (h7 : Nat)] 91)) 92 (va .u8 b)
    simpa using this
  have hsz0 : (Tryd.prog.info? 92).map (·.size) = some (va .u8 b).size := by rw [va_size, hl]; kernel_rfl
  have hsz := Lib.hid hsz0
  have hB1 := Lib.hid hB
  clear hsz0 hB
  have hA : Blk (w.alloc (Obj.cells #[Value.int .u32 (h0 : Nat), Value.int .u32 (h1 : Nat), Value.int .u32 (h2 : Nat), Value.int .u32 (h3 : Nat), Value.int .u32 (h4 : Nat), Value.int .u32 (h5 : Nat), Value.int .u32 (h6 : Nat), Value.int .u32 (h7 : Nat)] 91)) w.heap.size 91 #[Value.int .u32 (h0 : Nat), Value.int .u32 (h1 : Nat), Value.int .u32 (h2 : Nat), Value.int .u32 (h3 : Nat), Value.int .u32 (h4 : Nat), Value.int .u32 (h5 : Nat), Value.int .u32 (h6 : Nat), Value.int .u32 (h7 : Nat)] := Blk.new _ _ _
  have hA1 := Lib.hid hA
  clear hA
  go_wp2_with (first
    | (refine wpList_load_row rfl 92 (.tmp 3) rfl (w.heap.size + 1) rfl 92 (va .u8 b) (0, 0) _ (hB1.out.alloc _) Tryd.underlying92 rfl hsz.out ?_)
    | (go_at_call 80; fail))
  refine (schedule_any b hb hl _).mono ?_
  rintro e w1 ⟨rfl, b1⟩
  have hst := run_storeNew (P := Tryd.prog) w1 123 (va .u32 z64) .u32 (wL b) (by rw [va_size, z64_len, wL_len])
  have hA2 := (((hA1.out.alloc (Obj.cells (va .u8 b) 92)).alloc (Obj.cells #[Value.int .u32 0, Value.int .u32 0, Value.int .u32 0, Value.int .u32 0, Value.int .u32 0, Value.int .u32 0, Value.int .u32 0, Value.int .u32 0] 91)).below b1 (by simp; omega)).alloc (Obj.cells (va .u32 (wL b)) 123)
  have c0 := hA2.cell 0
  have c1 := hA2.cell 1
  have c2 := hA2.cell 2
  have c3 := hA2.cell 3
  have c4 := hA2.cell 4
  have c5 := hA2.cell 5
  have c6 := hA2.cell 6
  have c7 := hA2.cell 7
  simp only [List.getElem?_toArray, List.getElem?_cons_zero, List.getElem?_cons_succ] at c0 c1 c2 c3 c4 c5 c6 c7
  have hA3 := Lib.hid hA2
  clear hA2
  have hgk : Hid (Glob ((w1.alloc (Obj.cells (va .u32 (wL b)) 123)).alloc (Obj.cells #[Value.int .u32 (h0 : Nat), Value.int .u32 (h1 : Nat), Value.int .u32 (h2 : Nat), Value.int .u32 (h3 : Nat), Value.int .u32 (h4 : Nat), Value.int .u32 (h5 : Nat), Value.int .u32 (h6 : Nat), Value.int .u32 (h7 : Nat)] 91))) :=
    Lib.hid ((((((hg.alloc _).alloc _).alloc _).below b1).alloc _).alloc _)
  have hsk0 : (Tryd.prog.info? 123).map (·.size) = some (nv .u32 kL).length := by rw [nv_len, kL_len]; kernel_rfl
  have hsk := Lib.hid hsk0
  clear hsk0
  go_wp2_with (refine wpList_load_mid rfl 123 (.global 1) rfl 1 0 rfl (nv .u32 kL) _ hgk.out.k Tryd.underlying123 rfl hsk.out ?_)
  have hm : CmpMem w.heap.size w1.heap.size b h0 h1 h2 h3 h4 h5 h6 h7 h0 h1 h2 h3 h4 h5 h6 h7 w ((w1.alloc (Obj.cells (va .u32 (wL b)) 123)).alloc (Obj.cells #[Value.int .u32 (h0 : Nat), Value.int .u32 (h1 : Nat), Value.int .u32 (h2 : Nat), Value.int .u32 (h3 : Nat), Value.int .u32 (h4 : Nat), Value.int .u32 (h5 : Nat), Value.int .u32 (h6 : Nat), Value.int .u32 (h7 : Nat)] 91)) := by
    refine ⟨hA3.out.alloc _, (Blk.new _ _ _).alloc _, ?_, ((?_ : Blk w1 (w.heap.size + 1 + 1) 91 (va .u32 z8)).alloc _).alloc _, by have := b1.size; simp at this; omega, ?_⟩
    · have := Blk.new (w1.alloc (Obj.cells (va .u32 (wL b)) 123)) 91 #[Value.int .u32 (h0 : Nat), Value.int .u32 (h1 : Nat), Value.int .u32 (h2 : Nat), Value.int .u32 (h3 : Nat), Value.int .u32 (h4 : Nat), Value.int .u32 (h5 : Nat), Value.int .u32 (h6 : Nat), Value.int .u32 (h7 : Nat)]
      simpa using this
    · have := Blk.new ((w.alloc (Obj.cells #[Value.int .u32 (h0 : Nat), Value.int .u32 (h1 : Nat), Value.int .u32 (h2 : Nat), Value.int .u32 (h3 : Nat), Value.int .u32 (h4 : Nat), Value.int .u32 (h5 : Nat), Value.int .u32 (h6 : Nat), Value.int .u32 (h7 : Nat)] 91)).alloc (Obj.cells (va .u8 b) 92)) 91 (va .u32 z8)
      have h2 := this.below b1 (by simp)
      simpa using h2
    · have h3 := b1.mono (B' := w.heap.size) (by simp; omega)
      have h4 : Below w.heap.size w w1 := ((((Below.refl _ _).alloc (Nat.le_refl _) _).alloc (by simp) _).alloc (by simp; omega) _).trans h3
      exact (h4.alloc h4.size _).alloc (by have := h4.size; simp; omega) _
  clear c0 c1 c2 c3 c4 c5 c6 c7 hA1 hA3 hB1 hgk hsk hsz hzv hst
  generalize w1.heap.size = T at *
  obtain ⟨iu, hiu, hiu0, hiu1, hiu2⟩ := info_parts u32_info
  go_loopw [18] (fun s wr => ∃ (k x0 x1 x2 x3 x4 x5 x6 x7 : Nat), k ≤ 64 ∧ s = .int .i64 (k : Int) ∧ rnds [h0, h1, h2, h3, h4, h5, h6, h7] b k = [x0, x1, x2, x3, x4, x5, x6, x7] ∧ CmpMem w.heap.size T b h0 h1 h2 h3 h4 h5 h6 h7 x0 x1 x2 x3 x4 x5 x6 x7 w wr) (fun s _ => 64 - (intOf s).toNat)
  case atStart => exact ⟨0, h0, h1, h2, h3, h4, h5, h6, h7, by omega, rfl, rfl, hm⟩
  case round =>
    clear hm b1
    obtain ⟨k, x0, x1, x2, x3, x4, x5, x6, x7, hk, rfl, hx, hmem⟩ := hrel
    have hlt := rnds_lt [h0, h1, h2, h3, h4, h5, h6, h7] b hh k
    rw [hx] at hlt
    have l0 : x0 < 4294967296 := hlt 0
    have l1 : x1 < 4294967296 := hlt 1
    have l2 : x2 < 4294967296 := hlt 2
    have l3 : x3 < 4294967296 := hlt 3
    have l4 : x4 < 4294967296 := hlt 4
    have l5 : x5 < 4294967296 := hlt 5
    have l6 : x6 < 4294967296 := hlt 6
    have l7 : x7 < 4294967296 := hlt 7
    clear hlt
    have hx' := Lib.hid hx
    clear hx
    by_cases hlt : k < 64
    · have hlt' : (k : Int) < 64 := by omega
      have hix := run_index_num (P := Tryd.prog) (kk := .i64) (l := kL) (i := k) Tryd.underlying123 Tryd.underlying27 hiu hiu1 kL_len hlt
      have hix' : ∀ u : World, (Instr.index 123 (.agg (nv .u32 kL).toArray) (.int .i64 (k : Int))).run Tryd.prog u = .ok (.int .u32 (kAt k : Nat)) u := fun u => by
        have e := hix u
        rw [show kL.getD k 0 = kAt k from getD_map_range _ _ _ hlt] at e
        exact e
      clear hix
      have c0 := hmem.x.cell 0
      have c1 := hmem.x.cell 1
      have c2 := hmem.x.cell 2
      have c3 := hmem.x.cell 3
      have c4 := hmem.x.cell 4
      have c5 := hmem.x.cell 5
      have c6 := hmem.x.cell 6
      have c7 := hmem.x.cell 7
      simp only [List.getElem?_toArray, List.getElem?_cons_zero, List.getElem?_cons_succ] at c0 c1 c2 c3 c4 c5 c6 c7
      have cw := hmem.s.num (i := k) (by rw [wL_len]; exact hlt)
      rw [wL_get b k hlt] at cw
      have lk := kAt_lt k
      have lw := wAt_lt b hb k
      generalize hkk : kAt k = kk at *
      generalize hww : wAt b k = ww at *
      have hmem' := Lib.hid hmem
      have hkk' := Lib.hid hkk
      have hww' := Lib.hid hww
      clear hmem hkk hww
      have f0 := hmem'.out.x.frozen 0
      have f1 := hmem'.out.x.frozen 1
      have f2 := hmem'.out.x.frozen 2
      have f3 := hmem'.out.x.frozen 3
      have f4 := hmem'.out.x.frozen 4
      have f5 := hmem'.out.x.frozen 5
      have f6 := hmem'.out.x.frozen 6
      have f7 := hmem'.out.x.frozen 7
      have e1 := bs1_eq x4 l4
      have e2 := ch_eq x4 x5 x6 l4 l5 l6
      have e3 := bs0_eq x0 l0
      have e4 := mj_eq x0 x1 x2 l0 l1 l2
      go_wp2
      go_quiet (fail)
      go_wp2
      go_quiet ((go_at_call 81; (first | (with_reducible exact rotr_q _ 6 6 rfl l4 (by omega) (by omega) _ _ _) | (with_reducible exact rotr_q _ 11 11 rfl l4 (by omega) (by omega) _ _ _) | (with_reducible exact rotr_q _ 25 25 rfl l4 (by omega) (by omega) _ _ _))))
      clear e1 e2
      go_wp2
      go_quiet ((go_at_call 81; (first | (with_reducible exact rotr_q _ 2 2 rfl l0 (by omega) (by omega) _ _ _) | (with_reducible exact rotr_q _ 13 13 rfl l0 (by omega) (by omega) _ _ _) | (with_reducible exact rotr_q _ 22 22 rfl l0 (by omega) (by omega) _ _ _))))
      clear e3 e4
      go_wp2
      go_roundw
      case rel =>
        rw [ch_eq x4 x5 x6 l4 l5 l6]
        have hy : rnds [h0, h1, h2, h3, h4, h5, h6, h7] b (k + 1) = [(t1 kk ww [x0, x1, x2, x3, x4, x5, x6, x7] + t2 [x0, x1, x2, x3, x4, x5, x6, x7]) % 4294967296, x0, x1, x2, (x3 + t1 kk ww [x0, x1, x2, x3, x4, x5, x6, x7]) % 4294967296, x4, x5, x6] := by
          show rnd (kAt k) (wAt b k) (rnds [h0, h1, h2, h3, h4, h5, h6, h7] b k) = _
          rw [hx'.out, hkk'.out, hww'.out]; rfl
        refine ⟨k + 1, _, _, _, _, _, _, _, _, by omega, by go_num, hy, ?_⟩
        have v0 : ((x7 : Int) + (bs1 x4 : Nat) + (ch x4 x5 x6 : Nat) + (kk : Int) + (ww : Int) + ((bs0 x0 : Nat) + (mj x0 x1 x2 : Nat))) % 4294967296 = (((t1 kk ww [x0, x1, x2, x3, x4, x5, x6, x7] + t2 [x0, x1, x2, x3, x4, x5, x6, x7]) % 4294967296 : Nat) : Int) := by
          simp only [t1, t2, List.getD_cons_zero, List.getD_cons_succ]; omega
        have v4 : ((x3 : Int) + ((x7 : Int) + (bs1 x4 : Nat) + (ch x4 x5 x6 : Nat) + (kk : Int) + (ww : Int))) % 4294967296 = (((x3 + t1 kk ww [x0, x1, x2, x3, x4, x5, x6, x7]) % 4294967296 : Nat) : Int) := by
          simp only [t1, List.getD_cons_zero, List.getD_cons_succ]; omega
        rw [v0, v4]
        exact (hmem'.out.drewN_ _).round _ _
      case measure => simp [intOf]; omega
    · have hm2 : SumMem w.heap.size T (addTo [h0, h1, h2, h3, h4, h5, h6, h7] [x0, x1, x2, x3, x4, x5, x6, x7] 0) [x0, x1, x2, x3, x4, x5, x6, x7] w wr := by
        rw [addTo_zero _ _ rfl]
        exact ⟨hmem.a, hmem.x, hmem.r, hmem.lt, hmem.bel⟩
      have hfin : comp [h0, h1, h2, h3, h4, h5, h6, h7] b = addTo [h0, h1, h2, h3, h4, h5, h6, h7] [x0, x1, x2, x3, x4, x5, x6, x7] 8 := by
        obtain rfl : k = 64 := by omega
        rw [addTo_all]; unfold comp; rw [hx'.out]
      have hfin' := Lib.hid hfin
      have ek : (k : Int) = 64 := by omega
      have hxl : [x0, x1, x2, x3, x4, x5, x6, x7].length = 8 := rfl
      have hw32 : W32 [x0, x1, x2, x3, x4, x5, x6, x7] := by have := rnds_lt [h0, h1, h2, h3, h4, h5, h6, h7] b hh k; rwa [hx'.out] at this
      clear hx' hmem hlt hk hfin l0 l1 l2 l3 l4 l5 l6 l7
      generalize [x0, x1, x2, x3, x4, x5, x6, x7] = x at *
      have hxh : [h0, h1, h2, h3, h4, h5, h6, h7].length = 8 := rfl
      generalize hHL : [h0, h1, h2, h3, h4, h5, h6, h7] = h at *
      go_wp2
      clear ek
      go_loopw [99] (fun s wr => ∃ i : Nat, i ≤ 8 ∧ s = .int .i64 (i : Int) ∧ SumMem w.heap.size T (addTo h x i) x w wr) (fun s _ => 8 - (intOf s).toNat)
      case atStart => exact ⟨0, by omega, rfl, hm2⟩
      case round =>
        obtain ⟨i, hi, rfl, hmem⟩ := hrel
        clear hm2
        by_cases hlt : i < 8
        · have hlt' : (i : Int) < 8 := by omega
          have ca := hmem.a.num (i := i) (by rw [addTo_len]; exact hlt)
          rw [addTo_get _ _ _ hlt] at ca
          have cx := hmem.x.num (i := i) (by rw [hxl]; exact hlt)
          have fa := hmem.a.frozen i
          have hst := hmem.a.setNum i ((h.getD i 0 + x.getD i 0) % 4294967296)
          rw [addTo_step _ _ _ hlt] at hst
          have hst' := Lib.hid hst
          clear hst
          generalize h.getD i 0 = p at *
          generalize x.getD i 0 = q at *
          go_wp2
          go_region
          all_goals go_wp2
          all_goals go_roundw
          case rel =>
            have hv : ((p : Int) + (q : Int)) % 4294967296 = (((p + q) % 4294967296 : Nat) : Int) := by omega
            refine ⟨i + 1, by omega, by go_num, ?_⟩
            rw [hv]
            exact ⟨hst'.out, hmem.x.far (p := ⟨w.heap.size, i, none⟩) (by have := hmem.lt; simp; omega) _, hmem.r.far (p := ⟨w.heap.size, i, none⟩) (by simp; omega) _, hmem.lt, (hmem.bel.drew).setCell (Nat.le_refl _) _⟩
          case measure => simp [intOf]; omega
        · have ei : (i : Int) = 8 := by omega
          obtain rfl : i = 8 := by omega
          have hsz0 : (Tryd.prog.info? 91).map (·.size) = some (va .u32 (addTo h x 8)).size := by rw [va_size, addTo_len]; kernel_rfl
          have hsz := Lib.hid hsz0
          have hvs : (va .u32 (addTo h x 8)).size = 8 := by rw [va_size, addTo_len]
          have hst := run_storeBlk (P := Tryd.prog) hmem.r .u32 (addTo h x 8) (by rw [va_size, addTo_len]; rfl)
          have hmem' := Lib.hid hmem
          clear hsz0 hmem
          go_wp2_with (refine wpList_load_row rfl 91 (.tmp 2) rfl w.heap.size rfl 91 (va .u32 (addTo h x 8)) (0, 0) _ hmem'.out.a Tryd.underlying91 rfl hsz.out ?_)
          exact bodyPost_ret (results_cell_row rfl _ _ (w.heap.size + 1 + 1) 91 (va .u32 (addTo h x 8)) (0, 0) _ rfl (hmem'.out.r.row _) Tryd.underlying91 rfl hsz.out) rfl ⟨by rw [hHL, hfin'.out], below_setRow hmem'.out.bel (by omega) _⟩

theorem compress_any (h b : List Nat) (hl8 : h.length = 8) (hh : W32 h) (hb : Byt b) (hl : b.length = 64) (w : World) (hg : Glob w) :
  Calls Tryd.prog 69 #[.agg (va .u32 h), .agg (va .u8 b)] w fun e w' => e = .returned (.agg (va .u32 (comp h b))) ∧ Below w.heap.size w w' := by
 match h, hl8 with
 | [h0, h1, h2, h3, h4, h5, h6, h7], _ => exact compress8 h0 h1 h2 h3 h4 h5 h6 h7 b hh hb hl w hg
end Go.Proofs.YtcfddmplnoknlaaDoor
namespace Go.Proofs.YtcfddmplnoknlaaDoor
set_option maxRecDepth 16384
open Go.ChangeShapes Go.WideShapes Go.ChangeAt Go.RowKit Sh

theorem ownC : ownKnob Tryd.prog.godebug = none := by kernel_rfl
theorem gI : Tryd.prog.globalNamed "caisson/digests.initial" = some 0 := by kernel_rfl
theorem gC : Tryd.prog.globalNamed "caisson/digests.constants" = some 1 := by kernel_rfl
theorem gIt : (Tryd.prog.globals[0]?).map (·.type) = some 91 := by kernel_rfl
theorem gCt : (Tryd.prog.globals[1]?).map (·.type) = some 123 := by kernel_rfl
def ints (l : List Nat) : List Int := l.map fun x : Nat => (x : Int)
theorem datI : (Rows.laid_caisson_digests_initial : DataW Unit) = Lib.tabData .u32 (ints hL) := by kernel_rfl
theorem datC : (Rows.laid_caisson_digests_constants : DataW Unit) = Lib.tabData .u32 (ints kL) := by kernel_rfl
theorem tab_second {P : Program} {W : World} {n1 : String} {d1 : DataW Unit} {name : String} {k : IntKind} {zs : List Int} {rest : List (String × DataW Unit)} {g : Nat} {t e : TypeId} {n : Nat}
  (hg : P.globalNamed name = some g) (hty : (P.globals[g]?).map (·.type) = some t) (ht : P.underlying t = some (.array n e)) (he : P.underlying e = some (.int k)) (hce : P.cellsOf e = 1) (hct : P.cellsOf t = n)
  (h : laidMet P ((n1, d1) :: (name, Lib.tabData k zs) :: rest) W) : Lib.TabIs P W name k zs := by
 obtain ⟨ps, ⟨_, _, _, _, _, q1, _, _, _, _, ⟨g', t', cs, fuel, p, q, hg', ht', hvar, hd, _, _⟩, _⟩, _⟩ := h
 obtain rfl := Option.some.inj (hg.symm.trans hg')
 obtain rfl := Option.some.inj (hty.symm.trans ht')
 unfold Lib.TabIs
 rw [hvar, ← Lib.cells_of_tab ht he hce hct hd]
theorem range_of {W : World} {name : String} {l : List Nat} {g : Nat} (h : Lib.TabIs Tryd.prog W name .u32 (ints l)) (hg : Tryd.prog.globalNamed name = some g) : W.rangeAt g 0 (nv .u32 l) := fun j v hv => by
  have hj : j < l.length := by
    rcases Nat.lt_or_ge j l.length with h0 | h0
    · exact h0
    · rw [List.getElem?_eq_none (by rw [nv_len]; exact h0)] at hv; cases hv
  have hc := h.cell hg j (by simpa [ints] using hj)
  rw [nv_get hj] at hv
  injection hv with hv
  subst hv
  rw [Nat.zero_add, hc]
  simp [ints, List.getD_eq_getElem?_getD, hj]
theorem glob_laid {W : World} (h : laidMet Tryd.prog [("caisson/digests.initial", Rows.laid_caisson_digests_initial), ("caisson/digests.constants", Rows.laid_caisson_digests_constants)] W) : Glob W := by
  rw [datI, datC] at h
  have hI := range_of (Lib.tabIs_of_head (e := 27) (n := 8) gI gIt (by kernel_rfl) (by kernel_rfl) (by kernel_rfl) (by kernel_rfl) h) gI
  have hC := range_of (tab_second (e := 27) (n := 64) gC gCt (by kernel_rfl) (by kernel_rfl) (by kernel_rfl) (by kernel_rfl) h) gC
  refine ⟨hC, hI, ?_, ?_⟩
  · have := hC 0 _ (nv_get (by rw [kL_len]; omega))
    exact World.block_lt_of_cell? W _ this
  · have := hI 0 _ (nv_get (by rw [hL_len]; omega))
    exact World.block_lt_of_cell? W _ this
def lay (l : List Nat) : Obj → Obj
 | .cells _ t frozen => .cells (va .u32 l) t frozen
 | o => o
noncomputable def laidWorld (os : Os) : World :=
 { World.holding Tryd.prog os ⟨#[], #[], []⟩ with heap := ((World.holding Tryd.prog os ⟨#[], #[], []⟩).heap.modify 0 (lay hL)).modify 1 (lay kL) }
end Go.Proofs.YtcfddmplnoknlaaDoor
namespace Go.Proofs.YtcfddmplnoknlaaDoor
set_option maxRecDepth 16384
open Go.RowKit

def bst (l : List Nat) : ByteArray := (l.map fun x : Nat => (x : Int)).foldl (fun r n => r.push (UInt8.ofNat n.toNat)) ByteArray.empty
theorem Blk.part {w : World} {g : Nat} {t : TypeId} {k : IntKind} {l : List Nat} (h : Blk w g t (va k l)) (o n : Nat) : ∀ j v, (nv k ((l.drop o).take n))[j]? = some v → w.cell? ⟨g, o + j, none⟩ = some v := fun j v hv => by
  rw [← nv_take, ← nv_drop, List.getElem?_take] at hv
  split at hv
  · rw [List.getElem?_drop] at hv
    rw [h.cell]; simpa [va] using hv
  · cases hv
end Go.Proofs.YtcfddmplnoknlaaDoor
namespace Go.Proofs.YtcfddmplnoknlaaDoor
set_option maxRecDepth 16384
open Go.RowKit Sh

theorem beV_lt256 (l : List Nat) (h : Byt l) : beV l < 256 ^ l.length := by
 have := beV_lt l h
 rwa [show (256 : Nat) = 2 ^ 8 from rfl, ← Nat.pow_mul]
theorem beV_beB4 (v : Nat) (hv : v < 4294967296) : beV (beB v 4) = v := by
 have e : beB v 4 = [v / 16777216 % 256, v / 65536 % 256, v / 256 % 256, v / 1 % 256] := rfl
 rw [e]
 simp only [beV, List.foldl_cons, List.foldl_nil]
 omega
theorem beV_beB8 (v : Nat) (hv : v < 18446744073709551616) : beV (beB v 8) = v := by
 have e : beB v 8 = [v / 72057594037927936 % 256, v / 281474976710656 % 256, v / 1099511627776 % 256, v / 4294967296 % 256, v / 16777216 % 256, v / 65536 % 256, v / 256 % 256, v / 1 % 256] := rfl
 rw [e]
 simp only [beV, List.foldl_cons, List.foldl_nil]
 omega
theorem beB_beV4 (l : List Nat) (hl : l.length = 4) (hb : Byt l) : beB (beV l) 4 = l := by
  match l, hl with
  | [a, b, c, d], _ =>
    have h0 := hb a (by simp); have h1 := hb b (by simp); have h2 := hb c (by simp); have h3 := hb d (by simp)
    have e : ∀ v, beB v 4 = [v / 16777216 % 256, v / 65536 % 256, v / 256 % 256, v / 1 % 256] := fun _ => rfl
    rw [e]
    simp only [beV, List.foldl_cons, List.foldl_nil]
    congr 1
    · omega
    · congr 1
      · omega
      · congr 1
        · omega
        · congr 1; omega
theorem beB_beV8 (l : List Nat) (hl : l.length = 8) (hb : Byt l) : beB (beV l) 8 = l := by
  match l, hl with
  | [a, b, c, d, a', b', c', d'], _ =>
    have h0 := hb a (by simp); have h1 := hb b (by simp); have h2 := hb c (by simp); have h3 := hb d (by simp)
    have h4 := hb a' (by simp); have h5 := hb b' (by simp); have h6 := hb c' (by simp); have h7 := hb d' (by simp)
    have e : ∀ v, beB v 8 = [v / 72057594037927936 % 256, v / 281474976710656 % 256, v / 1099511627776 % 256, v / 4294967296 % 256, v / 16777216 % 256, v / 65536 % 256, v / 256 % 256, v / 1 % 256] := fun _ => rfl
    rw [e]
    simp only [beV, List.foldl_cons, List.foldl_nil]
    have q0 : (((((((0 * 256 + a) * 256 + b) * 256 + c) * 256 + d) * 256 + a') * 256 + b') * 256 + c') * 256 + d' = a * 72057594037927936 + b * 281474976710656 + c * 1099511627776 + d * 4294967296 + a' * 16777216 + b' * 65536 + c' * 256 + d' := by omega
    rw [q0]
    congr 1
    · omega
    · congr 1
      · omega
      · congr 1
        · omega
        · congr 1
          · omega
          · congr 1
            · omega
            · congr 1
              · omega
              · congr 1
                · omega
                · congr 1; omega

def noB (s c : Nat) : List Nat := beB s 4 ++ beB c 8
theorem noB_len (s c : Nat) : (noB s c).length = 12 := by simp [noB, beB_len]
theorem noB_byt (s c : Nat) : Byt (noB s c) := fun x hx => (List.mem_append.1 hx).elim (beB_byt s 4 x) (beB_byt c 8 x)
theorem noB_take (s c : Nat) : (noB s c).take 4 = beB s 4 := by unfold noB; rw [List.take_left' (beB_len s 4)]
theorem noB_drop (s c : Nat) : (noB s c).drop 4 = beB c 8 := by unfold noB; rw [List.drop_left' (beB_len s 4)]
end Go.Proofs.YtcfddmplnoknlaaDoor
namespace Go.Proofs.YtcfddmplnoknlaaDoor
set_option maxRecDepth 16384
open Go.RowKit Sh

def msg (i s c : Nat) (d : List Nat) : List Nat := beB i 4 ++ (noB s c ++ d)
theorem msg_len {i s c : Nat} {d : List Nat} {n : Nat} (h : d.length = n) : (msg i s c d).length = 16 + n := by simp [msg, beB_len, noB_len, h]; omega
theorem msg_byt {i s c : Nat} {d : List Nat} (h : Byt d) : Byt (msg i s c d) := (beB_byt _ _).app ((noB_byt _ _).app h)
theorem msg_4 {i s c : Nat} {d : List Nat} : (msg i s c d).take 4 = beB i 4 := by rw [msg, List.take_left' (beB_len i 4)]
theorem msg_d {i s c : Nat} {d : List Nat} : (msg i s c d).drop 16 = d := by
 rw [msg, ← List.append_assoc, List.drop_left' (by simp [beB_len, noB_len])]
theorem msg_12 {i s c : Nat} {d : List Nat} : ((msg i s c d).drop 4).take 12 = noB s c := by
 rw [msg, List.drop_left' (beB_len i 4), List.take_left' (noB_len s c)]
def mI (l : List Nat) : Nat := beV (l.take 4)
def mS (l : List Nat) : Nat := beV (((l.drop 4).take 12).take 4)
def mC (l : List Nat) : Nat := beV (((l.drop 4).take 12).drop 4)
def mD (l : List Nat) : List Nat := l.drop 16
theorem mI_msg {i s c : Nat} {d : List Nat} (hi : i < 4294967296) : mI (msg i s c d) = i := by rw [mI, msg_4, beV_beB4 i hi]
theorem mS_msg {i s c : Nat} {d : List Nat} (hs : s < 4294967296) : mS (msg i s c d) = s := by rw [mS, msg_12, noB_take, beV_beB4 s hs]
theorem mC_msg {i s c : Nat} {d : List Nat} (hc : c < 18446744073709551616) : mC (msg i s c d) = c := by rw [mC, msg_12, noB_drop, beV_beB8 c hc]
theorem mD_msg {i s c : Nat} {d : List Nat} : mD (msg i s c d) = d := msg_d
theorem msg_of (l : List Nat) (hl : l.length = 48) (hb : Byt l) : msg (mI l) (mS l) (mC l) (mD l) = l := by
 have h4 : (l.take 4).length = 4 := by simp; omega
 have h12 : ((l.drop 4).take 12).length = 12 := by simp; omega
 have e1 : beB (mI l) 4 = l.take 4 := beB_beV4 _ h4 (hb.take 4)
 have e2 : beB (mS l) 4 = ((l.drop 4).take 12).take 4 := beB_beV4 _ (by simp; omega) (((hb.drop 4).take 12).take 4)
 have e3 : beB (mC l) 8 = ((l.drop 4).take 12).drop 4 := beB_beV8 _ (by simp; omega) (((hb.drop 4).take 12).drop 4)
 rw [msg, noB, e1, e2, e3, List.take_append_drop, mD]
 have e4 : l.drop 16 = (l.drop 4).drop 12 := by rw [List.drop_drop]
 rw [e4, List.take_append_drop, List.take_append_drop]
theorem mI_lt (l : List Nat) (hl : 4 ≤ l.length) (hb : Byt l) : mI l < 4294967296 := by
 have h := beV_lt256 _ (hb.take 4)
 have h4 : (l.take 4).length = 4 := by simp; omega
 rw [h4] at h
 exact h
theorem mS_lt (l : List Nat) (hl : 16 ≤ l.length) (hb : Byt l) : mS l < 4294967296 := by
 have h := beV_lt256 _ (((hb.drop 4).take 12).take 4)
 have h4 : (((l.drop 4).take 12).take 4).length = 4 := by simp; omega
 rw [h4] at h
 exact h
end Go.Proofs.YtcfddmplnoknlaaDoor
namespace Go.Proofs.YtcfddmplnoknlaaDoor
set_option maxRecDepth 16384
def noV (s c : Nat) : Array Value := #[.int .u32 (s : Int), .int .u64 (c : Int)]
theorem noV_info (s c : Nat) : (Tryd.prog.info? 30).map (·.size) = some (noV s c).size := by
 show _ = some 2
 kernel_rfl

end Go.Proofs.YtcfddmplnoknlaaDoor
namespace Go.Proofs.YtcfddmplnoknlaaDoor
set_option maxRecDepth 16384
open Go.RowKit

theorem run_storeVar_row {P : Program} {w : World} {g : Nat} {t ty : TypeId} {old : Array Value} (h : Blk w g t old) (c : Array Value) (hs : old.size = c.size) (hi : (P.info? ty).map (·.size) = some c.size) (h1 : ∀ v ∈ c.toList, v.oneCell' = true) :
  (storeVar ty ⟨g, 0, none⟩ (.agg c)).run P w = .ok () (w.setRow g c) := by
 have e := run_storeCells_from (P := P) g t c.toList 0 old w h (by simp; omega) h1
 cases hq : P.info? ty with
 | none => simp [hq] at hi
 | some i =>
  have hs2 : c.size = i.size := by simp [hq] at hi; omega
  simp at e
  simp [storeVar, sizeOf, typeInfo, hq, Value.cells, hs2, e]

theorem step_load_row {P : Program} {ops : Array Oper} {o : Oper} {a : Act} {w : World} {K : Act → World → Prop} {Q : Exit → Act → World → Prop} {E : Prop} (hgd : o.guard = none) (ty : TypeId) (x : Operand) (ho : o.op = .load ty x)
  (g : Nat) (hx : a.eval x = .pointer (some ⟨g, 0, none⟩)) (t : TypeId) (cs : Array Value) (hb : Blk w g t cs) (d : TypeDesc)
  (hu : P.underlying ty = some d) (hd : (match d with | .struct _ | .array _ _ => true | _ => false) = true) (hi : (P.info? ty).map (·.size) = some cs.size)
  (h : K (a.put o.dst (.agg cs)) w) : if Region.wanted o (yielded ops a.tmps) = true then Oper.wp P o a w K Q else E := by
 have hw : Region.wanted o (yielded ops a.tmps) = true := by simp [Region.wanted, hgd]
 rw [if_pos hw]
 exact wp_load_row ty x ho g hx t cs (0, 0) d hb hu hd hi h

theorem step_store_row {P : Program} {ops : Array Oper} {o : Oper} {a : Act} {w : World} {K : Act → World → Prop} {Q : Exit → Act → World → Prop} {E : Prop} (hgd : o.guard = none) (ty : TypeId) (x y : Operand) (ho : o.op = .store ty x y)
  (g : Nat) (hx : a.eval x = .pointer (some ⟨g, 0, none⟩)) (c : Array Value) (hy : a.eval y = .agg c) (t : TypeId) (old : Array Value) (hb : Blk w g t old) (hs : old.size = c.size)
  (hi : (P.info? ty).map (·.size) = some c.size) (h1 : ∀ v ∈ c.toList, v.oneCell' = true)
  (h : K (a.put o.dst undef) (w.setRow g c)) : if Region.wanted o (yielded ops a.tmps) = true then Oper.wp P o a w K Q else E := by
 have hw : Region.wanted o (yielded ops a.tmps) = true := by simp [Region.wanted, hgd]
 rw [if_pos hw]
 unfold Oper.wp execOp
 simp only [ho, hx, hy, Instr.storeAt, Instr.sureAddr, Sem.run_bind, Sem.run_pure, Result.andThen_ok, run_storeVar_row hb c hs hi h1]
 exact h

theorem wpList_buildv {P : Program} {ops : Array Oper} {rest : List Oper} {o : Oper} {a : Act} {w : World} {Q : Exit → Act → World → Prop} (hg : o.guard = none) (t : TypeId) (parts : Array (Nat × Operand)) (ho : o.op = .build t parts)
  (cs : Array Value) (hb : P.built t (parts.map fun (i, x) => (i, a.eval x)).toList = some cs)
  (h : wpList P ops Q rest (a.put o.dst (.agg cs)) w) : wpList P ops Q (o :: rest) a w :=
 wpList_build hg t parts ho (by rw [hb]; rfl) (by rw [hb]; exact h)

theorem va_splice (k : IntKind) (a m : List Nat) (o : Nat) : ((va k a).toList.take o ++ nv k m ++ (va k a).toList.drop (o + (nv k m).length)).toArray = va k (a.take o ++ (m ++ a.drop (o + m.length))) := by
 simp [va, nv_take, nv_drop, nv_app, nv_len]

theorem copy_bytes {w : World} (dT sT ty : TypeId) (hu : Tryd.prog.underlying dT = some (.slice 5)) (g o dLen dCap : Nat) (T : TypeId) (cur : List Nat) (hg : Blk w g T (va .u8 cur)) (s n c : Nat) (Ts : TypeId) (m : List Nat) (hb : Blk w s Ts (va .u8 m)) (hn : m.length = n)
    (hd : n ≤ dLen) (hfit : o + n ≤ cur.length) :
    (Builtin.copy_ #[dT, sT] ty #[.slice (some ⟨g, o, none⟩) dLen dCap, .slice (some ⟨s, 0, none⟩) n c]).run Tryd.prog w = .ok (.int .i64 (n : Int)) (w.setRow g (va .u8 (cur.take o ++ (m ++ cur.drop (o + n))))) := by
  subst hn
  have hsz : (Tryd.prog.info? 5).map (·.size) = some 1 := by kernel_rfl
  have hcp := run_copy_row (P := Tryd.prog) w dT sT ty 5 g o dLen dCap ⟨s, 0, none⟩ m.length c (va .u8 cur) T (nv .u8 m) hu hsz hg
    (by rw [nv_len]; exact (Nat.min_eq_left hd).symm)
    (fun j v hv => by
      have hj : j < m.length := by
        rcases Nat.lt_or_ge j m.length with h0 | h0
        · exact h0
        · rw [List.getElem?_eq_none (by rw [nv_len]; exact h0)] at hv; cases hv
      have h1 := hb.num hj
      rw [nv_get hj] at hv
      cases hv
      rw [Addr.add_mid, Nat.zero_add]; exact h1)
    (by rw [nv_len, va_size]; exact hfit) (nv_one _ _)
  rw [hcp, va_splice, nv_len]; rfl
end Go.Proofs.YtcfddmplnoknlaaDoor
namespace Go.Proofs.YtcfddmplnoknlaaDoor
set_option maxRecDepth 16384
open Go.RowKit

theorem results_row_tmp {P : Program} {fn : Func} {p u : Tmp} {ty : TypeId} (h : fn.results = #[.cell p ty, .tmp u]) (tmps : Array Value) (w : World) (g : Nat) (t : TypeId) (cs : Array Value) (d : TypeDesc) (v : Value)
  (hp : tmps.getD p undef = .pointer (some ⟨g, 0, none⟩)) (hg : Blk w g t cs)
  (hu : P.underlying ty = some d) (hd : (match d with | .struct _ | .array _ _ => true | _ => false) = true) (hi : (P.info? ty).map (·.size) = some cs.size) (hv : tmps.getD u undef = v) :
  (results fn tmps).run P w = .ok (.tuple #[.agg cs, v]) w := by
 rw [results_cell_tmp h, hp, hv]
 simp [asAddr, run_loadVar_row w g t ty cs (0, 0) d hg hu hd hi]

theorem results_row_row_tmp {P : Program} {fn : Func} {p q u : Tmp} {ty sy : TypeId} (h : fn.results = #[.cell p ty, .cell q sy, .tmp u]) (tmps : Array Value) (w : World) (g : Nat) (t : TypeId) (cs : Array Value) (d : TypeDesc) (g2 : Nat) (t2 : TypeId) (cs2 : Array Value) (d2 : TypeDesc) (v : Value)
  (hp : tmps.getD p undef = .pointer (some ⟨g, 0, none⟩)) (hg : Blk w g t cs)
  (hu : P.underlying ty = some d) (hd : (match d with | .struct _ | .array _ _ => true | _ => false) = true) (hi : (P.info? ty).map (·.size) = some cs.size)
  (hp2 : tmps.getD q undef = .pointer (some ⟨g2, 0, none⟩)) (hg2 : Blk w g2 t2 cs2)
  (hu2 : P.underlying sy = some d2) (hd2 : (match d2 with | .struct _ | .array _ _ => true | _ => false) = true) (hi2 : (P.info? sy).map (·.size) = some cs2.size) (hv : tmps.getD u undef = v) :
  (results fn tmps).run P w = .ok (.tuple #[.agg cs, .agg cs2, v]) w := by
 have hp' : tmps[p]?.getD undef = .pointer (some ⟨g, 0, none⟩) := by simpa using hp
 have hq' : tmps[q]?.getD undef = .pointer (some ⟨g2, 0, none⟩) := by simpa using hp2
 have hv' : tmps[u]?.getD undef = v := by simpa using hv
 simp [results, h, hp', hq', hv', asAddr, run_loadVar_row w g t ty cs (0, 0) d hg hu hd hi, run_loadVar_row w g2 t2 sy cs2 (0, 0) d2 hg2 hu2 hd2 hi2]

theorem Blk.newAt {w : World} {g : Nat} {t : TypeId} {cs : Array Value} (h : w.heap.size = g) : Blk (w.alloc (.cells cs t)) g t cs := by
 subst h; exact Blk.new _ _ _
theorem Blk.readsAll {w : World} {g B n : Nat} {t : TypeId} {k : IntKind} {l : List Nat} (h : Blk w g t (va k l)) (hg : g < B) (hn : l.length = n) : Reads w B 1 (some ⟨g, 0, none⟩) n (nv k l) := by
 subst hn
 have := h.reads hg 0 l.length (by omega)
 simpa using this
end Go.Proofs.YtcfddmplnoknlaaDoor
namespace Go.Proofs.YtcfddmplnoknlaaDoor
set_option maxRecDepth 16384
open Go.RowKit
section
variable {P : Program} {ops : Array Oper} {Q : Exit → Act → World → Prop} {S : World → Prop} {fuel : Nat} {listed : Array Bool} {a : Act} {w : World}
theorem yieldsIf_load_blk {op : Oper} (hw : Region.wanted op (yielded ops a.tmps) = true) (ty : TypeId) (x : Operand) (ho : op.op = .load ty x)
  (g : Nat) (hx : a.eval x = .pointer (some ⟨g, 0, none⟩)) (t : TypeId) (cs : Array Value) (d : TypeDesc) (hS : ∀ w, S w → Blk w g t cs)
  (hu : P.underlying ty = some d) (hd : (match d with | .struct _ | .array _ _ => true | _ => false) = true) (hi : (P.info? ty).map (·.size) = some cs.size) : YieldsIf P ops S op (.agg cs) a :=
 .inl ⟨hw, fun w hw' => by
  unfold execOp
  simp only [ho, hx, Instr.loadAt, Instr.sureAddr, Sem.run_bind, Sem.run_pure, Result.andThen_ok, run_loadVar_row w g t ty cs (0, 0) d (hS w hw') hu hd hi]⟩
end
section
variable {P : Program} {l : List Oper} {Q : Exit → Act → World → Prop} {S : World → Prop} {fuel : Nat} {listed : Array Bool} {ts : List Value} {df : List Deferred} {w : World} {md : Region.Mode}
theorem drop_get {o : Oper} {r : List Oper} {i : Nat} (h : l.drop i = o :: r) : l.toArray[i]? = some o := by
 have e : (l.drop i)[0]? = some o := by rw [h]; rfl
 rw [List.getElem?_drop] at e
 simpa using e
theorem takeH (fuel i d : Nat) (v : Value) {o : Oper} {r : List Oper} (hi : l.drop i = o :: r) (hdst : o.dst = some d) (hs : Region.noSelect l.toArray = true) (hf : Region.free md l.toArray listed i = true)
  (hr : (Region.ready md l.toArray listed).contains i = true) (hQ : ∀ c a w, Q (.panic c) (a.put o.dst v) w → Q (.panic c) a w)
  (hy : YieldsIf P l.toArray S o v ⟨ts.toArray, df⟩) (hS : S w)
  (h : wpAnyH P md l.toArray Q S fuel (listed.setIfInBounds i true) ⟨(ts.set d v).toArray, df⟩ w) : wpAnyH P md l.toArray Q S (fuel + 1) listed ⟨ts.toArray, df⟩ w := by
 refine wpAnyH_take (drop_get hi) hs hf hr hQ hy hS ?_
 rw [hdst]
 simpa [Act.put] using h
theorem callH (fuel i d : Nat) {o : Oper} {r : List Oper} (hi : l.drop i = o :: r) (hdst : o.dst = some d) (hw : Region.wanted o (yielded l.toArray ts.toArray) = true) (hr : Region.ready md l.toArray listed = [i])
  (h : ∀ K : Act → World → Prop, Shut (∀ v w, S w → (S w → wpAnyH P md l.toArray Q S fuel (listed.setIfInBounds i true) ⟨(ts.set d v).toArray, df⟩ w) → K (Act.put ⟨ts.toArray, df⟩ o.dst v) w) → Oper.wp P o ⟨ts.toArray, df⟩ w K Q) :
  wpAnyH P md l.toArray Q S (fuel + 1) listed ⟨ts.toArray, df⟩ w := by
 refine wpAnyH_ready hr (by simp) (AllReadyH.cons (drop_get hi) (fun K hK => ?_) AllReadyH.nil)
 rw [if_pos hw]
 refine h K fun v w' hS hn => ?_
 refine hK.out _ _ hS fun hS => ?_
 have := hn hS
 rw [hdst]
 simpa [Act.put] using this
theorem storeH (fuel i : Nat) {o : Oper} {r : List Oper} (hi : l.drop i = o :: r) (hdst : o.dst = none) (hw : Region.wanted o (yielded l.toArray ts.toArray) = true) (hr : Region.ready md l.toArray listed = [i])
  (ty : TypeId) (x y : Operand) (ho : o.op = .store ty x y) (g : Nat) (hx : Act.eval ⟨ts.toArray, df⟩ x = .pointer (some ⟨g, 0, none⟩)) (c : Array Value) (hy : Act.eval ⟨ts.toArray, df⟩ y = .agg c) (t : TypeId) (old : Array Value) (hb : Blk w g t old) (hs : old.size = c.size)
  (hin : (P.info? ty).map (·.size) = some c.size) (h1 : ∀ v ∈ c.toList, v.oneCell' = true) (hS : S (w.setRow g c))
  (h : S (w.setRow g c) → wpAnyH P md l.toArray Q S fuel (listed.setIfInBounds i true) ⟨ts.toArray, df⟩ (w.setRow g c)) :
  wpAnyH P md l.toArray Q S (fuel + 1) listed ⟨ts.toArray, df⟩ w := by
 refine wpAnyH_ready hr (by simp) (AllReadyH.cons (drop_get hi) (fun K hK => ?_) AllReadyH.nil)
 rw [if_pos hw]
 unfold Oper.wp execOp
 simp only [ho, hx, hy, Instr.storeAt, Instr.sureAddr, Sem.run_bind, Sem.run_pure, Result.andThen_ok, run_storeVar_row hb c hs hin h1]
 refine hK.out _ _ hS fun hS => ?_
 rw [hdst]
 exact h hS
theorem exec_conv {op : Oper} {a : Act} {w : World} (src dst : TypeId) (x : Operand) (ho : op.op = .convert src dst x) (v u : Value) (hx : a.eval x = v) (hc : (convert src dst v).run P w = .ok u w) : (execOp a.eval op).run P w = .ok (.value u) w := by
 unfold execOp
 simp only [ho, hx, Sem.run_bind, hc, Result.andThen_ok, Sem.run_pure]
/-! a region in order, taken by hand -/
theorem runP {o : Oper} {rest : List Oper} {ops : Array Oper} (d : Nat) (v : Value) (hdst : o.dst = some d) (hw : Region.wanted o (yielded ops ts.toArray) = true)
  (hrun : (execOp (Act.eval ⟨ts.toArray, df⟩) o).run P w = .ok (.value v) w)
  (h : wpList P ops Q rest ⟨(ts.set d v).toArray, df⟩ w) : wpList P ops Q (o :: rest) ⟨ts.toArray, df⟩ w := by
 refine wpList_step fun K hK => ?_
 rw [if_pos hw]
 unfold Oper.wp
 rw [hrun]
 refine hK _ _ ?_
 rw [hdst]
 simpa [Act.put] using h
theorem callP {o : Oper} {rest : List Oper} {ops : Array Oper} (d : Nat) (hdst : o.dst = some d) (hw : Region.wanted o (yielded ops ts.toArray) = true)
  (h : ∀ K : Act → World → Prop, Shut (∀ v w, wpList P ops Q rest ⟨(ts.set d v).toArray, df⟩ w → K (Act.put ⟨ts.toArray, df⟩ o.dst v) w) → Oper.wp P o ⟨ts.toArray, df⟩ w K Q) :
  wpList P ops Q (o :: rest) ⟨ts.toArray, df⟩ w := by
 refine wpList_step fun K hK => ?_
 rw [if_pos hw]
 refine h K fun v w' hn => hK _ _ ?_
 rw [hdst]
 simpa [Act.put] using hn
theorem exec_row {op : Oper} {a : Act} {w : World} (ty : TypeId) (x : Operand) (ho : op.op = .load ty x) (g : Nat) (hx : a.eval x = .pointer (some ⟨g, 0, none⟩)) (t : TypeId) (cs : Array Value) (d : TypeDesc) (hg : Blk w g t cs)
  (hu : P.underlying ty = some d) (hd : (match d with | .struct _ | .array _ _ => true | _ => false) = true) (hi : (P.info? ty).map (·.size) = some cs.size) : (execOp a.eval op).run P w = .ok (.value (.agg cs)) w := by
 unfold execOp
 simp only [ho, hx, Instr.loadAt, Instr.sureAddr, Sem.run_bind, Sem.run_pure, Result.andThen_ok, run_loadVar_row w g t ty cs (0, 0) d hg hu hd hi]
theorem exec_build {op : Oper} {a : Act} {w : World} (t : TypeId) (pl : List (Nat × Operand)) (ho : op.op = .build t pl.toArray) (cs : Array Value) (hb : P.built t (pl.map fun x => (x.1, a.eval x.2)) = some cs) :
  (execOp a.eval op).run P w = .ok (.value (.agg cs)) w := by
 have hb2 : P.built t (pl.toArray.map fun (i, x) => (i, a.eval x)).toList = some cs := by
  rw [← hb]; simp
 unfold execOp
 simp only [ho, Sem.run_bind, run_build w t _ cs hb2, Result.andThen_ok, Sem.run_pure]
theorem runW {o : Oper} {rest : List Oper} {ops : Array Oper} (d : Nat) (v : Value) (w2 : World) (hdst : o.dst = some d) (hw : Region.wanted o (yielded ops ts.toArray) = true)
  (hrun : (execOp (Act.eval ⟨ts.toArray, df⟩) o).run P w = .ok (.value v) w2)
  (h : wpList P ops Q rest ⟨(ts.set d v).toArray, df⟩ w2) : wpList P ops Q (o :: rest) ⟨ts.toArray, df⟩ w := by
 refine wpList_step fun K hK => ?_
 rw [if_pos hw]
 unfold Oper.wp
 rw [hrun]
 refine hK _ _ ?_
 rw [hdst]
 simpa [Act.put] using h
theorem runS {o : Oper} {rest : List Oper} {ops : Array Oper} (w2 : World) (hdst : o.dst = none) (hw : Region.wanted o (yielded ops ts.toArray) = true)
  (hrun : (execOp (Act.eval ⟨ts.toArray, df⟩) o).run P w = .ok .skip w2)
  (h : wpList P ops Q rest ⟨ts.toArray, df⟩ w2) : wpList P ops Q (o :: rest) ⟨ts.toArray, df⟩ w := by
 refine wpList_step fun K hK => ?_
 rw [if_pos hw]
 unfold Oper.wp
 rw [hrun]
 refine hK _ _ ?_
 rw [hdst]
 exact h
theorem wp_callF {o : Oper} {a : Act} {w : World} {K : Act → World → Prop} {Q : Exit → Act → World → Prop} (f : FuncId) (vals : Array Value) {R : Ending → World → Prop} (hrun : (execOp a.eval o).run P w = .ok (.enter f vals) w) (hc : Calls P f vals w R)
  (h : ∀ e w', R e w' → ∃ v, e = .returned v ∧ K (a.put o.dst v) w') : Oper.wp P o a w K Q := by
 unfold Oper.wp
 rw [hrun]
 exact hc.mono fun e w' hR => by
  obtain ⟨v, rfl, hk⟩ := h e w' hR
  exact hk
/-! several operations may come up -/
theorem readyCons (fuel i d : Nat) {o : Oper} {r : List Oper} {rs : List Nat} (hi : l.drop i = o :: r) (hdst : o.dst = some d) (hw : Region.wanted o (yielded l.toArray ts.toArray) = true)
  (h : ∀ K : Act → World → Prop, Shut (∀ v w, S w → (S w → wpAnyH P md l.toArray Q S fuel (listed.setIfInBounds i true) ⟨(ts.set d v).toArray, df⟩ w) → K (Act.put ⟨ts.toArray, df⟩ o.dst v) w) → Oper.wp P o ⟨ts.toArray, df⟩ w K Q)
  (hs : AllReadyH P md l.toArray Q S fuel listed ⟨ts.toArray, df⟩ w rs) : AllReadyH P md l.toArray Q S fuel listed ⟨ts.toArray, df⟩ w (i :: rs) := by
 refine AllReadyH.cons (drop_get hi) (fun K hK => ?_) hs
 rw [if_pos hw]
 refine h K fun v w' hS hn => ?_
 refine hK.out _ _ hS fun hS => ?_
 have := hn hS
 rw [hdst]
 simpa [Act.put] using this
theorem readyRun (fuel i d : Nat) (v : Value) (w2 : World) {o : Oper} {r : List Oper} {rs : List Nat} (hi : l.drop i = o :: r) (hdst : o.dst = some d) (hw : Region.wanted o (yielded l.toArray ts.toArray) = true)
  (hrun : (execOp (Act.eval ⟨ts.toArray, df⟩) o).run P w = .ok (.value v) w2) (hS : S w2)
  (h : S w2 → wpAnyH P md l.toArray Q S fuel (listed.setIfInBounds i true) ⟨(ts.set d v).toArray, df⟩ w2)
  (hs : AllReadyH P md l.toArray Q S fuel listed ⟨ts.toArray, df⟩ w rs) : AllReadyH P md l.toArray Q S fuel listed ⟨ts.toArray, df⟩ w (i :: rs) := by
 refine AllReadyH.cons (drop_get hi) (fun K hK => ?_) hs
 rw [if_pos hw]
 unfold Oper.wp
 rw [hrun]
 refine hK.out _ _ hS fun hS => ?_
 rw [hdst]
 simpa [Act.put] using h hS
theorem exec_bslice {op : Oper} {a : Act} {w w2 : World} (t : TypeId) (n : Nat) (pl : List (Nat × Operand)) (ho : op.op = .buildSlice t n pl.toArray) (v : Value) (hb : (Instr.buildSlice t n (pl.map fun x => (x.1, a.eval x.2)).toArray).run P w = .ok v w2) :
  (execOp a.eval op).run P w = .ok (.value v) w2 := by
 have hb2 : (Instr.buildSlice t n (pl.toArray.map fun (i, x) => (i, a.eval x))).run P w = .ok v w2 := by
  rw [← hb]; simp
 unfold execOp
 simp only [ho, Sem.run_bind, hb2, Result.andThen_ok, Sem.run_pure]
theorem exec_convW {op : Oper} {a : Act} {w w2 : World} (src dst : TypeId) (x : Operand) (ho : op.op = .convert src dst x) (v u : Value) (hx : a.eval x = v) (hc : (convert src dst v).run P w = .ok u w2) : (execOp a.eval op).run P w = .ok (.value u) w2 := by
 unfold execOp
 simp only [ho, hx, Sem.run_bind, hc, Result.andThen_ok, Sem.run_pure]
end
end Go.Proofs.YtcfddmplnoknlaaDoor
