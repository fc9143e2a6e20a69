/-
  The walks of caissonref02: rotr, Constants.
-/
import Derived.Test.YtcdmbknmmnaocaaDoorRef1
import Derived.Test.YtcdmbknmmnaocaaDoorDig2
import Derived.Test.YtcdmbknmmnaocaaDoorStep
namespace Go.Proofs.YtcdmbknmmnaocaaDoor
open Go.RowKit Sh

theorem rrotr_val (x n : Nat) (hx : x < 4294967296) :
    bits BinOp.or IntKind.u32 ((x : Int) / 2 ^ n) ((x : Int) * 2 ^ (32 - n) % 4294967296) = ((rotr x n : Nat) : Int) := by
  have e1 : ((x : Int) * 2 ^ (32 - n) % 4294967296) = ((x * 2 ^ (32 - n) % 4294967296 : Nat) : Int) := by
    rw [Int.natCast_emod, Int.natCast_mul, Int.natCast_pow]; rfl
  have e2 := shr_nat x n
  rw [e1, e2, u32_or_nat _ _ (Nat.lt_of_le_of_lt (Nat.div_le_self _ _) hx) (Nat.mod_lt _ (by omega))]
  unfold rotr
  rw [Nat.shiftLeft_eq, Nat.shiftRight_eq_div_pow]

set_option maxHeartbeats 400000 in
theorem rrotr_any (x n : Nat) (hx : x < 4294967296) (h1 : 1 ≤ n) (hn : n ≤ 31) (w : World) :
    Calls Tryd.prog 39 #[.int .u32 (x : Int), .int .i64 (n : Int)] w fun e w' => e = .returned (.int .u32 (rotr x n : Nat)) ∧ ∃ j, w' = w.drewN j := by
  have hv := rrotr_val x n hx
  have h32 : (32 - (n : Int)).toNat = 32 - n := by omega
  have hn1 : 0 ≤ (n : Int) := by omega
  have hn2 : (n : Int) ≤ 31 := by omega
  have hn3 : 0 ≤ 32 - (n : Int) := by omega
  have w3 : IntKind.i64.wrap (32 - (n : Int)) = 32 - (n : Int) := IntWalk.i64_in _ (by omega)
  go_enter Tryd.func39, Tryd.ntmps39
  go_wp2
  go_quiet (fail)
  go_wp2
  go_ret
  exact ⟨rfl, _, rfl⟩

theorem rrotr_lit (x : Nat) (n : Int) (m : Nat) (hm : n = (m : Int)) (hx : x < 4294967296) (h1 : 1 ≤ m) (hn : m ≤ 31) (w : World) :
    Calls Tryd.prog 39 #[.int .u32 (x : Int), .int .i64 n] w fun e w' => e = .returned (.int .u32 (rotr x m : Nat)) ∧ ∃ j, w' = w.drewN j := by
  subst hm; exact rrotr_any x m hx h1 hn w
theorem rrotr_q (x : Nat) (n : Int) (m : Nat) (hm : n = (m : Int)) (hx : x < 4294967296) (h1 : 1 ≤ m) (hn : m ≤ 31) (w : World) (a q : Nat) :
    Calls Tryd.prog 39 #[.int .u32 (x : Int), .int .i64 n] (w.drewN (a + q)) fun e w'' => e = .returned (.int .u32 (rotr x m : Nat)) ∧ ∃ j, w'' = w.drewN (a + j) :=
  quiet_add (rrotr_lit x n m hm hx h1 hn _)

theorem results_two_rows {P : Program} {fn : Func} {p p2 : Tmp} {ty ty2 : TypeId} (h : fn.results = #[.cell p ty, .cell p2 ty2]) (tmps : Array Value) (w : World) (g g2 : Nat) (t t2 : TypeId) (cs cs2 : Array Value) (d d2 : TypeDesc)
    (hp : tmps.getD p undef = .pointer (some ⟨g, 0, none⟩)) (hp2 : tmps.getD p2 undef = .pointer (some ⟨g2, 0, none⟩)) (hg : Blk w g t cs) (hg2 : Blk w g2 t2 cs2)
    (hu : P.underlying ty = some d) (hd : (match d with | .struct _ | .array _ _ => true | _ => false) = true) (hi : (P.info? ty).map (·.size) = some cs.size)
    (hu2 : P.underlying ty2 = some d2) (hd2 : (match d2 with | .struct _ | .array _ _ => true | _ => false) = true) (hi2 : (P.info? ty2).map (·.size) = some cs2.size) :
    (results fn tmps).run P w = .ok (.tuple #[.agg cs, .agg cs2]) w := by
  have hp' : tmps[p]?.getD undef = .pointer (some ⟨g, 0, none⟩) := by simpa using hp
  have hp2' : tmps[p2]?.getD undef = .pointer (some ⟨g2, 0, none⟩) := by simpa using hp2
  simp [results, h, hp', hp2', asAddr, run_loadVar_row w g t ty cs (0, 0) d hg hu hd hi, run_loadVar_row w g2 t2 ty2 cs2 (0, 0) d2 hg2 hu2 hd2 hi2]

theorem zvH (w : World) : (zeroValue 54).run Tryd.prog w = .ok (.agg (va .u32 z8)) w := by kernel_rfl

set_option maxRecDepth 100000 in
set_option maxHeartbeats 400000 in
theorem consts_any (w : World) :
    Calls Tryd.prog 28 #[] w fun e w' => e = .returned (.tuple #[.agg (va .u32 kL), .agg (va .u32 hL)]) ∧ Below w.heap.size w w' := by
  have hzv := zvW
  have hzh := zvH
  have b0 : Blk ((w.alloc (.cells (va .u32 z64) 65)).alloc (.cells (va .u32 z8) 54)) w.heap.size 65 (va .u32 z64) := (Blk.new _ _ _).alloc _
  have b1 : Blk ((w.alloc (.cells (va .u32 z64) 65)).alloc (.cells (va .u32 z8) 54)) (w.heap.size + 1) 54 (va .u32 z8) := by
    have := Blk.new (w.alloc (.cells (va .u32 z64) 65)) 54 (va .u32 z8)
    simpa using this
  have hb0 : Below w.heap.size w ((w.alloc (.cells (va .u32 z64) 65)).alloc (.cells (va .u32 z8) 54)) := ((Below.refl _ _).alloc (Nat.le_refl _) _).alloc (by simp) _
  have hst := run_storeBlk (P := Tryd.prog) b0 .u32 kL (by rw [va_size, z64_len, kL_len])
  have b0' := b0.row (va .u32 kL)
  have b1' := b1.rowFar (g' := w.heap.size) (by omega) (va .u32 kL)
  have hst2 := run_storeBlk (P := Tryd.prog) b1' .u32 hL (by rw [va_size, show z8.length = 8 from List.length_replicate .., hL_len])
  have b0'' := Lib.hid (b0'.rowFar (g' := w.heap.size + 1) (by omega) (va .u32 hL))
  have b1'' := Lib.hid (b1'.row (va .u32 hL))
  have hb2 := Lib.hid (below_setRow (below_setRow hb0 (Nat.le_refl _) (va .u32 kL)) (show w.heap.size ≤ w.heap.size + 1 from by omega) (va .u32 hL))
  have hv1 : (va .u32 kL).size = 64 := by rw [va_size, kL_len]
  have hv2 : (va .u32 hL).size = 8 := by rw [va_size, hL_len]
  have hs1 : (Tryd.prog.info? 65).map (·.size) = some (va .u32 kL).size := by rw [hv1]; kernel_rfl
  have hs2 : (Tryd.prog.info? 54).map (·.size) = some (va .u32 hL).size := by rw [hv2]; kernel_rfl
  have hs1' := Lib.hid hs1
  have hs2' := Lib.hid hs2
  clear b0 b1 hb0 b0' b1' hs1 hs2
  go_enter Tryd.func28, Tryd.ntmps28
  go_wp2_with (first
    | (refine wpList_buildv rfl 65 _ rfl (va .u32 kL) (by kernel_rfl) ?_)
    | (refine wpList_buildv rfl 54 _ rfl (va .u32 hL) (by kernel_rfl) ?_))
  exact bodyPost_ret (results_two_rows rfl _ _ w.heap.size (w.heap.size + 1) 65 54 (va .u32 kL) (va .u32 hL) _ _ rfl rfl b0''.out b1''.out Tryd.underlying65 rfl hs1'.out Tryd.underlying54 rfl hs2'.out) rfl
    ⟨rfl, hb2.out⟩
end Go.Proofs.YtcdmbknmmnaocaaDoor
