/-
  Words for package streams: nonces, ranges, keys with nonces; their compares. (Printed by mk07.py.)
-/
import Derived.Test.YtpcdckhabaoieaaOwn
namespace Go.Proofs.Ytpcdckhabaoieaa
open Go.RowKit Sh
theorem sz__16_uint8 (l : List Nat) (h : l.length = 16) : (Try.prog.info? 22).map (·.size) = some (va .u8 l).size := by rw [va_size, h]; kernel_rfl
theorem zv__16_uint8 (w : World) : (zeroValue 22).run Try.prog w = .ok (.agg (va .u8 (List.replicate 16 0))) w := by kernel_rfl
theorem sz__2_uint32 (l : List Nat) (h : l.length = 2) : (Try.prog.info? 33).map (·.size) = some (va .u32 l).size := by rw [va_size, h]; kernel_rfl
theorem zv__2_uint32 (w : World) : (zeroValue 33).run Try.prog w = .ok (.agg (va .u32 (List.replicate 2 0))) w := by kernel_rfl

def noV (s c : Nat) : Array Value := #[.int .u32 (s : Int), .int .u64 (c : Int)]
theorem reads_of {w : World} {B B0 n : Nat} {A : Option Addr} {k : IntKind} {l : List Nat} (h : Reads w B 1 A n (nv k l)) (hB : B ≤ B0) : Hid (∀ W, Below B0 w W → Reads W B 1 A n (nv k l)) := Lib.hid fun W hb => h.below (hb.mono hB)

def rgV (s c a b : Nat) : Array Value := #[.int .u32 (s : Int), .int .u64 (c : Int), .int .u32 (a : Int), .int .u32 (b : Int)]
def r2V (a b : Nat) : Array Value := va .u32 [a, b]
theorem noV_sz (s c : Nat) : (Try.prog.info? 26).map (·.size) = some (noV s c).size := by kernel_rfl
theorem noV_one (s c : Nat) : ∀ v ∈ (noV s c).toList, v.oneCell' = true := by simp [noV, Value.oneCell']
theorem zv_Nonce (w : World) : (zeroValue 26).run Try.prog w = .ok (.agg (noV 0 0)) w := by kernel_rfl
theorem eqRg (s c a b : Nat) (w : World) : (Op.equalIn 10000 36 (.agg (rgV s c a b)) (.agg (rgV s c a b))).run Try.prog w = .ok true w := by
  unfold rgV
  go_simp
theorem eqNoD (s c s2 c2 : Nat) (w : World) : (Op.equalIn 10000 26 (.agg (noV s c)) (.agg (noV s2 c2))).run Try.prog w = .ok (decide (s = s2 ∧ c = c2)) w := by
  unfold noV
  by_cases h1 : s = s2
  · subst h1
    by_cases h2 : c = c2
    · subst h2; go_simp
    · have h2I : ¬ (c : Int) = (c2 : Int) := by omega
      go_simp
  · have h1I : ¬ (s : Int) = (s2 : Int) := by omega
    go_simp
section
variable {P : Program} {w : World}
theorem exec_eqV {op : Oper} {a : Act} (t : TypeId) (hg : P.eqGuardType P.depth t = false) (x y : Operand) (t2 : TypeId) (ho : op.op = .binOp .eql t x y t2) (cs ds : Array Value) (hx : a.eval x = .agg cs) (hy : a.eval y = .agg ds) (b : Bool)
    (h : (Op.equalIn 10000 t (.agg cs) (.agg ds)).run P w = .ok b w) : (execOp a.eval op).run P w = .ok (.value (.bool b)) w := by
  have hg2 : (eqGuard .eql t x y (.agg cs) (.agg ds)).run P w = .ok () w := by simp [eqGuard, hg]
  have hb2 : (binOp .eql t (.agg cs) (.agg ds)).run P w = .ok (.bool b) w := by simp [binOp, Op.equal, h, Op.maxDepth]
  unfold execOp
  simp only [ho, hx, hy, Sem.run_bind, hg2, hb2, Result.andThen_ok, Sem.run_pure]
theorem exec_neV {op : Oper} {a : Act} (t : TypeId) (hg : P.eqGuardType P.depth t = false) (x y : Operand) (t2 : TypeId) (ho : op.op = .binOp .neq t x y t2) (cs ds : Array Value) (hx : a.eval x = .agg cs) (hy : a.eval y = .agg ds) (b c : Bool) (hc : (!b) = c)
    (h : (Op.equalIn 10000 t (.agg cs) (.agg ds)).run P w = .ok b w) : (execOp a.eval op).run P w = .ok (.value (.bool c)) w := by
  subst hc
  have hg2 : (eqGuard .neq t x y (.agg cs) (.agg ds)).run P w = .ok () w := by simp [eqGuard, hg]
  have hb2 : (binOp .neq t (.agg cs) (.agg ds)).run P w = .ok (.bool (!b)) w := by simp [binOp, Op.equal, h, Op.maxDepth]
  unfold execOp
  simp only [ho, hx, hy, Sem.run_bind, hg2, hb2, Result.andThen_ok, Sem.run_pure]
end
end Go.Proofs.Ytpcdckhabaoieaa
