/-
  Steps of a drawn region: a whole row is loaded, a whole row is stored.
-/
import Derived.Test.YtcdmbknmmnaocaaDoorMem
import Derived.Deep.MidRow
import Derived.Deep.RegionLaw
import Derived.Laws.CopyRow
import Derived.Laws.Tables
namespace Go.Proofs.YtcdmbknmmnaocaaDoor
open Go.RowKit

theorem run_storeVar_row {P : Program} {w : World} {g : Nat} {t ty : TypeId} {old : Array Value} (h : Blk w g t old) (c : Array Value) (hs : old.size = c.size) (hi : (P.info? ty).map (·.size) = some c.size) (h1 : ∀ v ∈ c.toList, v.oneCell' = true) :
    (storeVar ty ⟨g, 0, none⟩ (.agg c)).run P w = .ok () (w.setRow g c) := by
  have e := run_storeCells_from (P := P) g t c.toList 0 old w h (by simp; omega) h1
  cases hq : P.info? ty with
  | none => simp [hq] at hi
  | some i =>
    have hs2 : c.size = i.size := by simp [hq] at hi; omega
    simp at e
    simp [storeVar, sizeOf, typeInfo, hq, Value.cells, hs2, e]

theorem step_load_row {P : Program} {ops : Array Oper} {o : Oper} {a : Act} {w : World} {K : Act → World → Prop} {Q : Exit → Act → World → Prop} {E : Prop} (hgd : o.guard = none) (ty : TypeId) (x : Operand) (ho : o.op = .load ty x)
    (g : Nat) (hx : a.eval x = .pointer (some ⟨g, 0, none⟩)) (t : TypeId) (cs : Array Value) (hb : Blk w g t cs) (d : TypeDesc)
    (hu : P.underlying ty = some d) (hd : (match d with | .struct _ | .array _ _ => true | _ => false) = true) (hi : (P.info? ty).map (·.size) = some cs.size)
    (h : K (a.put o.dst (.agg cs)) w) : if Region.wanted o (yielded ops a.tmps) = true then Oper.wp P o a w K Q else E := by
  have hw : Region.wanted o (yielded ops a.tmps) = true := by simp [Region.wanted, hgd]
  rw [if_pos hw]
  exact wp_load_row ty x ho g hx t cs (0, 0) d hb hu hd hi h

theorem step_store_row {P : Program} {ops : Array Oper} {o : Oper} {a : Act} {w : World} {K : Act → World → Prop} {Q : Exit → Act → World → Prop} {E : Prop} (hgd : o.guard = none) (ty : TypeId) (x y : Operand) (ho : o.op = .store ty x y)
    (g : Nat) (hx : a.eval x = .pointer (some ⟨g, 0, none⟩)) (c : Array Value) (hy : a.eval y = .agg c) (t : TypeId) (old : Array Value) (hb : Blk w g t old) (hs : old.size = c.size)
    (hi : (P.info? ty).map (·.size) = some c.size) (h1 : ∀ v ∈ c.toList, v.oneCell' = true)
    (h : K (a.put o.dst undef) (w.setRow g c)) : if Region.wanted o (yielded ops a.tmps) = true then Oper.wp P o a w K Q else E := by
  have hw : Region.wanted o (yielded ops a.tmps) = true := by simp [Region.wanted, hgd]
  rw [if_pos hw]
  unfold Oper.wp execOp
  simp only [ho, hx, hy, Instr.storeAt, Instr.sureAddr, Sem.run_bind, Sem.run_pure, Result.andThen_ok, run_storeVar_row hb c hs hi h1]
  exact h

/-- a literal of an array or a struct, its cells named -/
theorem wpList_buildv {P : Program} {ops : Array Oper} {rest : List Oper} {o : Oper} {a : Act} {w : World} {Q : Exit → Act → World → Prop} (hg : o.guard = none) (t : TypeId) (parts : Array (Nat × Operand)) (ho : o.op = .build t parts)
    (cs : Array Value) (hb : P.built t (parts.map fun (i, x) => (i, a.eval x)).toList = some cs)
    (h : wpList P ops Q rest (a.put o.dst (.agg cs)) w) : wpList P ops Q (o :: rest) a w :=
  wpList_build hg t parts ho (by rw [hb]; rfl) (by rw [hb]; exact h)

theorem va_splice (k : IntKind) (a m : List Nat) (o : Nat) : ((va k a).toList.take o ++ nv k m ++ (va k a).toList.drop (o + (nv k m).length)).toArray = va k (a.take o ++ (m ++ a.drop (o + m.length))) := by
  simp [va, nv_take, nv_drop, nv_app, nv_len]

/-- copy of the bytes that fill a block into the midst of another -/
theorem copy_bytes {w : World} (dT sT ty : TypeId) (hu : Tryd.prog.underlying dT = some (.slice 5)) (g o dLen dCap : Nat) (T : TypeId) (cur : List Nat) (hg : Blk w g T (va .u8 cur)) (s n c : Nat) (Ts : TypeId) (m : List Nat) (hb : Blk w s Ts (va .u8 m)) (hn : m.length = n)
    (hd : n ≤ dLen) (hfit : o + n ≤ cur.length) :
    (Builtin.copy_ #[dT, sT] ty #[.slice (some ⟨g, o, none⟩) dLen dCap, .slice (some ⟨s, 0, none⟩) n c]).run Tryd.prog w = .ok (.int .i64 (n : Int)) (w.setRow g (va .u8 (cur.take o ++ (m ++ cur.drop (o + n))))) := by
  subst hn
  have hsz : (Tryd.prog.info? 5).map (·.size) = some 1 := by kernel_rfl
  have hcp := run_copy_row (P := Tryd.prog) w dT sT ty 5 g o dLen dCap ⟨s, 0, none⟩ m.length c (va .u8 cur) T (nv .u8 m) hu hsz hg
    (by rw [nv_len]; exact (Nat.min_eq_left hd).symm)
    (fun j v hv => by
      have hj : j < m.length := by
        rcases Nat.lt_or_ge j m.length with h0 | h0
        · exact h0
        · rw [List.getElem?_eq_none (by rw [nv_len]; exact h0)] at hv; cases hv
      have h1 := hb.num hj
      rw [nv_get hj] at hv
      cases hv
      rw [Addr.add_mid, Nat.zero_add]; exact h1)
    (by rw [nv_len, va_size]; exact hfit) (nv_one _ _)
  rw [hcp, va_splice, nv_len]; rfl
end Go.Proofs.YtcdmbknmmnaocaaDoor
