/-
  The walks of caissonlaw09.SealsMessage, SealsBack, SealsOpen. (Printed by mkseal09c.py.)
-/
import Derived.Test.YtcfddmplnoknlaaDoorY21
import Derived.Deep.CutBlock
import Derived.Laws.StructEq
namespace Go.Proofs.YtcfddmplnoknlaaDoor
set_option maxRecDepth 16384
open Go.RowKit Sh
def sV (ke km : List Nat) (i : Int) (s c : Nat) : Array Value := (nv .u8 (ke ++ km) ++ [Value.int .i64 i, Value.int .u32 (s : Int), Value.int .u64 (c : Int)]).toArray
section
variable {ke km : List Nat} {i : Int} {s c : Nat}
theorem sV_list : (sV ke km i s c).toList = nv .u8 (ke ++ km) ++ (Value.int .i64 i :: (noV s c).toList) := rfl
theorem sV_kl (hel : ke.length = 16) (hml : km.length = 32) : (nv .u8 (ke ++ km)).length = 48 := by rw [nv_len, List.length_append, hel, hml]
theorem sV_size (ke km : List Nat) (i : Int) {s c : Nat} (hel : ke.length = 16) (hml : km.length = 32) : (sV ke km i s c).size = 51 := by
 have e : (sV ke km i s c).size = (sV ke km i s c).toList.length := by simp
 rw [e, sV_list, List.length_append, sV_kl hel hml]; rfl
theorem sV_sz (ke km : List Nat) (i : Int) {s c : Nat} (hel : ke.length = 16) (hml : km.length = 32) : (Tryd.prog.info? 32).map (·.size) = some (sV ke km i s c).size := by
 rw [sV_size ke km i hel hml]; kernel_rfl
theorem sV_one (ke km : List Nat) (i : Int) (s c : Nat) : ∀ v ∈ (sV ke km i s c).toList, v.oneCell' = true := fun v hv => by
  rw [sV_list] at hv
  rcases List.mem_append.1 hv with h | h
  · exact nv_one _ _ v h
  · simp [noV] at h
    rcases h with h | h | h <;> subst h <;> rfl
theorem szKs (ke km : List Nat) (hel : ke.length = 16) (hml : km.length = 32) : (Tryd.prog.info? 26).map (·.size) = some (nv .u8 (ke ++ km)).length := by rw [sV_kl hel hml]; kernel_rfl
variable {W : World} {g : Nat} {T : TypeId}
theorem sV_keys (hb : Blk W g T (sV ke km i s c)) (hel : ke.length = 16) (hml : km.length = 32) : W.rangeAt g 0 (nv .u8 (ke ++ km)) := by
 have h1 := hb.range 0 48
 rwa [List.drop_zero, sV_list, List.take_left' (sV_kl hel hml)] at h1
theorem sV_enc (hb : Blk W g T (sV ke km i s c)) (hel : ke.length = 16) (_hml : km.length = 32) : W.rangeAt g 0 (nv .u8 ke) := by
 have h1 := hb.range 0 16
 rwa [List.drop_zero, sV_list, ← nv_app, List.append_assoc, List.take_left' (by rw [nv_len, hel])] at h1
theorem sV_mac (hb : Blk W g T (sV ke km i s c)) (hel : ke.length = 16) (hml : km.length = 32) : W.rangeAt g 16 (nv .u8 km) := by
 have h1 := hb.range 16 32
 rwa [sV_list, ← nv_app, List.append_assoc, List.drop_left' (by rw [nv_len, hel]), List.take_left' (by rw [nv_len, hml])] at h1
theorem sV_get (hel : ke.length = 16) (hml : km.length = 32) (k : Nat) : (sV ke km i s c)[48 + k]? = (Value.int .i64 i :: (noV s c).toList)[k]? := by
 rw [← Array.getElem?_toList, sV_list, List.getElem?_append_right (by rw [sV_kl hel hml]; omega), sV_kl hel hml, Nat.add_sub_cancel_left]
theorem sV_idx (hb : Blk W g T (sV ke km i s c)) (hel : ke.length = 16) (hml : km.length = 32) : W.cell? ⟨g, 48, none⟩ = some (.int .i64 i) := hb.cellIs 48 (sV_get hel hml 0)
theorem sV_no (hb : Blk W g T (sV ke km i s c)) (hel : ke.length = 16) (hml : km.length = 32) : W.rangeAt g 49 (noV s c).toList := by
 have h1 := hb.range 49 2
 have e : ((sV ke km i s c).toList.drop 49).take 2 = (noV s c).toList := by
  rw [sV_list, show (49 : Nat) = 48 + 1 by rfl, ← List.drop_drop, List.drop_left' (sV_kl hel hml)]; rfl
 rwa [e] at h1
end
theorem smessage_to (m : List Nat) (i s c : Nat) (d : List Nat) (hm : msg i s c d = m) (hi : i < 4096) (hs : s < 4294967296) (hdl : d.length = 32) (hdb : Byt d) (w : World) :
  Calls Tryd.prog 9 #[.int .i64 (i : Int), .agg (noV s c), .agg (va .u8 d)] w fun e w' => ∃ g, e = .returned (.tuple #[.slice (some ⟨g, 0, none⟩) 48 48, .int .i64 0]) ∧ Blk w' g 5 (va .u8 m) ∧ w.heap.size ≤ g ∧ Below w.heap.size w w' := by
 subst hm; exact smessage_ok i s c d hi hs hdl hdb w
theorem mI_far (l : List Nat) (hl : l.length = 48) (hb : Byt l) (h : 4096 ≤ mI l) : 0 < l.getD 0 0 ∨ 0 < l.getD 1 0 ∨ 15 < l.getD 2 0 := by
 match l, hl with
 | a :: b :: c :: d :: r, _ =>
  have hd := hb d (by simp)
  simp only [mI, List.take_succ_cons, List.take_zero, beV, List.foldl_cons, List.foldl_nil, List.getD_cons_zero, List.getD_cons_succ] at h ⊢
  omega
theorem exec_cellA9 {P : Program} {w : World} {op : Oper} {a : Act} (ty : TypeId) (x : Operand) (ho : op.op = .load ty x) (ad : Addr) (hx : a.eval x = .pointer (some ad)) (v : Value) (d : TypeDesc)
  (hu : P.underlying ty = some d) (hd : (match d with | .struct _ | .array _ _ => true | _ => false) = false) (hc : w.cell? ad = some v) : (execOp a.eval op).run P w = .ok (.value v) w := by
 unfold execOp
 simp only [ho, hx, Instr.loadAt, Instr.sureAddr, Sem.run_bind, Sem.run_pure, Result.andThen_ok, run_loadVar_cell ty ad v d hu hd hc]
theorem Reads.numA {w : World} {B n : Nat} {ad : Addr} {k : IntKind} {l : List Nat} (h : Reads w B 1 (some ad) n (nv k l)) {i : Nat} (hi : i < n) : w.cell? (ad.add i) = some (.int k ((l.getD i 0 : Nat) : Int)) := by
 obtain ⟨ad', e, _, hc⟩ := h.num hi
 injection e with e
 subst e
 exact hc

end Go.Proofs.YtcfddmplnoknlaaDoor
namespace Go.Proofs.YtcfddmplnoknlaaDoor
set_option maxRecDepth 16384
open Go.RowKit Sh
section
variable {P : Program} {w : World}
end
theorem set_idx {W : World} {g : Nat} {T : TypeId} {ke km : List Nat} {i i2 : Int} {s c : Nat} (h : Blk W g T (sV ke km i s c)) (hel : ke.length = 16) (hml : km.length = 32) : Blk (W.setCell ⟨g, 48, none⟩ (.int .i64 i2)) g T (sV ke km i2 s c) := by
 have h1 := h.set_ 48 (.int .i64 i2)
 have e : (sV ke km i s c).setIfInBounds 48 (.int .i64 i2) = sV ke km i2 s c := by
  apply Array.toList_inj.1
  rw [Array.toList_setIfInBounds, sV_list, sV_list, List.set_append_right _ _ (by rw [sV_kl hel hml]; omega), sV_kl hel hml]; rfl
 rwa [e] at h1
theorem zv_S (w : World) : (zeroValue 32).run Tryd.prog w = .ok (.agg (sV (List.replicate 16 0) (List.replicate 32 0) 0 0 0)) w := by kernel_rfl
end Go.Proofs.YtcfddmplnoknlaaDoor
