/-
  The walk of caissonlaw09.SealsChanged. (Printed by mkseal09c.py.)
-/
import Derived.Test.YtcfddmplnoknlaaDoorQSel6
import Derived.Deep.CutBlock
import Derived.Laws.StructEq
namespace Go.Proofs.YtcfddmplnoknlaaDoor
set_option maxRecDepth 16384
open Go.RowKit Sh
section
variable {P : Program} {w : World}
theorem run_part_row {e : TypeId} {xs : Array Value} {off n : Nat} {sub : List Value} {d : TypeDesc} (hu : P.underlying e = some d) (hd : (match d with | .struct _ | .array _ _ => true | _ => false) = true) (hi : (P.info? e).map (·.size) = some n) (hx : (xs.toList.drop off).take n = sub) (w : World) :
  (part e xs off).run P w = .ok (.agg sub.toArray) w := by
 subst hx
 have hl : xs.extract off (off + n) = ((xs.toList.drop off).take n).toArray := by
  apply Array.toList_inj.1
  rw [Array.toList_extract]
  simp [List.extract]
 cases hq : P.info? e with
 | none => simp [hq] at hi
 | some i =>
  have hs : i.size = n := by simpa [hq] using hi
  have hagg : ∀ w, (isAgg e).run P w = .ok true w := fun w => by
   unfold isAgg
   rw [Sem.run_bind, run_underlying hu w]
   cases d <;> simp_all
  simp [part, hagg, sizeOf, typeInfo, hq, hs, hl]
theorem eqF_cons {d : Nat} {xs ys : Array Value} {f : Field} {fs : List Field} {a b : Value} {r r2 : Bool} (hn : f.name ≠ "_") (ha : (part f.type xs f.offset).run P w = .ok a w) (hb : (part f.type ys f.offset).run P w = .ok b w)
  (he : (Op.equalIn d f.type a b).run P w = .ok r w) (h : (Op.eqFields d xs ys fs).run P w = .ok r2 w) : (Op.eqFields d xs ys (f :: fs)).run P w = .ok (r && r2) w := by
 rw [Op.eqFields, if_pos hn]
 simp only [Sem.run_bind, ha, hb, he, Result.andThen_ok]
 cases r with
 | true => simpa using h
 | false => simp
theorem eqF_nil {d : Nat} {xs ys : Array Value} : (Op.eqFields d xs ys []).run P w = .ok true w := by simp [Op.eqFields]
theorem eq_numsD {t e : TypeId} {k : IntKind} {n : Nat} (d : Nat) (hu : P.underlying t = some (.array n e)) (he : P.underlying e = some (.int k)) (hce : P.cellsOf e = 1) (hp : ∀ (w : World) (xs : Array Value) (o : Nat) (v : Value), xs[o]? = some v → (part e xs o).run P w = .ok v w)
  (l m : List Nat) (hl : l.length = n) (hm : m.length = n) (w : World) : (Op.equalIn (d + 2) t (.agg (va k l)) (.agg (va k m))).run P w = .ok (decide (l = m)) w := by
 obtain ⟨i, hi⟩ := info_of_underlying he
 rw [run_equalIn_array w (d + 1) _ _ hu hi, eqItems_nums d he l m (by omega) hce (hp w) _ (fun i hi => by rw [hl]; exact List.mem_range.1 hi), all_range_getD l m n hl hm]
end
theorem eq_bytesD (d : Nat) (t : TypeId) (n : Nat) (hu : Tryd.prog.underlying t = some (.array n 5)) (l m : List Nat) (hl : l.length = n) (hm : m.length = n) (w : World) :
  (Op.equalIn (d + 2) t (.agg (va .u8 l)) (.agg (va .u8 m))).run Tryd.prog w = .ok (decide (l = m)) w :=
 eq_numsD d hu (by kernel_rfl) (by kernel_rfl) part_u8 l m hl hm w
set_option maxHeartbeats 2000000 in
theorem eqKeys (ke km : List Nat) (hel : ke.length = 16) (hml : km.length = 32) (w : World) : (Op.equalIn 9999 26 (.agg (va .u8 (ke ++ km))) (.agg (va .u8 (ke ++ km)))).run Tryd.prog w = .ok true w := by
  have hv : (va .u8 (ke ++ km)).toList = nv .u8 (ke ++ km) := rfl
  have p0 := run_part_row (P := Tryd.prog) (e := 22) (xs := va .u8 (ke ++ km)) (off := 0) (n := 16) (sub := nv .u8 ke) Tryd.underlying22 rfl (by kernel_rfl) (by rw [hv, ← nv_app, List.drop_zero, List.take_left' (by rw [nv_len, hel])]) w
  have p1 := run_part_row (P := Tryd.prog) (e := 24) (xs := va .u8 (ke ++ km)) (off := 16) (n := 32) (sub := nv .u8 km) Tryd.underlying24 rfl (by kernel_rfl) (by rw [hv, ← nv_app, List.drop_left' (by rw [nv_len, hel]), List.take_of_length_le (by rw [nv_len, hml]; exact Nat.le_refl _)]) w
  have e0 := eq_bytesD 9996 22 16 Tryd.underlying22 ke ke hel hel w
  have e1 := eq_bytesD 9996 24 32 Tryd.underlying24 km km hml hml w
  rw [decide_eq_true rfl] at e0 e1
  rw [run_equalIn_struct w 9998 26 _ _ (by simp only [Program.fieldsOf, Tryd.underlying26]) (by kernel_rfl)]
  simp only [Program.fieldsOf, Tryd.underlying26, List.toList_toArray]
  rw [show Result.ok true w = Result.ok (true && (true && true)) w from rfl]
  refine eqF_cons ?_ p0 p0 e0 ?_
  · decide
  refine eqF_cons ?_ p1 p1 e1 eqF_nil
  decide
theorem eqNo9 (s c s2 c2 : Nat) (w : World) : (Op.equalIn 9999 30 (.agg (noV s c)) (.agg (noV s2 c2))).run Tryd.prog w = .ok (decide (s = s2 ∧ c = c2)) w := by
  unfold noV
  by_cases h1 : s = s2
  · subst h1
    by_cases h2 : c = c2
    · subst h2; go_simp
    · have h2I : ¬ (c : Int) = (c2 : Int) := by omega
      go_simp
  · have h1I : ¬ (s : Int) = (s2 : Int) := by omega
    go_simp
set_option maxHeartbeats 2000000 in
theorem eqS (ke km : List Nat) (hel : ke.length = 16) (hml : km.length = 32) (i i2 : Int) (s c s2 c2 : Nat) (r : Bool) (hr : (decide (i = i2) && decide (s = s2 ∧ c = c2)) = r) (w : World) :
    (Op.equalIn 10000 32 (.agg (sV ke km i s c)) (.agg (sV ke km i2 s2 c2))).run Tryd.prog w = .ok r w := by
  have p0 : ∀ (i : Int) (s c : Nat), (part 26 (sV ke km i s c) 0).run Tryd.prog w = .ok (.agg (va .u8 (ke ++ km))) w := fun i s c =>
    run_part_row (P := Tryd.prog) (n := 48) (sub := nv .u8 (ke ++ km)) Tryd.underlying26 rfl (by kernel_rfl) (by rw [List.drop_zero, sV_list, List.take_left' (sV_kl hel hml)]) w
  have p1 : ∀ (i : Int) (s c : Nat), (part 3 (sV ke km i s c) 48).run Tryd.prog w = .ok (.int .i64 i) w := fun i s c => run_part_plain w (by kernel_rfl) (sV_get hel hml 0)
  have p2 : ∀ (i : Int) (s c : Nat), (part 30 (sV ke km i s c) 49).run Tryd.prog w = .ok (.agg (noV s c)) w := fun i s c =>
    run_part_row (P := Tryd.prog) (n := 2) (sub := (noV s c).toList) Tryd.underlying30 rfl (by kernel_rfl) (by rw [sV_list, show (49 : Nat) = 48 + 1 by rfl, ← List.drop_drop, List.drop_left' (sV_kl hel hml)]; rfl) w
  have e1 : (Op.equalIn 9999 3 (.int .i64 i) (.int .i64 i2)).run Tryd.prog w = .ok (i == i2) w := run_equalIn_int w 9998 3 .i64 .i64 i i2 Tryd.underlying3
  have hr2 : (true && ((i == i2) && (decide (s = s2 ∧ c = c2) && true))) = r := by
    rw [← hr, Bool.true_and, Bool.and_true]; congr 1
  rw [run_equalIn_struct w 9999 32 _ _ (by simp only [Program.fieldsOf, Tryd.underlying32]) (by kernel_rfl)]
  simp only [Program.fieldsOf, Tryd.underlying32, List.toList_toArray]
  rw [← hr2]
  refine eqF_cons ?_ (p0 _ _ _) (p0 _ _ _) (eqKeys ke km hel hml w) ?_
  · decide
  refine eqF_cons ?_ (p1 _ _ _) (p1 _ _ _) e1 ?_
  · decide
  refine eqF_cons ?_ (p2 _ _ _) (p2 _ _ _) (eqNo9 s c s2 c2 w) eqF_nil
  decide
/-- one byte changed -/
theorem byt_set {l : List Nat} (h : Byt l) (k v : Nat) (hv : v < 256) : Byt (l.set k v) := fun x hx => by
  rcases List.mem_or_eq_of_mem_set hx with h1 | h1
  · exact h x h1
  · omega
theorem set_idx {W : World} {g : Nat} {T : TypeId} {ke km : List Nat} {i i2 : Int} {s c : Nat} (h : Blk W g T (sV ke km i s c)) (hel : ke.length = 16) (hml : km.length = 32) : Blk (W.setCell ⟨g, 48, none⟩ (.int .i64 i2)) g T (sV ke km i2 s c) := by
 have h1 := h.set_ 48 (.int .i64 i2)
 have e : (sV ke km i s c).setIfInBounds 48 (.int .i64 i2) = sV ke km i2 s c := by
  apply Array.toList_inj.1
  rw [Array.toList_setIfInBounds, sV_list, sV_list, List.set_append_right _ _ (by rw [sV_kl hel hml]; omega), sV_kl hel hml]; rfl
 rwa [e] at h1
theorem set_sh {W : World} {g : Nat} {T : TypeId} {ke km : List Nat} {i : Int} {s s2 c : Nat} (h : Blk W g T (sV ke km i s c)) (hel : ke.length = 16) (hml : km.length = 32) : Blk (W.setCell ⟨g, 49, none⟩ (.int .u32 (s2 : Int))) g T (sV ke km i s2 c) := by
 have h1 := h.set_ 49 (.int .u32 (s2 : Int))
 have e : (sV ke km i s c).setIfInBounds 49 (.int .u32 (s2 : Int)) = sV ke km i s2 c := by
  apply Array.toList_inj.1
  rw [Array.toList_setIfInBounds, sV_list, sV_list, List.set_append_right _ _ (by rw [sV_kl hel hml]; omega), sV_kl hel hml]; rfl
 rwa [e] at h1
theorem set_ct {W : World} {g : Nat} {T : TypeId} {ke km : List Nat} {i : Int} {s c c2 : Nat} (h : Blk W g T (sV ke km i s c)) (hel : ke.length = 16) (hml : km.length = 32) : Blk (W.setCell ⟨g, 50, none⟩ (.int .u64 (c2 : Int))) g T (sV ke km i s c2) := by
 have h1 := h.set_ 50 (.int .u64 (c2 : Int))
 have e : (sV ke km i s c).setIfInBounds 50 (.int .u64 (c2 : Int)) = sV ke km i s c2 := by
  apply Array.toList_inj.1
  rw [Array.toList_setIfInBounds, sV_list, sV_list, List.set_append_right _ _ (by rw [sV_kl hel hml]; omega), sV_kl hel hml]; rfl
 rwa [e] at h1
theorem zv_S (w : World) : (zeroValue 32).run Tryd.prog w = .ok (.agg (sV (List.replicate 16 0) (List.replicate 32 0) 0 0 0)) w := by kernel_rfl
end Go.Proofs.YtcfddmplnoknlaaDoor
