/-
  Equality of structs, field by field.
-/
import Derived.Test.YtcdgcaljlmondaaDoorZ18
import Derived.Laws.StructEq
namespace Go.Proofs.YtcdgcaljlmondaaDoor
set_option maxRecDepth 16384
open Go.RowKit Sh
section
variable {P : Program} {w : World}
theorem run_part_row {e : TypeId} {xs : Array Value} {off n : Nat} {sub : List Value} {d : TypeDesc} (hu : P.underlying e = some d) (hd : (match d with | .struct _ | .array _ _ => true | _ => false) = true) (hi : (P.info? e).map (·.size) = some n) (hx : (xs.toList.drop off).take n = sub) (w : World) :
  (part e xs off).run P w = .ok (.agg sub.toArray) w := by
 subst hx
 have hl : xs.extract off (off + n) = ((xs.toList.drop off).take n).toArray := by
  apply Array.toList_inj.1
  rw [Array.toList_extract]
  simp [List.extract]
 cases hq : P.info? e with
 | none => simp [hq] at hi
 | some i =>
  have hs : i.size = n := by simpa [hq] using hi
  have hagg : ∀ w, (isAgg e).run P w = .ok true w := fun w => by
   unfold isAgg
   rw [Sem.run_bind, run_underlying hu w]
   cases d <;> simp_all
  simp [part, hagg, sizeOf, typeInfo, hq, hs, hl]
theorem eqF_cons {d : Nat} {xs ys : Array Value} {f : Field} {fs : List Field} {a b : Value} {r r2 : Bool} (hn : f.name ≠ "_") (ha : (part f.type xs f.offset).run P w = .ok a w) (hb : (part f.type ys f.offset).run P w = .ok b w)
  (he : (Op.equalIn d f.type a b).run P w = .ok r w) (h : (Op.eqFields d xs ys fs).run P w = .ok r2 w) : (Op.eqFields d xs ys (f :: fs)).run P w = .ok (r && r2) w := by
 rw [Op.eqFields, if_pos hn]
 simp only [Sem.run_bind, ha, hb, he, Result.andThen_ok]
 cases r with
 | true => simpa using h
 | false => simp
theorem eqF_nil {d : Nat} {xs ys : Array Value} : (Op.eqFields d xs ys []).run P w = .ok true w := by simp [Op.eqFields]
theorem eq_numsD {t e : TypeId} {k : IntKind} {n : Nat} (d : Nat) (hu : P.underlying t = some (.array n e)) (he : P.underlying e = some (.int k)) (hce : P.cellsOf e = 1) (hp : ∀ (w : World) (xs : Array Value) (o : Nat) (v : Value), xs[o]? = some v → (part e xs o).run P w = .ok v w)
  (l m : List Nat) (hl : l.length = n) (hm : m.length = n) (w : World) : (Op.equalIn (d + 2) t (.agg (va k l)) (.agg (va k m))).run P w = .ok (decide (l = m)) w := by
 obtain ⟨i, hi⟩ := info_of_underlying he
 rw [run_equalIn_array w (d + 1) _ _ hu hi, eqItems_nums d he l m (by omega) hce (hp w) _ (fun i hi => by rw [hl]; exact List.mem_range.1 hi), all_range_getD l m n hl hm]
end
theorem eq_bytesD (d : Nat) (t : TypeId) (n : Nat) (hu : Tryd.prog.underlying t = some (.array n 5)) (l m : List Nat) (hl : l.length = n) (hm : m.length = n) (w : World) :
  (Op.equalIn (d + 2) t (.agg (va .u8 l)) (.agg (va .u8 m))).run Tryd.prog w = .ok (decide (l = m)) w :=
 eq_numsD d hu (by kernel_rfl) (by kernel_rfl) part_u8 l m hl hm w
end Go.Proofs.YtcdgcaljlmondaaDoor
/-
  Decryption inverts encryption, and the other way round, plainly.
-/
namespace Go.Proofs.YtcdgcaljlmondaaDoor.Ci
set_option maxRecDepth 16384

theorem addK_twice {x : List Nat} (k : List Nat) (hx : x.length = 16) : addK (addK x k) k = x :=
 ext16 (addK_len _ _) hx fun i hi => by
  unfold addK
  rw [getD_range _ hi, getD_range _ hi, Nat.xor_assoc, Nat.xor_self, Nat.xor_zero]
theorem rot31 {x : List Nat} (hx : x.length = 16) : rot 3 (rot 1 x) = x :=
 ext16 (rot_len _ _) hx fun i hi => by
  unfold rot
  rw [getD_range _ hi, getD_range _ (by omega)]
  congr 1
  omega
theorem each_back_sub {x : List Nat} (hx : x.length = 16) (hb : Byt x) : each Gf.back (each Gf.sub x) = x :=
 ext16 (each_len _ _) hx fun i hi => by
  unfold each
  rw [getD_range _ hi, getD_range _ hi, Gf.back_sub _ (hb.get i)]
/-! columns -/
def line (f0 f1 f2 f3 p q s t : Nat) : Nat := Gf.gm f0 p ^^^ Gf.gm f1 q ^^^ Gf.gm f2 s ^^^ Gf.gm f3 t
theorem mixS_line (f0 f1 f2 f3 : Nat) (y : List Nat) (c r p q s t : Nat) (h0 : y.getD (4 * c + (r + 0) % 4) 0 = p) (h1 : y.getD (4 * c + (r + 1) % 4) 0 = q) (h2 : y.getD (4 * c + (r + 2) % 4) 0 = s) (h3 : y.getD (4 * c + (r + 3) % 4) 0 = t) :
  mixS [f0, f1, f2, f3] y c r 4 = line f0 f1 f2 f3 p q s t := by
 simp only [mixS]
 rw [h0, h1, h2, h3, Nat.zero_xor]
 rfl
theorem mix_lines (f0 f1 f2 f3 : Nat) (y : List Nat) (c : Nat) (hc : c < 4) (a0 a1 a2 a3 : Nat) (h0 : y.getD (4 * c) 0 = a0) (h1 : y.getD (4 * c + 1) 0 = a1) (h2 : y.getD (4 * c + 2) 0 = a2) (h3 : y.getD (4 * c + 3) 0 = a3) :
  (mix [f0, f1, f2, f3] y).getD (4 * c) 0 = line f0 f1 f2 f3 a0 a1 a2 a3 ∧ (mix [f0, f1, f2, f3] y).getD (4 * c + 1) 0 = line f0 f1 f2 f3 a1 a2 a3 a0 ∧
  (mix [f0, f1, f2, f3] y).getD (4 * c + 2) 0 = line f0 f1 f2 f3 a2 a3 a0 a1 ∧ (mix [f0, f1, f2, f3] y).getD (4 * c + 3) 0 = line f0 f1 f2 f3 a3 a0 a1 a2 := by
 have g : ∀ r, r < 4 → (mix [f0, f1, f2, f3] y).getD (4 * c + r) 0 = mixS [f0, f1, f2, f3] y c r 4 := fun r hr => by
  unfold mix
  rw [getD_range _ (by omega), show (4 * c + r) / 4 = c from by omega, show (4 * c + r) % 4 = r from by omega]
 exact ⟨(g 0 (by omega)).trans (mixS_line _ _ _ _ y c 0 _ _ _ _ h0 h1 h2 h3), (g 1 (by omega)).trans (mixS_line _ _ _ _ y c 1 _ _ _ _ h1 h2 h3 h0),
  (g 2 (by omega)).trans (mixS_line _ _ _ _ y c 2 _ _ _ _ h2 h3 h0 h1), (g 3 (by omega)).trans (mixS_line _ _ _ _ y c 3 _ _ _ _ h3 h0 h1 h2)⟩
theorem mix_inv (f0 f1 f2 f3 g0 g1 g2 g3 : Nat) (h : ∀ p q s t, p < 256 → q < 256 → s < 256 → t < 256 → line g0 g1 g2 g3 (line f0 f1 f2 f3 p q s t) (line f0 f1 f2 f3 q s t p) (line f0 f1 f2 f3 s t p q) (line f0 f1 f2 f3 t p q s) = p)
    {x : List Nat} (hx : x.length = 16) (hb : Byt x) : mix [g0, g1, g2, g3] (mix [f0, f1, f2, f3] x) = x :=
  ext16 (mix_len _ _) hx fun i hi => by
    obtain ⟨c, r, hc, hr, rfl⟩ : ∃ c r, c < 4 ∧ r < 4 ∧ i = 4 * c + r := ⟨i / 4, i % 4, by omega, by omega, by omega⟩
    obtain ⟨e0, e1, e2, e3⟩ := mix_lines f0 f1 f2 f3 x c hc _ _ _ _ rfl rfl rfl rfl
    obtain ⟨d0, d1, d2, d3⟩ := mix_lines g0 g1 g2 g3 (mix [f0, f1, f2, f3] x) c hc _ _ _ _ e0 e1 e2 e3
    have b0 := hb.get (4 * c)
    have b1 := hb.get (4 * c + 1)
    have b2 := hb.get (4 * c + 2)
    have b3 := hb.get (4 * c + 3)
    rcases r with _ | _ | _ | _ | r
    · exact d0.trans (h _ _ _ _ b0 b1 b2 b3)
    · exact d1.trans (h _ _ _ _ b1 b2 b3 b0)
    · exact d2.trans (h _ _ _ _ b2 b3 b0 b1)
    · exact d3.trans (h _ _ _ _ b3 b0 b1 b2)
    · omega
theorem parts (f0 f1 f2 f3 g0 g1 g2 g3 p q s t : Nat) : line g0 g1 g2 g3 (line f0 f1 f2 f3 p q s t) (line f0 f1 f2 f3 q s t p) (line f0 f1 f2 f3 s t p q) (line f0 f1 f2 f3 t p q s) =
  (Gf.gm g0 (Gf.gm f0 p) ^^^ Gf.gm g1 (Gf.gm f3 p) ^^^ Gf.gm g2 (Gf.gm f2 p) ^^^ Gf.gm g3 (Gf.gm f1 p)) ^^^ (Gf.gm g0 (Gf.gm f1 q) ^^^ Gf.gm g1 (Gf.gm f0 q) ^^^ Gf.gm g2 (Gf.gm f3 q) ^^^ Gf.gm g3 (Gf.gm f2 q)) ^^^
  (Gf.gm g0 (Gf.gm f2 s) ^^^ Gf.gm g1 (Gf.gm f1 s) ^^^ Gf.gm g2 (Gf.gm f0 s) ^^^ Gf.gm g3 (Gf.gm f3 s)) ^^^ (Gf.gm g0 (Gf.gm f3 t) ^^^ Gf.gm g1 (Gf.gm f2 t) ^^^ Gf.gm g2 (Gf.gm f1 t) ^^^ Gf.gm g3 (Gf.gm f0 t)) := by
 simp only [line, Gf.gm_right]
 ac_rfl
def quad (a b c d u v x y p : Nat) : Nat := Gf.gm a (Gf.gm u p) ^^^ Gf.gm b (Gf.gm v p) ^^^ Gf.gm c (Gf.gm x p) ^^^ Gf.gm d (Gf.gm y p)
theorem dp : ∀ p : Fin 256, quad 14 11 13 9 2 1 1 3 p.val = p.val := by decide +kernel
theorem dq : ∀ p : Fin 256, quad 14 11 13 9 3 2 1 1 p.val = 0 := by decide +kernel
theorem ds : ∀ p : Fin 256, quad 14 11 13 9 1 3 2 1 p.val = 0 := by decide +kernel
theorem dt : ∀ p : Fin 256, quad 14 11 13 9 1 1 3 2 p.val = 0 := by decide +kernel
theorem mix_back {x : List Nat} (hx : x.length = 16) (hb : Byt x) : mix [14, 11, 13, 9] (mix [2, 3, 1, 1] x) = x :=
 mix_inv _ _ _ _ _ _ _ _ (fun p q s t hp hq hs ht => by
  rw [parts]
  have h0 := dp ⟨p, hp⟩
  have h1 := dq ⟨q, hq⟩
  have h2 := ds ⟨s, hs⟩
  have h3 := dt ⟨t, ht⟩
  simp only [quad] at h0 h1 h2 h3
  rw [h0, h1, h2, h3]
  simp) hx hb
theorem decS_enc (L b : List Nat) (hL : Byt L) (hb : Byt b) : ∀ j, j ≤ 10 → decS L (enc L b) j = encS L b (10 - j)
  | 0, _ => rfl
  | j + 1, hj => by
    obtain ⟨k, hk⟩ : ∃ k, 10 - j = k + 1 := ⟨9 - j, by omega⟩
    have ih := decS_enc L b hL hb j (by omega)
    unfold decS
    rw [ih, hk, show 10 - (j + 1) = k from by omega]
    have hxl := encS_len L b k
    have hxb := encS_byt hL hb k
    have h1 : addK (encS L b (k + 1)) (ks L (k + 1)) = xR L b k := by rw [encS_next, addK_twice _ (xR_len L b k)]
    rw [h1]
    have h2 : (if k + 1 < 10 then mix [14, 11, 13, 9] (xR L b k) else xR L b k) = yR L b k := by
      unfold xR
      by_cases h : k + 1 < 10
      · rw [if_pos h, if_pos h, mix_back (yR_len L b k) (yR_byt L b k)]
      · rw [if_neg h, if_neg h]
    rw [h2]
    unfold yR
    rw [rot31 (each_len _ _), each_back_sub hxl hxb]
theorem dec_enc (L b : List Nat) (_ : L.length = 176) (hbl : b.length = 16) (hL : Byt L) (hb : Byt b) : dec L (enc L b) = b := by
 unfold dec
 rw [decS_enc L b hL hb 10 (by omega)]
 show addK (addK b (ks L 0)) (ks L 0) = b
 exact addK_twice _ hbl
end Go.Proofs.YtcdgcaljlmondaaDoor.Ci
