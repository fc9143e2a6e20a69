/-
  The walk of caissonlaw06.lives: the examples of the chapter hold.
-/
import Derived.Test.YtpcdckhabaoieaaCExam
import Derived.Test.YtpcdckhabaoieaaCExp
import Derived.Test.YtpcdckhabaoieaaRes
import Derived.Test.YtpcdckhabaoieaaCEq
namespace Go.Proofs.Ytpcdckhabaoieaa
open Go.RowKit

theorem enc_len (L b : List Nat) : (Ci.enc L b).length = 16 := Ci.encS_len L b 10
theorem enc_to (L b c : List Nat) (hLl : L.length = 176) (hbl : b.length = 16) (hL : Ci.Byt L) (hb : Ci.Byt b) (hc : Ci.enc L b = c) (w : World) :
    Calls Try.prog 19 #[.agg (va .u8 L), .agg (va .u8 b)] w fun e w' => e = .returned (.agg (va .u8 c)) ∧ Below w.heap.size w w' := by
  rw [← hc]; exact encrypt_any L b hLl hbl hL hb w
theorem risL_len (n : Nat) : (risL n).length = 16 := by simp [risL]
theorem risL_byt (n : Nat) : Ci.Byt (risL n) := Ci.byt_map fun _ _ => Nat.mod_lt _ (by omega)
theorem key0_byt : Ci.Byt key0 := by unfold Ci.Byt key0; decide
theorem blk0_byt : Ci.Byt blk0 := by unfold Ci.Byt blk0; decide

end Go.Proofs.Ytpcdckhabaoieaa

/-
  The reference's rounds, plainly: a matrix whose rows lie one behind the other.
-/
namespace Go.Proofs.Ytpcdckhabaoieaa.Ci

def T (j : Nat) : Nat := 4 * (j % 4) + j / 4
theorem T_lt {j : Nat} (h : j < 16) : T j < 16 := by unfold T; omega
theorem T_T {j : Nat} (h : j < 16) : T (T j) = j := by unfold T; omega
theorem T_at (c r : Nat) (hr : r < 4) : T (4 * c + r) = 4 * r + c := by unfold T; omega
theorem getD_range (f : Nat → Nat) {i : Nat} (hi : i < 16) : ((List.range 16).map f).getD i 0 = f i := by
  simp [List.getD_eq_getElem?_getD, hi]
/-- a block, by rows -/
def tr (x : List Nat) : List Nat := (List.range 16).map fun j => x.getD (T j) 0
theorem tr_len (x : List Nat) : (tr x).length = 16 := by simp [tr]
theorem tr_get (x : List Nat) {j : Nat} (hj : j < 16) : (tr x).getD j 0 = x.getD (T j) 0 := getD_range _ hj
def updT (f : Nat → Nat) (b : List Nat) (k : Nat) : List Nat := (List.range 16).map fun j => if T j < k then f (T j) else b.getD j 0
theorem updT_len (f : Nat → Nat) (b : List Nat) (k : Nat) : (updT f b k).length = 16 := by simp [updT]
theorem updT_get (f : Nat → Nat) (b : List Nat) (k : Nat) {j : Nat} (hj : j < 16) : (updT f b k).getD j 0 = if T j < k then f (T j) else b.getD j 0 := getD_range _ hj
theorem ext16 {a b : List Nat} (ha : a.length = 16) (hb : b.length = 16) (h : ∀ i, i < 16 → a.getD i 0 = b.getD i 0) : a = b := by
  apply List.ext_getElem (by omega)
  intro i h1 h2
  have := h i (by omega)
  simpa [List.getD_eq_getElem?_getD, h1, h2] using this
theorem set_get (l : List Nat) (p v i : Nat) (hi : i < l.length) : (l.set p v).getD i 0 = if p = i then v else l.getD i 0 := by
  simp only [List.getD_eq_getElem?_getD, List.getElem?_set]
  by_cases h : p = i
  · subst h; simp [hi]
  · simp [h]
theorem updT_zero (f : Nat → Nat) {b : List Nat} (hb : b.length = 16) : updT f b 0 = b :=
  ext16 (updT_len ..) hb fun i hi => by rw [updT_get _ _ _ hi]; simp
theorem updT_set (f : Nat → Nat) (b : List Nat) (k p v : Nat) (hk : k < 16) (hp : T k = p) (hv : f k = v) : (updT f b k).set p v = updT f b (k + 1) := by
  refine ext16 (by simp [updT_len]) (updT_len ..) fun i hi => ?_
  rw [set_get _ _ _ _ (by rw [updT_len]; exact hi), updT_get _ _ _ hi, updT_get _ _ _ hi]
  by_cases h : p = i
  · subst hp h
    rw [if_pos rfl, T_T hk, if_pos (by omega), hv]
  · have : T i ≠ k := fun e => h (by rw [← hp, ← e, T_T hi])
    rw [if_neg h]
    by_cases hl : T i < k
    · rw [if_pos hl, if_pos (by omega)]
    · rw [if_neg hl, if_neg (by omega)]
theorem updT_id (f : Nat → Nat) {b : List Nat} (hb : b.length = 16) (k : Nat) (h : ∀ i, i < 16 → f (T i) = b.getD i 0) : updT f b k = b :=
  ext16 (updT_len ..) hb fun i hi => by
    rw [updT_get _ _ _ hi]
    split
    · exact h i hi
    · rfl
theorem updT_all (f : Nat → Nat) (b x : List Nat) (h : ∀ i, i < 16 → f i = x.getD i 0) : updT f b 16 = tr x :=
  ext16 (updT_len ..) (tr_len _) fun i hi => by rw [updT_get _ _ _ hi, if_pos (T_lt hi), h _ (T_lt hi), tr_get _ hi]
theorem tr_tr {x : List Nat} (hx : x.length = 16) : tr (tr x) = x :=
  ext16 (tr_len _) hx fun i hi => by rw [tr_get _ hi, tr_get _ (T_lt hi), T_T hi]

/-- rows rotated, bytes replaced -/
def yR (L b : List Nat) (k : Nat) : List Nat := rot 1 (each Gf.sub (encS L b k))
def xR (L b : List Nat) (k : Nat) : List Nat := if k + 1 < 10 then mix [2, 3, 1, 1] (yR L b k) else yR L b k
theorem yR_len (L b : List Nat) (k : Nat) : (yR L b k).length = 16 := rot_len _ _
theorem xR_len (L b : List Nat) (k : Nat) : (xR L b k).length = 16 := by unfold xR; split; exact mix_len _ _; exact yR_len _ _ _
theorem yR_byt (L b : List Nat) (k : Nat) : Byt (yR L b k) := rot_byt (each_byt Gf.sub_lt _)
theorem xR_byt (L b : List Nat) (k : Nat) : Byt (xR L b k) := by
  unfold xR; split
  · exact mix_byt fac_byt (yR_byt L b k)
  · exact yR_byt L b k
theorem encS_next (L b : List Nat) (k : Nat) : encS L b (k + 1) = addK (xR L b k) (ks L (k + 1)) := rfl
theorem ks_get (L : List Nat) (k s : Nat) (hs : s < 16) : (ks L k).getD s 0 = L.getD (k * 16 + s) 0 := by
  unfold ks
  simp [List.getD_eq_getElem?_getD, List.getElem?_drop, hs]
theorem encS_get (L b : List Nat) (k s : Nat) (hs : s < 16) : (encS L b (k + 1)).getD s 0 = (xR L b k).getD s 0 ^^^ L.getD ((k + 1) * 16 + s) 0 := by
  rw [encS_next]; unfold addK; rw [getD_range _ hs, ks_get _ _ _ hs]
theorem encS_first (L b : List Nat) (s : Nat) (hs : s < 16) : (encS L b 0).getD s 0 = b.getD s 0 ^^^ L.getD s 0 := by
  show (addK b (ks L 0)).getD s 0 = _
  unfold addK; rw [getD_range _ hs, ks_get _ _ _ hs]; simp
/-- the matrix behind the substitution -/
theorem yR_get (L b : List Nat) (k r c : Nat) (hr : r < 4) (hc : c < 4) : (tr (yR L b k)).getD (4 * r + c) 0 = Gf.sub ((tr (encS L b k)).getD (4 * r + (c + r) % 4) 0) := by
  rw [tr_get _ (by omega), tr_get _ (by omega)]
  have e1 : T (4 * r + c) = 4 * c + r := T_at r c hc
  have e2 : T (4 * r + (c + r) % 4) = 4 * ((c + r) % 4) + r := T_at r _ (by omega)
  rw [e1, e2]
  unfold yR rot each
  rw [getD_range _ (by omega), getD_range _ (by omega)]
  have e3 : (4 * c + r) / 4 = c := by omega
  have e4 : (4 * c + r) % 4 = r := by omega
  rw [e3, e4, Nat.one_mul]
theorem sub_step (L b : List Nat) (k : Nat) (z : List Nat) (n r c : Nat) (hr : r < 4) (hc : c < 4) (hn : 4 * r + c = n) : upd (fun i => (tr (yR L b k)).getD i 0) z n |>.set n (Gf.sub ((tr (encS L b k)).getD (4 * r + (c + r) % 4) 0)) |> (· = upd (fun i => (tr (yR L b k)).getD i 0) z (n + 1)) := by
  rw [← yR_get L b k r c hr hc, hn]
  exact upd_set _ _ _
theorem sub_all (L b : List Nat) (k : Nat) (z : List Nat) (hz : z.length = 16) : upd (fun i => (tr (yR L b k)).getD i 0) z 16 = tr (yR L b k) := by
  rw [upd_all _ _ _ (by omega), hz]
  exact ext16 (by simp) (tr_len _) fun i hi => getD_range _ hi
theorem out_all (x z : List Nat) (hx : x.length = 16) (hz : z.length = 16) : upd (fun i => (tr x).getD (T i) 0) z 16 = x := by
  rw [upd_all _ _ _ (by omega), hz]
  exact ext16 (by simp) hx fun i hi => by rw [getD_range _ hi, tr_get _ (T_lt hi), T_T hi]

/-! the products with 1, 2 and 3 -/
theorem gm3 (a : Nat) : Gf.gm a 3 = Gf.gm a 2 ^^^ Gf.gm a 1 := by rw [show (3 : Nat) = 2 ^^^ 1 from rfl, Gf.gm_right]
theorem by3 (a : Nat) (h : a < 256) : Gf.gm 3 a = Gf.gm 2 a ^^^ a := by
  rw [Gf.gm_comm 3 a (by omega) h, gm3, Gf.gm_one a h, Gf.gm_comm a 2 h (by omega)]
theorem by1 (a : Nat) (h : a < 256) : Gf.gm 1 a = a := by rw [Gf.gm_comm 1 a (by omega) h, Gf.gm_one a h]
def dbl (a : Nat) : Nat := Gf.gm 2 a
theorem dbl_lt (a : Nat) : dbl a < 256 := Gf.gm_lt _ _ (by omega)
theorem mixS4 (y : List Nat) (c r p q s t : Nat) (h0 : y.getD (4 * c + (r + 0) % 4) 0 = p) (h1 : y.getD (4 * c + (r + 1) % 4) 0 = q) (h2 : y.getD (4 * c + (r + 2) % 4) 0 = s) (h3 : y.getD (4 * c + (r + 3) % 4) 0 = t) :
    mixS [2, 3, 1, 1] y c r 4 = Gf.gm 2 p ^^^ Gf.gm 3 q ^^^ Gf.gm 1 s ^^^ Gf.gm 1 t := by
  simp only [mixS]
  rw [h0, h1, h2, h3, Nat.zero_xor]
  rfl
theorem mix_at (y : List Nat) (hy : Byt y) (c : Nat) (hc : c < 4) (a0 a1 a2 a3 : Nat) (h0 : y.getD (4 * c) 0 = a0) (h1 : y.getD (4 * c + 1) 0 = a1) (h2 : y.getD (4 * c + 2) 0 = a2) (h3 : y.getD (4 * c + 3) 0 = a3) :
    (mix [2, 3, 1, 1] y).getD (4 * c) 0 = dbl a0 ^^^ dbl a1 ^^^ a1 ^^^ a2 ^^^ a3 ∧
    (mix [2, 3, 1, 1] y).getD (4 * c + 1) 0 = a0 ^^^ dbl a1 ^^^ dbl a2 ^^^ a2 ^^^ a3 ∧
    (mix [2, 3, 1, 1] y).getD (4 * c + 2) 0 = a0 ^^^ a1 ^^^ dbl a2 ^^^ dbl a3 ^^^ a3 ∧
    (mix [2, 3, 1, 1] y).getD (4 * c + 3) 0 = dbl a0 ^^^ a0 ^^^ a1 ^^^ a2 ^^^ dbl a3 := by
  have b0 : a0 < 256 := h0 ▸ hy.get _
  have b1 : a1 < 256 := h1 ▸ hy.get _
  have b2 : a2 < 256 := h2 ▸ hy.get _
  have b3 : a3 < 256 := h3 ▸ hy.get _
  have g : ∀ r, r < 4 → (mix [2, 3, 1, 1] y).getD (4 * c + r) 0 = mixS [2, 3, 1, 1] y c r 4 := fun r hr => by
    unfold mix
    rw [getD_range _ (by omega), show (4 * c + r) / 4 = c from by omega, show (4 * c + r) % 4 = r from by omega]
  have g0 := g 0 (by omega)
  rw [Nat.add_zero, mixS4 y c 0 a0 a1 a2 a3 h0 h1 h2 h3, by3 _ b1, by1 _ b2, by1 _ b3] at g0
  have g1 := g 1 (by omega)
  rw [mixS4 y c 1 a1 a2 a3 a0 h1 h2 h3 h0, by3 _ b2, by1 _ b3, by1 _ b0] at g1
  have g2 := g 2 (by omega)
  rw [mixS4 y c 2 a2 a3 a0 a1 h2 h3 h0 h1, by3 _ b3, by1 _ b0, by1 _ b1] at g2
  have g3 := g 3 (by omega)
  rw [mixS4 y c 3 a3 a0 a1 a2 h3 h0 h1 h2, by3 _ b0, by1 _ b1, by1 _ b2] at g3
  refine ⟨g0.trans ?_, g1.trans ?_, g2.trans ?_, g3.trans ?_⟩ <;> (unfold dbl; ac_rfl)
theorem n_at (g : Nat → Nat) (y : List Nat) (c i : Nat) (hc : c < 4) (hi : i < 4) : (updT g (tr y) (4 * c)).getD (4 * i + c) 0 = y.getD (4 * c + i) 0 := by
  have e : T (4 * i + c) = 4 * c + i := T_at i c hc
  rw [updT_get _ _ _ (by omega), if_neg (by omega), tr_get _ (by omega), e]
theorem n_done (g : Nat → Nat) (b : List Nat) (c r : Nat) (hc : c < 4) (hr : r < 4) : (updT g b (4 * c + 4)).getD (4 * r + c) 0 = g (4 * c + r) := by
  have e : T (4 * r + c) = 4 * c + r := T_at r c hc
  rw [updT_get _ _ _ (by omega), if_pos (by omega), e]
theorem set_col (g : Nat → Nat) (b : List Nat) (c v0 v1 v2 v3 : Nat) (hc : c < 4) (h0 : g (4 * c) = v0) (h1 : g (4 * c + 1) = v1) (h2 : g (4 * c + 2) = v2) (h3 : g (4 * c + 3) = v3) :
    ((((updT g b (4 * c)).set c v0).set (4 + c) v1).set (8 + c) v2).set (12 + c) v3 = updT g b (4 * c + 4) := by
  rw [updT_set g b (4 * c) c v0 (by omega) (by unfold T; omega) h0, updT_set g b (4 * c + 1) (4 + c) v1 (by omega) (by unfold T; omega) h1, updT_set g b (4 * c + 1 + 1) (8 + c) v2 (by omega) (by unfold T; omega) h2, updT_set g b (4 * c + 1 + 1 + 1) (12 + c) v3 (by omega) (by unfold T; omega) h3]
theorem dbl_hi : ∀ a : Fin 256, 127 < a.val → (2 * a.val) % 256 ^^^ 27 = dbl a.val := by decide +kernel
theorem dbl_lo : ∀ a : Fin 256, ¬ 127 < a.val → 2 * a.val = dbl a.val := by decide +kernel
end Go.Proofs.Ytpcdckhabaoieaa.Ci

/-
  The walk of caissonref06.double.
-/
namespace Go.Proofs.Ytpcdckhabaoieaa
open Go.RowKit

theorem double_any (a : Nat) (ha : a < 256) (w : World) :
    Calls Try.prog 45 #[.int .u8 (a : Int)] w fun e w' => e = .returned (.int .u8 ((Ci.dbl a : Nat) : Int)) ∧ w' = w := by
  by_cases h : 127 < a
  · have hI : 127 < (a : Int) := by omega
    have e := Ci.dbl_hi ⟨a, ha⟩ h
    simp only at e
    have e2 : bits .xor .u8 ((a : Int) * 2 % 256) 27 = ((Ci.dbl a : Nat) : Int) := by
      rw [show (a : Int) * 2 % 256 = ((2 * a % 256 : Nat) : Int) from by omega, show (27 : Int) = ((27 : Nat) : Int) from rfl, u8_xor_nat _ _ (by omega) (by omega), e]
    clear e
    go_enter Try.func45, Try.ntmps45
    go_wp2
    go_ret
    exact ⟨rfl, rfl⟩
  · have hI : ¬ 127 < (a : Int) := by omega
    have e := Ci.dbl_lo ⟨a, ha⟩ h
    simp only at e
    have e2 : (a : Int) * 2 = ((Ci.dbl a : Nat) : Int) := by omega
    clear e
    go_enter Try.func45, Try.ntmps45
    go_wp2
    go_ret
    exact ⟨rfl, rfl⟩
theorem double_to (a D : Nat) (ha : a < 256) (hD : Ci.dbl a = D) (w : World) :
    Calls Try.prog 45 #[.int .u8 (a : Int)] w fun e w' => e = .returned (.int .u8 (D : Int)) ∧ w = w' := by
  subst hD
  exact (double_any a ha w).mono fun _ _ h => ⟨h.1, h.2.symm⟩
end Go.Proofs.Ytpcdckhabaoieaa
