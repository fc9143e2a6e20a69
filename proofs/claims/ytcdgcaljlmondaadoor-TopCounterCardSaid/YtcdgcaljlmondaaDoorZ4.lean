/-
  Plain arithmetic of the field with 256 elements: products, powers, inverses, substitutes, and the product of coefficient lists. No program here.
-/
import Derived.Test.YtcdgcaljlmondaaDoorZ3
import Derived.BigRegion
import Derived.Deep.AppendLies
import Derived.StillTailTactics
import Derived.Deep.RegionWith
namespace Go.Proofs.YtcdgcaljlmondaaDoor.Gf
set_option maxRecDepth 16384
def invT : Nat := 3566776863222250792575350504665046155069508327501453217101429430621730038043584053371660509702620055860081156466022285956586373576971909210171343659649552507176508005971567067637526818336653057460235767741581454534757369738530565771380035673162616129401273381134793422969875859516904113580246491480877823305346558232134899738800022074717406919707935282309554844169982325935665249148669134080917255765422589041374844979786301241750162074905253618853420688398165348773793897399659421930346683507413494886767272566548764049417490863269423193139537759588741825434151586758978267398985919305201935175793127681620251050240
def subT : Nat := 2869618975290639062594974519597816386035077209210385677284518162336985023502962151465775969507961862820568736543004676439868535775640188584098917533413284844376797297285941524888791401501466624530423689326528054213168201056672989590893583853414110162539122864583953358348775951166211353578440977400428507475679327181038682772945817200201960445064847785221508011893952350688324234443749897213621340677040612747745615276448919507935121141307752692835344166708617454322778699219895865633266409040561742768581056182730443599545881830075941537620590442514083341749674612746994879540562701631131184186066652929592955206755
def backT : Nat := 15785769749828884342349381641981096363179738000380205650940338083111619982568718420166261191398703005748170232611805704157196303061330872280026969925224128193193768962594508714770967646139604422718174787315048227180018877623049221087186576642191304514338137614235628241783007805847129270530950856841486400764657112140097236091222567730363620332611309375046737430203438830593833719428588466121688739068564421474273450162064709239629809347626728710072303178617319436726577534667237755444692000788692193415136619289353224918429728194544458916874716857284226411602766869706570927007876872095880586785662942963508062062930
def xt (a : Nat) : Nat := (a * 2 % 256) ^^^ (a / 128 * 27)
def itx (a : Nat) : Nat → Nat
 | 0 => a
 | k + 1 => xt (itx a k)
def gmk (a b : Nat) : Nat → Nat
 | 0 => 0
 | k + 1 => if b.testBit k then gmk a b k ^^^ itx a k else gmk a b k
def gm (a b : Nat) : Nat := gmk a b 8

theorem xor4 (a b c d : Nat) : (a ^^^ b) ^^^ (c ^^^ d) = (a ^^^ c) ^^^ (b ^^^ d) := by
 rw [Nat.xor_assoc, Nat.xor_assoc]; congr 1
 rw [← Nat.xor_assoc, ← Nat.xor_assoc, Nat.xor_comm b c]

theorem mul27 (x y : Nat) (hx : x < 2) (hy : y < 2) : (x ^^^ y) * 27 = (x * 27) ^^^ (y * 27) := by
 have : x = 0 ∨ x = 1 := by omega
 have : y = 0 ∨ y = 1 := by omega
 rcases ‹x = 0 ∨ x = 1› with rfl | rfl <;> rcases ‹y = 0 ∨ y = 1› with rfl | rfl <;> rfl

theorem xt_lt (a : Nat) (ha : a < 256) : xt a < 256 := by
 unfold xt
 have h1 : a * 2 % 256 < 2 ^ 8 := Nat.mod_lt _ (by omega)
 have h2 : a / 128 * 27 < 2 ^ 8 := by omega
 exact Nat.xor_lt_two_pow h1 h2

theorem xt_xor (a b : Nat) (ha : a < 256) (hb : b < 256) : xt (a ^^^ b) = xt a ^^^ xt b := by
 unfold xt
 have e1 : (a ^^^ b) * 2 % 256 = (a * 2 % 256) ^^^ (b * 2 % 256) := by
  have h := @Nat.shiftLeft_xor_distrib 1 a b
  simp only [Nat.shiftLeft_eq] at h
  rw [show (a ^^^ b) * 2 = (a ^^^ b) * 2 ^ 1 from rfl, h]
  exact Nat.xor_mod_two_pow (n := 8)
 have e2 : (a ^^^ b) / 128 * 27 = (a / 128 * 27) ^^^ (b / 128 * 27) := by
  rw [show (128 : Nat) = 2 ^ 7 from rfl, Nat.xor_div_two_pow]
  exact mul27 _ _ (by omega) (by omega)
 rw [e1, e2, xor4]

theorem xor_lt (a b : Nat) (ha : a < 256) (hb : b < 256) : a ^^^ b < 256 := Nat.xor_lt_two_pow (n := 8) ha hb

theorem itx_lt (a k : Nat) (ha : a < 256) : itx a k < 256 := by
 induction k with
 | zero => exact ha
 | succ k ih => exact xt_lt _ ih

theorem itx_xor (a b k : Nat) (ha : a < 256) (hb : b < 256) : itx (a ^^^ b) k = itx a k ^^^ itx b k := by
 induction k with
 | zero => rfl
 | succ k ih => simp only [itx]; rw [ih, xt_xor _ _ (itx_lt _ _ ha) (itx_lt _ _ hb)]

theorem gmk_lt (a b k : Nat) (ha : a < 256) : gmk a b k < 256 := by
  induction k with
  | zero => simp [gmk]
  | succ k ih =>
    simp only [gmk]; split
    · exact xor_lt _ _ ih (itx_lt _ _ ha)
    · exact ih
theorem gm_lt (a b : Nat) (ha : a < 256) : gm a b < 256 := gmk_lt a b 8 ha

theorem gmk_left (a b c k : Nat) (ha : a < 256) (hb : b < 256) : gmk (a ^^^ b) c k = gmk a c k ^^^ gmk b c k := by
  induction k with
  | zero => simp [gmk]
  | succ k ih =>
    simp only [gmk]; split
    · rw [ih, itx_xor _ _ _ ha hb, xor4]
    · exact ih
theorem gm_left (a b c : Nat) (ha : a < 256) (hb : b < 256) : gm (a ^^^ b) c = gm a c ^^^ gm b c := gmk_left a b c 8 ha hb

theorem gmk_right (a b c k : Nat) : gmk a (b ^^^ c) k = gmk a b k ^^^ gmk a c k := by
  induction k with
  | zero => simp [gmk]
  | succ k ih =>
    simp only [gmk, Nat.testBit_xor, ih]
    cases b.testBit k <;> cases c.testBit k <;> simp
    · rw [Nat.xor_assoc]
    · rw [Nat.xor_assoc, Nat.xor_comm (gmk a c k), Nat.xor_assoc]
    · rw [show gmk a b k ^^^ itx a k ^^^ (gmk a c k ^^^ itx a k) = (gmk a b k ^^^ gmk a c k) ^^^ (itx a k ^^^ itx a k) from xor4 _ _ _ _, Nat.xor_self, Nat.xor_zero]
theorem gm_right (a b c : Nat) : gm a (b ^^^ c) = gm a b ^^^ gm a c := gmk_right a b c 8

/-- two linear functions on bytes that agree at the eight powers of two agree -/
theorem lin_ext (f g : Nat → Nat) (hf : ∀ a b, a < 256 → b < 256 → f (a ^^^ b) = f a ^^^ f b) (hg : ∀ a b, a < 256 → b < 256 → g (a ^^^ b) = g a ^^^ g b)
    (h : ∀ i, i < 8 → f (2 ^ i) = g (2 ^ i)) (a : Nat) (ha : a < 256) : f a = g a := by
  have h0 : f 0 = g 0 := by
    have h1 := hf 0 0 (by omega) (by omega); have h2 := hg 0 0 (by omega) (by omega)
    simp at h1 h2; rw [h1, h2]
  have key : ∀ n, n ≤ 8 → ∀ a, a < 2 ^ n → f a = g a := by
    intro n
    induction n with
    | zero => intro _ a ha; obtain rfl : a = 0 := by simpa using ha
              exact h0
    | succ n ih =>
      intro hn a ha
      by_cases hlt : a < 2 ^ n
      · exact ih (by omega) a hlt
      · have hp : 2 ^ (n + 1) = 2 ^ n + 2 ^ n := by rw [Nat.pow_succ]; omega
        have hb : 2 ^ n ≤ 2 ^ 7 := Nat.pow_le_pow_right (by omega) (by omega)
        have e : a = 2 ^ n ^^^ (a - 2 ^ n) := by
          have hlt' : a - 2 ^ n < 2 ^ n := by omega
          have := Nat.two_pow_add_eq_or_of_lt (i := n) hlt' 1
          apply Nat.eq_of_testBit_eq
          intro i
          have e2 : a = 2 ^ n + (a - 2 ^ n) := by omega
          rw [Nat.testBit_xor, Nat.testBit_two_pow]
          by_cases hi : n = i
          · subst hi
            have : (a - 2 ^ n).testBit n = false := Nat.testBit_lt_two_pow hlt'
            rw [this]; rw [e2, Nat.testBit_two_pow_add_eq, this]; simp
          · rw [e2]
            simp only [hi, decide_false, Bool.false_xor]
            rw [show 2 ^ n + (a - 2 ^ n) - 2 ^ n = a - 2 ^ n from by omega]
            have e3 : 2 ^ n + (a - 2 ^ n) = 2 ^ n ||| (a - 2 ^ n) := by simpa using this
            rw [e3, Nat.testBit_or, Nat.testBit_two_pow]; simp [hi]
        rw [e, hf _ _ (by omega) (by omega), hg _ _ (by omega) (by omega), h n (by omega), ih (by omega) _ (by omega)]
  exact key 8 (by omega) a ha

theorem bilin_ext (f g : Nat → Nat → Nat)
  (f1 : ∀ a b c, a < 256 → b < 256 → c < 256 → f (a ^^^ b) c = f a c ^^^ f b c) (f2 : ∀ a b c, a < 256 → b < 256 → c < 256 → f a (b ^^^ c) = f a b ^^^ f a c)
  (g1 : ∀ a b c, a < 256 → b < 256 → c < 256 → g (a ^^^ b) c = g a c ^^^ g b c) (g2 : ∀ a b c, a < 256 → b < 256 → c < 256 → g a (b ^^^ c) = g a b ^^^ g a c)
  (h : ∀ i, i < 8 → ∀ j, j < 8 → f (2 ^ i) (2 ^ j) = g (2 ^ i) (2 ^ j)) (a b : Nat) (ha : a < 256) (hb : b < 256) : f a b = g a b := by
 refine lin_ext (fun a => f a b) (fun a => g a b) (fun x y hx hy => f1 x y b hx hy hb) (fun x y hx hy => g1 x y b hx hy hb) (fun i hi => ?_) a ha
 have hp : (2 : Nat) ^ i < 256 := by have := Nat.pow_le_pow_right (n := 2) (by omega) (show i ≤ 7 by omega); omega
 exact lin_ext (fun b => f (2 ^ i) b) (fun b => g (2 ^ i) b) (fun x y hx hy => f2 _ x y hp hx hy) (fun x y hx hy => g2 _ x y hp hx hy) (fun j hj => h i hi j hj) b hb

theorem gm_comm (a b : Nat) (ha : a < 256) (hb : b < 256) : gm a b = gm b a :=
 bilin_ext gm (fun a b => gm b a) (fun a b c ha hb _ => gm_left a b c ha hb) (fun a b c _ _ _ => gm_right a b c) (fun a b c _ _ _ => gm_right c a b) (fun a b c _ hb hc => gm_left b c a hb hc)
  (by decide +kernel) a b ha hb

theorem gm_assoc (a b c : Nat) (ha : a < 256) (hb : b < 256) (hc : c < 256) : gm (gm a b) c = gm a (gm b c) := by
 have pw : ∀ i, i < 8 → (2 : Nat) ^ i < 256 := fun i hi => by have := Nat.pow_le_pow_right (n := 2) (by omega) (show i ≤ 7 by omega); omega
 refine lin_ext (fun a => gm (gm a b) c) (fun a => gm a (gm b c))
  (fun x y hx hy => by simp only [gm_left x y b hx hy, gm_left _ _ c (gm_lt x b hx) (gm_lt y b hy)]) (fun x y hx hy => gm_left x y _ hx hy) (fun i hi => ?_) a ha
 refine bilin_ext (fun b c => gm (gm (2 ^ i) b) c) (fun b c => gm (2 ^ i) (gm b c))
  (fun x y z hx hy _ => by simp only [gm_right, gm_left _ _ z (gm_lt _ x (pw i hi)) (gm_lt _ y (pw i hi))]) (fun x y z _ _ _ => by simp only [gm_right])
  (fun x y z hx hy _ => by simp only [gm_left x y z hx hy, gm_right]) (fun x y z _ _ _ => by simp only [gm_right]) (fun j hj k hk => ?_) b c hb hc
 revert k j i
 decide +kernel

theorem gm_one (a : Nat) (ha : a < 256) : gm a 1 = a :=
 lin_ext (fun a => gm a 1) (fun a => a) (fun x y hx hy => gm_left x y 1 hx hy) (fun _ _ _ _ => rfl) (by decide +kernel) a ha

theorem gm_zero_left (b : Nat) : gm 0 b = 0 := by
 have h := gm_left 0 0 b (by omega) (by omega)
 simpa using h
theorem gm_zero_right (a : Nat) : gm a 0 = 0 := by
 have h := gm_right a 0 0
 simpa using h
theorem one_gm (a : Nat) (ha : a < 256) : gm 1 a = a := by rw [gm_comm 1 a (by omega) ha, gm_one a ha]

/-! powers -/
def pw (a : Nat) : Nat → Nat
 | 0 => 1
 | k + 1 => gm (pw a k) a
theorem pw_lt (a k : Nat) (_ : a < 256) : pw a k < 256 := by
 induction k with
 | zero => simp [pw]
 | succ k ih => exact gm_lt _ _ ih
theorem pw_one (a : Nat) (ha : a < 256) : pw a 1 = a := by simp only [pw]; exact one_gm a ha
theorem pw_add (a m n : Nat) (ha : a < 256) : pw a (m + n) = gm (pw a m) (pw a n) := by
 induction n with
 | zero => simp only [pw, Nat.add_zero]; exact (gm_one _ (pw_lt a m ha)).symm
 | succ n ih =>
  show gm (pw a (m + n)) a = gm (pw a m) (gm (pw a n) a)
  rw [ih, gm_assoc _ _ _ (pw_lt a m ha) (pw_lt a n ha) ha]
theorem pw_gm (a k : Nat) (ha : a < 256) : pw (gm a a) k = pw a (2 * k) := by
 induction k with
 | zero => rfl
 | succ k ih =>
  show gm (pw (gm a a) k) (gm a a) = gm (gm (pw a (2 * k)) a) a
  rw [ih, gm_assoc _ _ _ (pw_lt a _ ha) ha ha]
/-- one step of the squares: an odd exponent -/
theorem sq_odd (o a k : Nat) (ho : o < 256) (ha : a < 256) (hk : k % 2 = 1) : gm (gm o a) (pw (gm a a) (k / 2)) = gm o (pw a k) := by
 rw [pw_gm a _ ha, gm_assoc o a _ ho ha (pw_lt a _ ha)]
 congr 1
 have e : k = 1 + 2 * (k / 2) := by omega
 conv => rhs; rw [e, pw_add a 1 _ ha, pw_one a ha]
theorem sq_even (o a k : Nat) (ha : a < 256) (hk : k % 2 = 0) : gm o (pw (gm a a) (k / 2)) = gm o (pw a k) := by
 rw [pw_gm a _ ha]; congr 2; omega

/-! the table of inverses -/
def inv (a : Nat) : Nat := (invT >>> (8 * a)) % 256
theorem inv_lt (a : Nat) : inv a < 256 := Nat.mod_lt _ (by omega)
theorem gm_inv (a : Nat) (h0 : a ≠ 0) (ha : a < 256) : gm a (inv a) = 1 := by
 have h : ∀ a, a < 256 → (a == 0 || gm a (inv a) == 1) = true := by decide +kernel
 have := h a ha
 simp [h0] at this; exact this
theorem gm_cancel (a b : Nat) (h0 : a ≠ 0) (ha : a < 256) (hb : b < 256) : gm (gm b a) (inv a) = b := by
 rw [gm_assoc _ _ _ hb ha (inv_lt a), gm_inv a h0 ha, gm_one b hb]
theorem inv_uniq (a b : Nat) (ha : a < 256) (hb : b < 256) (h : gm a b = 1) : b = inv a := by
 have h0 : a ≠ 0 := by rintro rfl; rw [gm_zero_left] at h; omega
 have e := gm_cancel a b h0 ha hb
 rw [gm_comm b a hb ha, h, one_gm _ (inv_lt a)] at e
 exact e.symm
theorem sq_lin (a b : Nat) (ha : a < 256) (hb : b < 256) : gm (a ^^^ b) (a ^^^ b) = gm a a ^^^ gm b b := by
 rw [gm_left a b _ ha hb, gm_right, gm_right, gm_comm b a hb ha, Nat.xor_assoc, ← Nat.xor_assoc (gm a b), Nat.xor_self, Nat.zero_xor]
def sqs (a : Nat) : Nat → Nat
 | 0 => a
 | k + 1 => gm (sqs a k) (sqs a k)
theorem sqs_lt (a k : Nat) (ha : a < 256) : sqs a k < 256 := by
 cases k with
 | zero => exact ha
 | succ k => exact gm_lt _ _ (sqs_lt a k ha)
theorem sqs_lin (k a b : Nat) (ha : a < 256) (hb : b < 256) : sqs (a ^^^ b) k = sqs a k ^^^ sqs b k := by
 induction k with
 | zero => rfl
 | succ k ih => simp only [sqs]; rw [ih, sq_lin _ _ (sqs_lt a k ha) (sqs_lt b k hb)]
theorem sqs_pw (a k : Nat) (ha : a < 256) : sqs a k = pw a (2 ^ k) := by
 induction k with
 | zero => exact (pw_one a ha).symm
 | succ k ih => simp only [sqs]; rw [ih, ← pw_add a _ _ ha]; congr 1; rw [Nat.pow_succ]; omega
theorem pw_256 (a : Nat) (ha : a < 256) : pw a 256 = a := by
 have h : sqs a 8 = a := lin_ext (fun a => sqs a 8) (fun a => a) (sqs_lin 8) (fun _ _ _ _ => rfl) (by decide +kernel) a ha
 rw [sqs_pw a 8 ha] at h; exact h
theorem pw_255 (a : Nat) (h0 : a ≠ 0) (ha : a < 256) : pw a 255 = 1 := by
 have h : gm (pw a 255) a = a := pw_256 a ha
 have e := gm_cancel a (pw a 255) h0 ha (pw_lt a _ ha)
 rw [h, gm_inv a h0 ha] at e
 exact e.symm
theorem pw_254 (a : Nat) (h0 : a ≠ 0) (ha : a < 256) : pw a 254 = inv a := by
 refine inv_uniq a _ ha (pw_lt a _ ha) ?_
 rw [gm_comm a _ ha (pw_lt a _ ha)]
 exact pw_255 a h0 ha
theorem pw_mod (a : Nat) (h0 : a ≠ 0) (ha : a < 256) (n : Nat) : pw a (n % 255) = pw a n := by
 have h : ∀ q r, pw a (255 * q + r) = pw a r := by
  intro q r
  induction q with
  | zero => simp
  | succ q ih =>
   rw [show 255 * (q + 1) + r = 255 + (255 * q + r) from by omega, pw_add a _ _ ha, pw_255 a h0 ha, one_gm _ (pw_lt a _ ha), ih]
 conv => rhs; rw [← Nat.div_add_mod n 255]
 rw [h]
/-- Power's value: 'a' any byte, 'n' any integer -/
def powZ (a : Nat) (n : Int) : Nat := if a = 0 then (if n = 0 then 1 else 0) else pw a (n % 255).toNat
theorem powZ_inv (a : Nat) (ha : a < 256) : powZ a 254 = inv a := by
  unfold powZ; split
  · rename_i h; subst h; rfl
  · exact pw_254 a ‹_› ha
theorem powZ_nat (a k : Nat) (ha : a < 256) : powZ a (k : Int) = pw a k := by
  unfold powZ; split
  · rename_i h; subst h
    cases k with
    | zero => rfl
    | succ k => rw [if_neg (by omega)]; simp only [pw]; rw [gm_zero_right]
  · rw [show ((k : Int) % 255).toNat = k % 255 from by omega, pw_mod a ‹_› ha]
/-! substitutes -/
def rotl8 (b i : Nat) : Nat := (b <<< i) % 256 ||| b >>> (8 - i)
def aff (b : Nat) : Nat := (b ^^^ rotl8 b 1 ^^^ rotl8 b 2 ^^^ rotl8 b 3 ^^^ rotl8 b 4) ^^^ 99
def sub (a : Nat) : Nat := (subT >>> (8 * a)) % 256
def back (a : Nat) : Nat := (backT >>> (8 * a)) % 256
theorem sub_lt (a : Nat) : sub a < 256 := Nat.mod_lt _ (by omega)
theorem sub_eq : ∀ a, a < 256 → aff (inv a) = sub a := by decide +kernel
theorem back_eq : ∀ a, a < 256 → inv (rotl8 (a ^^^ 99) 1 ^^^ rotl8 (a ^^^ 99) 3 ^^^ rotl8 (a ^^^ 99) 6) = back a := by decide +kernel
theorem back_sub : ∀ a, a < 256 → back (sub a) = a := by decide +kernel
/-! the reference's product -/
/-! powers of 3 -/
end Go.Proofs.YtcdgcaljlmondaaDoor.Gf
/-
  Walks through package fields: what Mul, Power, Inverse, Sub, Back return, for every byte.
-/
namespace Go.Proofs.YtcdgcaljlmondaaDoor
set_option maxRecDepth 16384
open Go.RowKit

theorem bit_test (b k : Nat) (hb : b < 256) : (bits BinOp.and IntKind.u8 ((b : Int) / 2 ^ k) 1 == 1) = b.testBit k := by
 have e : ((b : Int) / 2 ^ k) = ((b / 2 ^ k : Nat) : Int) := by
  rw [Int.natCast_ediv, Int.natCast_pow]; rfl
 have hlt : b / 2 ^ k < 256 := Nat.lt_of_le_of_lt (Nat.div_le_self _ _) hb
 rw [e, show (1 : Int) = ((1 : Nat) : Int) from rfl, u8_and_nat _ _ hlt (by omega), nat_mask1, Nat.testBit_eq_decide_div_mod_eq]
 rw [Bool.eq_iff_iff]; simp; omega

theorem dbl_eq (a : Nat) (ha : a < 256) : bits BinOp.xor IntKind.u8 ((a : Int) * 2 % 256) ((a : Int) / 128 * 27) = ((Gf.xt a : Nat) : Int) := by
 rw [show ((a : Int) * 2 % 256) = ((a * 2 % 256 : Nat) : Int) from by omega, show ((a : Int) / 128 * 27) = ((a / 128 * 27 : Nat) : Int) from by omega,
  u8_xor_nat _ _ (by omega) (by omega)]
 rfl

set_option maxHeartbeats 400000 in
theorem dbl_any (a : Nat) (ha : a < 256) (p : Addr) (w : World) (hc : w.cell? p = some (.int .u8 (a : Int))) (hf : w.frozen? p = false) :
  Calls Tryd.prog 80 #[.pointer (some p)] w fun e w' => e = .returned (.tuple #[]) ∧ w' = w.setCell p (.int .u8 (Gf.xt a : Nat)) := by
 have h0 : 0 ≤ (a : Int) := by omega
 have h1 : (a : Int) ≤ 255 := by omega
 go_enter Tryd.func80, Tryd.ntmps80
 go_wp2
 go_end0
 exact ⟨rfl, by rw [dbl_eq a ha]⟩

set_option maxHeartbeats 400000 in
theorem mul_nat (a b : Nat) (ha : a < 256) (hb : b < 256) (w : World) :
    Calls Tryd.prog 71 #[.int .u8 (a : Int), .int .u8 (b : Int)] w fun e w' => e = .returned (.int .u8 (Gf.gm a b : Nat)) ∧ Below w.heap.size w w' := by
  have h0 : 0 ≤ (b : Int) := by omega
  have h1 : (b : Int) ≤ 255 := by omega
  go_enter Tryd.func71, Tryd.ntmps71
  go_wp2
  go_loopw [5, 9] (fun o i wr => ∃ k : Nat, k ≤ 8 ∧ i = .int .i64 k ∧ o = .int .u8 (Gf.gmk a b k : Nat) ∧ wr = w.alloc (Obj.cells #[Value.int IntKind.u8 (Gf.itx a k : Nat)] 5)) (fun _ i _ => 8 - (intOf i).toNat)
  case atStart => exact ⟨0, by omega, rfl, rfl, rfl⟩
  case round =>
    obtain ⟨k, hk, rfl, rfl, rfl⟩ := hrel
    have hb0 := Gf.itx_lt a k ha
    have hg0 := Gf.gmk_lt a b k ha
    by_cases hlt : k < 8
    · have ht := bit_test b k hb
      cases hbit : b.testBit k
      all_goals
        rw [hbit] at ht
        have hm := Lib.hid hbit
        clear hbit
        go_wp2_with (go_at_call 80; refine (dbl_any (Gf.itx a k) hb0 _ _ (by go_simp) (by go_simp)).mono ?_; rintro e w' ⟨rfl, rfl⟩)
        go_roundw
        case rel => exact ⟨k + 1, by omega, by go_num, by simp only [Gf.gmk, hm.out]; first | rfl | (rw [u8_xor_nat _ _ hg0 hb0]; rfl), by first | rfl | (go_simp; done)⟩
        case measure => simp [intOf]; omega
    · obtain rfl : k = 8 := by omega
      go_wp2
      go_ret
      exact ⟨rfl, (Below.refl _ _).alloc (Nat.le_refl _) _⟩

end Go.Proofs.YtcdgcaljlmondaaDoor
/-
  Walks through package fields: Power, Inverse, Sub, Back, for every byte.
-/
namespace Go.Proofs.YtcdgcaljlmondaaDoor
set_option maxRecDepth 16384
open Go.RowKit

set_option maxHeartbeats 400000 in
theorem power_zero (n : Int) (w : World) :
    Calls Tryd.prog 37 #[.int .u8 0, .int .i64 n] w fun e w' => e = .returned (.int .u8 (Gf.powZ 0 n : Nat)) ∧ Below w.heap.size w w' := by
  by_cases hn : n = 0
  · subst hn
    go_enter Tryd.func37, Tryd.ntmps37
    go_wp2
    go_step3
    go_wp2
    try rw [Exit.noGoto_ret]
    go_ret
    exact ⟨rfl, Below.refl _ _⟩
  · have e : Gf.powZ 0 n = 0 := by unfold Gf.powZ; rw [if_pos rfl, if_neg hn]
    have h0 : (n == 0) = false := by simpa using hn
    rw [e]
    clear e hn
    go_enter Tryd.func37, Tryd.ntmps37
    go_wp2
    go_step3
    go_wp2
    try rw [Exit.noGoto_ret]
    go_ret
    exact ⟨rfl, Below.refl _ _⟩

set_option maxHeartbeats 400000 in
theorem power_some (a : Nat) (n : Int) (ha : a < 256) (ha0 : a ≠ 0) (w : World) :
    Calls Tryd.prog 37 #[.int .u8 (a : Int), .int .i64 n] w fun e w' => e = .returned (.int .u8 (Gf.powZ a n : Nat)) ∧ Below w.heap.size w w' := by
  have e : Gf.powZ a n = Gf.pw a (n % 255).toNat := by unfold Gf.powZ; rw [if_neg ha0]
  have h0 : ((a : Int) == 0) = false := by simp; omega
  rw [e]
  clear e
  have hdm := Int.mul_tdiv_add_tmod n 255
  have hlo : -255 < n.tmod 255 := Int.lt_tmod_of_pos n (by omega)
  have hhi : n.tmod 255 < 255 := Int.tmod_lt_of_pos n (by omega)
  obtain ⟨K, hK, hKb⟩ : ∃ K : Nat, (n % 255).toNat = K ∧ K < 255 := ⟨_, rfl, by omega⟩
  have hneg : n.tmod 255 < 0 → n.tmod 255 + 255 = (K : Int) := by omega
  have hpos : ¬ n.tmod 255 < 0 → n.tmod 255 = (K : Int) := by omega
  rw [hK]
  clear hK hdm
  have hw' := Lib.hid hneg
  have hp' := Lib.hid hpos
  clear hneg hpos
  by_cases hk : n.tmod 255 < 0
  all_goals
    go_enter Tryd.func37, Tryd.ntmps37
    go_wp2
    go_step3
    go_wp2
    go_step3
    go_wp2
    first | rw [hw'.out (by omega)] | rw [hp'.out (by omega)]
    clear hw' hp' hk hlo hhi
    go_loopw [0, 5, 6] (fun s k o wr => ∃ x y j : Nat, s = .int .u8 (x : Int) ∧ k = .int .i64 (j : Int) ∧ o = .int .u8 (y : Int) ∧ x < 256 ∧ y < 256 ∧ j < 255 ∧ Gf.gm y (Gf.pw x j) = Gf.pw a K ∧ Below w.heap.size w wr) (fun _ k _ _ => (intOf k).toNat)
    case atStart => exact ⟨a, 1, K, rfl, rfl, rfl, ha, by omega, hKb, Gf.one_gm _ (Gf.pw_lt a K ha), Below.refl _ _⟩
    case round =>
      obtain ⟨x, y, j, rfl, rfl, rfl, hx, hy, hj, hinv, hb⟩ := hrel
      have hinv' := Lib.hid hinv
      clear hinv
      by_cases hj0 : j = 0
      · subst hj0
        go_wp2
        try rw [Exit.noGoto_ret]
        go_ret
        exact ⟨ret_int (by rw [← hinv'.out]; simp only [Gf.pw]; rw [Gf.gm_one y hy]), hb⟩
      · have t0 : ((j : Int) == 0) = false := by simp; omega
        have hod := i64_odd j (by omega)
        by_cases hodd : j % 2 = 1
        · have t1 : (bits BinOp.and IntKind.i64 (j : Int) 1 == 1) = true := by rw [hod, hodd]; rfl
          have hi' : Gf.gm (Gf.gm y x) (Gf.pw (Gf.gm x x) (j / 2)) = Gf.pw a K := by rw [Gf.sq_odd y x j hy hx hodd]; exact hinv'.out
          have hi := Lib.hid hi'
          have ho := Lib.hid hodd
          clear hodd hod hi' hinv'
          go_wp2_with fail
          refine (mul_nat y x hy hx _).mono ?_
          rintro e w1 ⟨rfl, hb1⟩
          go_wp2_with fail
          refine (mul_nat x x hx hx _).mono ?_
          rintro e w2 ⟨rfl, hb2⟩
          go_wp2
          go_roundw
          case rel => exact ⟨Gf.gm x x, Gf.gm y x, j / 2, rfl, by go_num, rfl, Gf.gm_lt _ _ hx, Gf.gm_lt _ _ hy, by omega, hi.out, (hb.trans (hb1.mono hb.size)).trans (hb2.mono (Nat.le_trans hb.size hb1.size))⟩
          case measure => simp [intOf]; omega
        · have t1 : (bits BinOp.and IntKind.i64 (j : Int) 1 == 1) = false := by rw [hod]; simp; omega
          have hi' : Gf.gm y (Gf.pw (Gf.gm x x) (j / 2)) = Gf.pw a K := by rw [Gf.sq_even y x j hx (by omega)]; exact hinv'.out
          have hi := Lib.hid hi'
          clear hodd hod hi' hinv'
          go_wp2_with fail
          refine (mul_nat x x hx hx _).mono ?_
          rintro e w2 ⟨rfl, hb2⟩
          go_wp2
          go_roundw
          case rel => exact ⟨Gf.gm x x, y, j / 2, rfl, by go_num, rfl, Gf.gm_lt _ _ hx, hy, by omega, hi.out, hb.trans (hb2.mono hb.size)⟩
          case measure => simp [intOf]; omega

/-- Power, for every byte and every int -/
theorem power_any (a n : Int) (c : Nat) (a0 : 0 ≤ a) (a1 : a ≤ 255) (hc : Gf.powZ a.toNat n = c) (w : World) :
    Calls Tryd.prog 37 #[.int .u8 a, .int .i64 n] w fun e w' => e = .returned (.int .u8 (c : Int)) ∧ Below w.heap.size w w' := by
  obtain ⟨x, rfl⟩ := Int.eq_ofNat_of_zero_le a0
  rw [← hc]
  by_cases h : x = 0
  · subst h; exact power_zero n w
  · exact power_some x n (by omega) h w

set_option maxHeartbeats 400000 in
theorem inverse_any (a : Int) (c : Nat) (a0 : 0 ≤ a) (a1 : a ≤ 255) (hc : Gf.inv a.toNat = c) (w : World) :
  Calls Tryd.prog 66 #[.int .u8 a] w fun e w' => e = .returned (.int .u8 (c : Int)) ∧ Below w.heap.size w w' := by
 have hp : Gf.powZ a.toNat 254 = c := by rw [← hc]; exact Gf.powZ_inv _ (by omega)
 have hp' := Lib.hid hp
 clear hp hc
 go_enter Tryd.func66, Tryd.ntmps66
 go_wp2_with fail
 refine (power_any a 254 c a0 a1 hp'.out _).mono ?_
 rintro e w1 ⟨rfl, hb⟩
 go_wp2
 go_ret
 exact ⟨rfl, hb⟩

theorem rotl_eq (b i : Nat) (hb : b < 256) :
  bits BinOp.or IntKind.u8 ((b : Int) * 2 ^ i % 256) ((b : Int) / 2 ^ (8 - i)) = ((Gf.rotl8 b i : Nat) : Int) := by
 have e1 : ((b : Int) * 2 ^ i % 256) = ((b * 2 ^ i % 256 : Nat) : Int) := by
  rw [Int.natCast_emod, Int.natCast_mul, Int.natCast_pow]; rfl
 have e2 : ((b : Int) / 2 ^ (8 - i)) = ((b / 2 ^ (8 - i) : Nat) : Int) := by
  rw [Int.natCast_ediv, Int.natCast_pow]; rfl
 rw [e1, e2, u8_or_nat _ _ (Nat.mod_lt _ (by omega)) (Nat.lt_of_le_of_lt (Nat.div_le_self _ _) hb)]
 unfold Gf.rotl8
 rw [Nat.shiftLeft_eq, Nat.shiftRight_eq_div_pow]

set_option maxHeartbeats 400000 in
theorem rot8_any (b : Nat) (i : Nat) (hb : b < 256) (hi : i < 8) (w : World) :
  Calls Tryd.prog 67 #[.int .u8 (b : Int), .int .i64 (i : Int)] w fun e w' => e = .returned (.int .u8 (Gf.rotl8 b i : Nat)) ∧ w = w' := by
 have hand : bits .and .u64 (i : Int) 7 = (i : Int) := by
  rw [show (7 : Int) = ((7 : Nat) : Int) from rfl, u64_and_nat _ _ (by omega) (by omega), nat_mask3, Nat.mod_eq_of_lt hi]
 go_enter Tryd.func67, Tryd.ntmps67
 go_wp2
 go_ret
 exact ⟨ret_int (rotl_eq b i hb), rfl⟩

def afk (b : Nat) : Nat → Nat
 | 0 => b
 | k + 1 => afk b k ^^^ Gf.rotl8 b (k + 1)
theorem rotl8_lt (b i : Nat) (hb : b < 256) : Gf.rotl8 b i < 256 := by
 unfold Gf.rotl8
 exact Nat.or_lt_two_pow (n := 8) (Nat.mod_lt _ (by omega)) (Nat.lt_of_le_of_lt (by rw [Nat.shiftRight_eq_div_pow]; exact Nat.div_le_self _ _) hb)
theorem afk_lt (b k : Nat) (hb : b < 256) : afk b k < 256 := by
 induction k with
 | zero => exact hb
 | succ k ih => exact Gf.xor_lt _ _ ih (rotl8_lt _ _ hb)

set_option maxHeartbeats 400000 in
theorem sub_any (a : Int) (c : Nat) (a0 : 0 ≤ a) (a1 : a ≤ 255) (hc : Gf.sub a.toNat = c) (w : World) :
    Calls Tryd.prog 29 #[.int .u8 a] w fun e w' => e = .returned (.int .u8 (c : Int)) ∧ Below w.heap.size w w' := by
  have hb0 := Gf.inv_lt a.toNat
  have hc' : afk (Gf.inv a.toNat) 4 ^^^ 99 = c := by rw [← hc, ← Gf.sub_eq _ (by omega)]; rfl
  have hc2 := Lib.hid hc'
  clear hc' hc
  go_enter Tryd.func29, Tryd.ntmps29
  go_wp2_with fail
  refine (inverse_any a (Gf.inv a.toNat) a0 a1 rfl _).mono ?_
  rintro e w1 ⟨rfl, hb⟩
  generalize Gf.inv a.toNat = b at *
  go_wp2
  go_loopw [4, 5] (fun o i wr => ∃ k : Nat, k ≤ 4 ∧ i = .int .i64 ((k : Int) + 1) ∧ o = .int .u8 (afk b k : Nat) ∧ wr = w1) (fun _ i _ => 5 - (intOf i).toNat)
  case atStart => exact ⟨0, by omega, rfl, rfl, rfl⟩
  case round =>
    obtain ⟨k, hk, rfl, rfl, rfl⟩ := hrel
    have hg0 := afk_lt b k hb0
    by_cases hlt : k < 4
    · go_wp2_with fail
      refine (rot8_any b (k + 1) hb0 (by omega) _).mono ?_
      rintro e w2 ⟨rfl, rfl⟩
      go_wp2
      go_roundw
      case rel => exact ⟨k + 1, by omega, by go_num, by rw [u8_xor_nat _ _ hg0 (rotl8_lt _ _ hb0)]; rfl, by trivial⟩
      case measure => simp [intOf]; omega
    · obtain rfl : k = 4 := by omega
      go_wp2
      go_ret
      refine ⟨ret_int ?_, hb⟩
      rw [show (99 : Int) = ((99 : Nat) : Int) from rfl, u8_xor_nat _ _ hg0 (by omega), hc2.out]

set_option maxHeartbeats 400000 in
theorem back_any (a : Int) (c : Nat) (a0 : 0 ≤ a) (a1 : a ≤ 255) (hc : Gf.back a.toNat = c) (w : World) :
  Calls Tryd.prog 44 #[.int .u8 a] w fun e w' => e = .returned (.int .u8 (c : Int)) ∧ Below w.heap.size w w' := by
 obtain ⟨x, rfl⟩ := Int.eq_ofNat_of_zero_le a0
 have hx : x < 256 := by omega
 have hy := Gf.xor_lt x 99 hx (by omega)
 have hc' : Gf.inv (Gf.rotl8 (x ^^^ 99) 1 ^^^ Gf.rotl8 (x ^^^ 99) 3 ^^^ Gf.rotl8 (x ^^^ 99) 6) = c := by rw [← hc]; exact Gf.back_eq _ hx
 have hc2 := Lib.hid hc'
 clear hc' hc
 have e99 : bits .xor .u8 (x : Int) 99 = ((x ^^^ 99 : Nat) : Int) := u8_xor_nat x 99 hx (by omega)
 go_enter Tryd.func44, Tryd.ntmps44
 go_wp2_with fail
 generalize x ^^^ 99 = y at *
 clear e99
 refine (rot8_any y 1 hy (by omega) _).mono ?_
 rintro e w2 ⟨rfl, rfl⟩
 go_wp2_with fail
 refine (rot8_any y 3 hy (by omega) _).mono ?_
 rintro e w2 ⟨rfl, rfl⟩
 go_wp2_with fail
 refine (rot8_any y 6 hy (by omega) _).mono ?_
 rintro e w2 ⟨rfl, rfl⟩
 go_wp2_with fail
 have h1 := rotl8_lt y 1 hy
 have h3 := rotl8_lt y 3 hy
 have h6 := rotl8_lt y 6 hy
 rw [u8_xor_nat _ _ h1 h3, u8_xor_nat _ _ (Gf.xor_lt _ _ h1 h3) h6]
 refine (inverse_any _ c (by omega) (by have := Gf.xor_lt _ _ (Gf.xor_lt _ _ h1 h3) h6; omega) (by rw [Int.toNat_natCast]; exact hc2.out) _).mono ?_
 rintro e w2 ⟨rfl, hb⟩
 go_wp2
 go_ret
 exact ⟨rfl, hb⟩
end Go.Proofs.YtcdgcaljlmondaaDoor
/-
  The walk of caissonref05.Table: all substitutes.
-/
namespace Go.Proofs.YtcdgcaljlmondaaDoor
set_option maxRecDepth 16384
open Go.RowKit

theorem getD_set_eq {l : List Nat} {i v : Nat} (h : i < l.length) : (l.set i v).getD i 0 = v := by
 simp [List.getD_eq_getElem?_getD, h]
end Go.Proofs.YtcdgcaljlmondaaDoor
/-
  The functions of package fields, and of its reference, with results that the caller names.
-/
namespace Go.Proofs.YtcdgcaljlmondaaDoor
set_option maxRecDepth 16384
open Go.RowKit

theorem mul_to (a b c : Nat) (ha : a < 256) (hb : b < 256) (hc : Gf.gm a b = c) (w : World) :
  Calls Tryd.prog 71 #[.int .u8 (a : Int), .int .u8 (b : Int)] w fun e w' => e = .returned (.int .u8 (c : Int)) ∧ Below w.heap.size w w' := by
 rw [← hc]; exact mul_nat a b ha hb w
theorem power_to (a : Nat) (n : Int) (c : Nat) (ha : a < 256) (hc : Gf.powZ a n = c) (w : World) :
  Calls Tryd.prog 37 #[.int .u8 (a : Int), .int .i64 n] w fun e w' => e = .returned (.int .u8 (c : Int)) ∧ Below w.heap.size w w' :=
 power_any a n c (by omega) (by omega) hc w
theorem sub_to (a c : Nat) (ha : a < 256) (hc : Gf.sub a = c) (w : World) :
  Calls Tryd.prog 29 #[.int .u8 (a : Int)] w fun e w' => e = .returned (.int .u8 (c : Int)) ∧ Below w.heap.size w w' :=
 sub_any a c (by omega) (by omega) hc w
theorem back_to (a c : Nat) (ha : a < 256) (hc : Gf.back a = c) (w : World) :
  Calls Tryd.prog 44 #[.int .u8 (a : Int)] w fun e w' => e = .returned (.int .u8 (c : Int)) ∧ Below w.heap.size w w' :=
 back_any a c (by omega) (by omega) hc w
end Go.Proofs.YtcdgcaljlmondaaDoor
/-
  Plain words for ciphers: blocks as lists of 16 bytes.
-/
namespace Go.Proofs.YtcdgcaljlmondaaDoor.Ci
set_option maxRecDepth 16384

/-- a list whose first k elements are written anew -/
def upd (f : Nat → Nat) (b : List Nat) (k : Nat) : List Nat := (List.range b.length).map fun i => if i < k then f i else b.getD i 0
theorem upd_len (f : Nat → Nat) (b : List Nat) (k : Nat) : (upd f b k).length = b.length := by simp [upd]
theorem upd_get (f : Nat → Nat) (b : List Nat) (k i : Nat) (hi : i < b.length) : (upd f b k).getD i 0 = if i < k then f i else b.getD i 0 := by
 simp [upd, List.getD_eq_getElem?_getD, hi]
theorem upd_zero (f : Nat → Nat) (b : List Nat) : upd f b 0 = b := by
  apply List.ext_getElem
  · simp [upd]
  · intro i h1 h2
    simp [upd, List.getD_eq_getElem?_getD, h2]
theorem upd_set (f : Nat → Nat) (b : List Nat) (k : Nat) : (upd f b k).set k (f k) = upd f b (k + 1) := by
  apply List.ext_getElem
  · simp [upd]
  · intro i h1 h2
    have hi : i < b.length := by simpa [upd] using h2
    rw [List.getElem_set]
    by_cases e : k = i
    · subst e
      simp [upd]
    · rw [if_neg e]
      simp only [upd, List.getElem_map, List.getElem_range]
      by_cases h : i < k
      · rw [if_pos h, if_pos (by omega)]
      · rw [if_neg h, if_neg (by omega)]
theorem upd_all (f : Nat → Nat) (b : List Nat) (k : Nat) (hk : b.length ≤ k) : upd f b k = (List.range b.length).map f := by
 apply List.map_congr_left
 intro i hi
 rw [if_pos (by have := List.mem_range.1 hi; omega)]

/-- the steps of a round -/
def addK (b key : List Nat) : List Nat := (List.range 16).map fun i => b.getD i 0 ^^^ key.getD i 0
def each (s : Nat → Nat) (b : List Nat) : List Nat := (List.range 16).map fun i => s (b.getD i 0)
def rot (p : Nat) (b : List Nat) : List Nat := (List.range 16).map fun i => b.getD (4 * ((i / 4 + p * (i % 4)) % 4) + i % 4) 0
def mixS (f b : List Nat) (c r : Nat) : Nat → Nat
 | 0 => 0
 | j + 1 => mixS f b c r j ^^^ Gf.gm (f.getD j 0) (b.getD (4 * c + (r + j) % 4) 0)
def mix (f b : List Nat) : List Nat := (List.range 16).map fun i => mixS f b (i / 4) (i % 4) 4

def Byt (l : List Nat) : Prop := ∀ x ∈ l, x < 256
theorem Byt.get {l : List Nat} (h : Byt l) (i : Nat) : l.getD i 0 < 256 := by
  rw [List.getD_eq_getElem?_getD]
  rcases Nat.lt_or_ge i l.length with hi | hi
  · rw [List.getElem?_eq_getElem hi]; exact h _ (List.getElem_mem hi)
  · rw [List.getElem?_eq_none hi]; simp
theorem byt_map {f : Nat → Nat} {n : Nat} (h : ∀ i, i < n → f i < 256) : Byt ((List.range n).map f) := by
 intro x hx
 obtain ⟨i, hi, rfl⟩ := List.mem_map.1 hx
 exact h i (List.mem_range.1 hi)
theorem addK_byt {b k : List Nat} (hb : Byt b) (hk : Byt k) : Byt (addK b k) := byt_map fun i _ => Nat.xor_lt_two_pow (n := 8) (hb.get i) (hk.get i)
theorem rot_byt {p : Nat} {b : List Nat} (hb : Byt b) : Byt (rot p b) := byt_map fun _i _ => hb.get _
theorem addK_len (b k : List Nat) : (addK b k).length = 16 := by simp [addK]
theorem each_len (s : Nat → Nat) (b : List Nat) : (each s b).length = 16 := by simp [each]
theorem rot_len (p : Nat) (b : List Nat) : (rot p b).length = 16 := by simp [rot]
theorem mix_len (f b : List Nat) : (mix f b).length = 16 := by simp [mix]
theorem mixS_lt (f b : List Nat) (hf : Byt f) (hb : Byt b) (c r : Nat) : ∀ j, mixS f b c r j < 256
 | 0 => by simp [mixS]
 | j + 1 => by
  unfold mixS
  exact Nat.xor_lt_two_pow (n := 8) (mixS_lt f b hf hb c r j) (Gf.gm_lt _ _ (hf.get j))
theorem mix_byt {f b : List Nat} (hf : Byt f) (hb : Byt b) : Byt (mix f b) := byt_map fun _i _ => mixS_lt f b hf hb _ _ 4
end Go.Proofs.YtcdgcaljlmondaaDoor.Ci
/-
  Walks through package ciphers: add, each, rotate, mix.
-/
namespace Go.Proofs.YtcdgcaljlmondaaDoor
set_option maxRecDepth 16384
open Go.RowKit

/-- a state's block behind a step, and everything below it as it was -/
structure StMem (S : Nat) (b : List Nat) (w wr : World) : Prop where
 s : Blk wr S 106 (va .u8 b)
 bel : Below S w wr

set_option maxHeartbeats 800000 in
theorem add_any (S : Nat) (b key : List Nat) (hbl : b.length = 16) (hkl : key.length = 16) (hb : Ci.Byt b) (hk : Ci.Byt key) (w : World) (hs : Blk w S 106 (va .u8 b)) :
    Calls Tryd.prog 40 #[.pointer (some ⟨S, 0, none⟩), .agg (va .u8 key)] w fun e w' => e = .returned (.tuple #[]) ∧ StMem S (Ci.addK b key) w w' := by
  have hlt := hs.lt
  have hm : StMem S (Ci.upd (fun i => b.getD i 0 ^^^ key.getD i 0) b 0) w (w.alloc (.cells (va .u8 key) 37)) := by
    rw [Ci.upd_zero]; exact ⟨hs.alloc _, (Below.refl _ _).alloc (by omega) _⟩
  have hkk : Blk (w.alloc (.cells (va .u8 key) 37)) w.heap.size 37 (va .u8 key) := Blk.new _ _ _
  have hmm := Lib.hid hm
  have hkh := Lib.hid hkk
  clear hs hm hkk
  go_enter Tryd.func40, Tryd.ntmps40
  go_wp2
  generalize w.alloc (.cells (va .u8 key) 37) = w1 at *
  go_loopw [5] (fun s wr => ∃ k : Nat, k ≤ 16 ∧ s = .int .i64 (k : Int) ∧ StMem S (Ci.upd (fun i => b.getD i 0 ^^^ key.getD i 0) b k) w wr ∧ Blk wr w.heap.size 37 (va .u8 key)) (fun s _ => 16 - (intOf s).toNat)
  case atStart => exact ⟨0, by omega, rfl, hmm.out, hkh.out⟩
  case round =>
    clear hmm hkh
    obtain ⟨k, hk16, rfl, hmem, hkey⟩ := hrel
    by_cases hlt : k < 16
    · have hltI : (k : Int) < 16 := by omega
      have hc := hmem.s.num (i := k) (by rw [Ci.upd_len]; omega)
      have hf := hmem.s.frozen k
      rw [Ci.upd_get _ _ _ _ (by omega), if_neg (by omega)] at hc
      have hc2 := hkey.num (i := k) (by omega)
      have hx := hb.get k
      have hy := hk.get k
      have hset := Lib.hid (Ci.upd_set (fun i => b.getD i 0 ^^^ key.getD i 0) b k)
      have hxy := Lib.hid (rfl : b.getD k 0 ^^^ key.getD k 0 = b.getD k 0 ^^^ key.getD k 0)
      have hmh := Lib.hid hmem
      have hkh := Lib.hid hkey
      clear hmem hkey
      obtain ⟨x, hxe⟩ : ∃ x, b.getD k 0 = x := ⟨_, rfl⟩
      obtain ⟨y, hye⟩ : ∃ y, key.getD k 0 = y := ⟨_, rfl⟩
      rw [hxe] at hc hx
      rw [hye] at hc2 hy
      have hxe' := Lib.hid hxe
      have hye' := Lib.hid hye
      have hxr : bits BinOp.xor IntKind.u8 (x : Int) (y : Int) = ((x ^^^ y : Nat) : Int) := u8_xor_nat x y hx hy
      clear hxe hye hxy
      go_wp2
      refine wp_region_still_tail 13 (by kernel_rfl) (by kernel_rfl) ?_
      simp only [List.take_succ_cons, List.take_zero, List.drop_succ_cons, List.drop_zero]
      change wpStill _ _ wr.drew _ _ _
      iterate 13 still_step
      refine wpStill_nil ?_
      change wpList _ _ _ _ _ wr.drew
      go_wp2
      go_roundw
      case rel =>
        refine ⟨k + 1, by omega, by go_num, ⟨?_, (below_drewN hmh.out.bel 1).setCell (Nat.le_refl _) _⟩, ?_⟩
        · rw [← hset.out, hxe'.out, hye'.out]
          have := hmh.out.s.drew.setNum k (x ^^^ y)
          first | exact this | simpa using this
        · exact hkh.out.drew.far (by simp; omega) _
      case measure => simp [intOf]; omega
    · obtain rfl : k = 16 := by omega
      go_wp2
      go_end0
      refine ⟨rfl, ?_, hmem.bel⟩
      have := hmem.s
      rw [Ci.upd_all _ _ _ (by omega), hbl] at this
      exact this
end Go.Proofs.YtcdgcaljlmondaaDoor
/-
  Walks through package ciphers: each, with Sub and with Back.
-/
namespace Go.Proofs.YtcdgcaljlmondaaDoor
set_option maxRecDepth 16384
open Go.RowKit

set_option maxHeartbeats 800000 in
theorem each_sub (S : Nat) (b : List Nat) (hbl : b.length = 16) (hb : Ci.Byt b) (w : World) (hs : Blk w S 106 (va .u8 b)) :
    Calls Tryd.prog 43 #[.pointer (some ⟨S, 0, none⟩), .func (.func 29) #[] #[]] w fun e w' => e = .returned (.tuple #[]) ∧ StMem S (Ci.each Gf.sub b) w w' := by
  have hlt0 := hs.lt
  have hm : StMem S (Ci.upd (fun i => Gf.sub (b.getD i 0)) b 0) w w := by
    rw [Ci.upd_zero]; exact ⟨hs, Below.refl _ _⟩
  have hmm := Lib.hid hm
  have hsz0 : (Tryd.prog.info? 37).map (·.size) = some (va .u8 b).size := by rw [va_size, hbl]; kernel_rfl
  have hsz := Lib.hid hsz0
  obtain ⟨ie, hie, _, his, _⟩ := info_parts byte_info
  have hix : ∀ (k : Nat) (W : World), k < 16 → (Instr.index 37 (.agg (va .u8 b)) (.int .i64 (k : Int))).run Tryd.prog W = .ok (.int .u8 ((b.getD k 0 : Nat) : Int)) W := fun k W hk => run_index_num Tryd.underlying37 Tryd.underlying5 hie his hbl hk W
  have hixh := Lib.hid hix
  have hsh := Lib.hid hs
  clear hm hsz0 hix hs
  go_enter Tryd.func43, Tryd.ntmps43
  go_wp2_with (refine wpList_load_row rfl 37 (.tmp 8) rfl S rfl 106 (va .u8 b) (0, 0) _ hsh.out Tryd.underlying37 rfl hsz.out ?_)
  go_loopw [10] (fun s wr => ∃ k : Nat, k ≤ 16 ∧ s = .int .i64 (k : Int) ∧ StMem S (Ci.upd (fun i => Gf.sub (b.getD i 0)) b k) w wr) (fun s _ => 16 - (intOf s).toNat)
  case atStart => exact ⟨0, by omega, rfl, hmm.out⟩
  case round =>
    clear hmm
    obtain ⟨k, hk16, rfl, hmem⟩ := hrel
    by_cases hlt : k < 16
    · have hltI : (k : Int) < 16 := by omega
      have hrun := fun W => hixh.out k W hlt
      have hx := hb.get k
      have hset := Lib.hid (Ci.upd_set (fun i => Gf.sub (b.getD i 0)) b k)
      have hmh := Lib.hid hmem
      obtain ⟨x, hxe⟩ : ∃ x, b.getD k 0 = x := ⟨_, rfl⟩
      simp only [hxe] at hrun
      rw [hxe] at hx
      have hxe' := Lib.hid hxe
      clear hxe hmem
      go_wp2
      go_region_with (first
        | (go_at_call 29
           refine (sub_to x (Gf.sub x) hx rfl _).mono ?_
           rintro e w1 ⟨rfl, b1⟩
           have hS1 := Lib.hid (hmh.out.s.drew.below b1 hmh.out.s.lt)
           have hB1 := Lib.hid ((below_drewN hmh.out.bel 1).trans (b1.mono (Nat.le_of_lt hmh.out.s.lt)))
           have c1 := hS1.out.num (i := k) (by rw [Ci.upd_len]; omega)
           have f1 := hS1.out.frozen k
           clear b1))
      all_goals
        go_wp2
        go_roundw
      all_goals first
        | (refine ⟨k + 1, by omega, by go_num, ⟨?_, hB1.out.setCell (Nat.le_refl _) _⟩⟩
           rw [← hset.out, hxe'.out]
           exact hS1.out.setNum k (Gf.sub x))
        | (simp [intOf]; omega)
    · obtain rfl : k = 16 := by omega
      go_wp2
      go_end0
      refine ⟨rfl, ?_, hmem.bel⟩
      have := hmem.s
      rw [Ci.upd_all _ _ _ (by omega), hbl] at this
      exact this

set_option maxHeartbeats 800000 in
theorem each_back (S : Nat) (b : List Nat) (hbl : b.length = 16) (hb : Ci.Byt b) (w : World) (hs : Blk w S 106 (va .u8 b)) :
    Calls Tryd.prog 43 #[.pointer (some ⟨S, 0, none⟩), .func (.func 44) #[] #[]] w fun e w' => e = .returned (.tuple #[]) ∧ StMem S (Ci.each Gf.back b) w w' := by
  have hlt0 := hs.lt
  have hm : StMem S (Ci.upd (fun i => Gf.back (b.getD i 0)) b 0) w w := by
    rw [Ci.upd_zero]; exact ⟨hs, Below.refl _ _⟩
  have hmm := Lib.hid hm
  have hsz0 : (Tryd.prog.info? 37).map (·.size) = some (va .u8 b).size := by rw [va_size, hbl]; kernel_rfl
  have hsz := Lib.hid hsz0
  obtain ⟨ie, hie, _, his, _⟩ := info_parts byte_info
  have hix : ∀ (k : Nat) (W : World), k < 16 → (Instr.index 37 (.agg (va .u8 b)) (.int .i64 (k : Int))).run Tryd.prog W = .ok (.int .u8 ((b.getD k 0 : Nat) : Int)) W := fun k W hk => run_index_num Tryd.underlying37 Tryd.underlying5 hie his hbl hk W
  have hixh := Lib.hid hix
  have hsh := Lib.hid hs
  clear hm hsz0 hix hs
  go_enter Tryd.func43, Tryd.ntmps43
  go_wp2_with (refine wpList_load_row rfl 37 (.tmp 8) rfl S rfl 106 (va .u8 b) (0, 0) _ hsh.out Tryd.underlying37 rfl hsz.out ?_)
  go_loopw [10] (fun s wr => ∃ k : Nat, k ≤ 16 ∧ s = .int .i64 (k : Int) ∧ StMem S (Ci.upd (fun i => Gf.back (b.getD i 0)) b k) w wr) (fun s _ => 16 - (intOf s).toNat)
  case atStart => exact ⟨0, by omega, rfl, hmm.out⟩
  case round =>
    clear hmm
    obtain ⟨k, hk16, rfl, hmem⟩ := hrel
    by_cases hlt : k < 16
    · have hltI : (k : Int) < 16 := by omega
      have hrun := fun W => hixh.out k W hlt
      have hx := hb.get k
      have hset := Lib.hid (Ci.upd_set (fun i => Gf.back (b.getD i 0)) b k)
      have hmh := Lib.hid hmem
      obtain ⟨x, hxe⟩ : ∃ x, b.getD k 0 = x := ⟨_, rfl⟩
      simp only [hxe] at hrun
      rw [hxe] at hx
      have hxe' := Lib.hid hxe
      clear hxe hmem
      go_wp2
      go_region_with (first
        | (go_at_call 44
           refine (back_to x (Gf.back x) hx rfl _).mono ?_
           rintro e w1 ⟨rfl, b1⟩
           have hS1 := Lib.hid (hmh.out.s.drew.below b1 hmh.out.s.lt)
           have hB1 := Lib.hid ((below_drewN hmh.out.bel 1).trans (b1.mono (Nat.le_of_lt hmh.out.s.lt)))
           have c1 := hS1.out.num (i := k) (by rw [Ci.upd_len]; omega)
           have f1 := hS1.out.frozen k
           clear b1))
      all_goals
        go_wp2
        go_roundw
      all_goals first
        | (refine ⟨k + 1, by omega, by go_num, ⟨?_, hB1.out.setCell (Nat.le_refl _) _⟩⟩
           rw [← hset.out, hxe'.out]
           exact hS1.out.setNum k (Gf.back x))
        | (simp [intOf]; omega)
    · obtain rfl : k = 16 := by omega
      go_wp2
      go_end0
      refine ⟨rfl, ?_, hmem.bel⟩
      have := hmem.s
      rw [Ci.upd_all _ _ _ (by omega), hbl] at this
      exact this
end Go.Proofs.YtcdgcaljlmondaaDoor
/-
  Walks through package ciphers: rotate, by one place and by three.
-/
namespace Go.Proofs.YtcdgcaljlmondaaDoor
set_option maxRecDepth 16384
open Go.RowKit

def z16 : List Nat := List.replicate 16 0
theorem z16_len : z16.length = 16 := List.length_replicate ..
theorem zero16 (w : World) : (zeroValue 37).run Tryd.prog w = .ok (.agg (va .u8 z16)) w := by kernel_rfl

set_option maxRecDepth 8000 in
set_option maxHeartbeats 800000 in
theorem rotate1_any (S : Nat) (b : List Nat) (hbl : b.length = 16) (_hb : Ci.Byt b) (w : World) (hs : Blk w S 106 (va .u8 b)) :
    Calls Tryd.prog 42 #[.pointer (some ⟨S, 0, none⟩), .int .i64 1] w fun e w' => e = .returned (.tuple #[]) ∧ StMem S (Ci.rot 1 b) w w' := by
  have hlt0 := hs.lt
  have hm : StMem S (Ci.upd (fun i => b.getD (4 * ((i / 4 + 1 * (i % 4)) % 4) + i % 4) 0) b 0) w (w.alloc (.cells (va .u8 b) 37)) := by
    rw [Ci.upd_zero]; exact ⟨hs.alloc _, (Below.refl _ _).alloc (by omega) _⟩
  have hkk : Blk (w.alloc (.cells (va .u8 b) 37)) w.heap.size 37 (va .u8 b) := Blk.new _ _ _
  have hmm := Lib.hid hm
  have hkh := Lib.hid hkk
  have hsz0 : (Tryd.prog.info? 37).map (·.size) = some (va .u8 b).size := by rw [va_size, hbl]; kernel_rfl
  have hsz := Lib.hid hsz0
  have hvs : (va .u8 b).size = 16 := by rw [va_size, hbl]
  have hzv := zero16
  have hst := run_storeNew (P := Tryd.prog) w 37 (va .u8 z16) .u8 b (by rw [va_size, hbl, z16_len])
  have hsh := Lib.hid hs
  clear hm hkk hsz0 hs
  go_enter Tryd.func42, Tryd.ntmps42
  go_wp2_with (refine wpList_load_row rfl 37 (.tmp 9) rfl S rfl 106 (va .u8 b) (0, 0) _ hsh.out Tryd.underlying37 rfl hsz.out ?_)
  clear hst hvs hzv
  generalize w.alloc (.cells (va .u8 b) 37) = w1 at *
  go_loopw [11] (fun s wr => ∃ c : Nat, c ≤ 4 ∧ s = .int .i64 (c : Int) ∧ StMem S (Ci.upd (fun i => b.getD (4 * ((i / 4 + 1 * (i % 4)) % 4) + i % 4) 0) b (4 * c)) w wr ∧ Blk wr w.heap.size 37 (va .u8 b)) (fun s _ => 4 - (intOf s).toNat)
  case atStart => exact ⟨0, by omega, rfl, hmm.out, hkh.out⟩
  case round =>
    clear hmm hkh
    obtain ⟨c, hc4, rfl, hmem, hold⟩ := hrel
    by_cases hlc : c < 4
    · have hlcI : (c : Int) < 4 := by omega
      have hmm := Lib.hid hmem
      have hkh := Lib.hid hold
      clear hmem hold
      go_wp2
      go_loopw [14] (fun s wr => ∃ r : Nat, r ≤ 4 ∧ s = .int .i64 (r : Int) ∧ StMem S (Ci.upd (fun i => b.getD (4 * ((i / 4 + 1 * (i % 4)) % 4) + i % 4) 0) b (4 * c + r)) w wr ∧ Blk wr w.heap.size 37 (va .u8 b)) (fun s _ => 4 - (intOf s).toNat)
      case atStart => exact ⟨0, by omega, rfl, hmm.out, hkh.out⟩
      case round =>
        clear hmm hkh
        obtain ⟨r, hr4, rfl, hmem, hold⟩ := hrel
        by_cases hlr : r < 4
        · have hlrI : (r : Int) < 4 := by omega
          obtain ⟨q, hq⟩ : ∃ q, (c + r) % 4 = q := ⟨_, rfl⟩
          obtain ⟨j, hj⟩ : ∃ j, 4 * q + r = j := ⟨_, rfl⟩
          obtain ⟨i, hi⟩ : ∃ i, 4 * c + r = i := ⟨_, rfl⟩
          have hq4 : q < 4 := by omega
          have hj16 : j < 16 := by omega
          have hi16 : i < 16 := by omega
          have hqe : ((c : Int) + (r : Int)) % 4 = (q : Int) := by omega
          have hqt : ((c : Int) + (r : Int)).tmod 4 = (q : Int) := by rw [Int.tmod_eq_emod_of_nonneg (by omega)]; exact hqe
          have hjI : 4 * (q : Int) + (r : Int) = (j : Int) := by omega
          have hiI : 4 * (c : Int) + (r : Int) = (i : Int) := by omega
          have hj16I : (j : Int) < 16 := by omega
          have hi16I : (i : Int) < 16 := by omega
          have w1 : IntKind.i64.wrap ((r : Int)) = (r : Int) := IntWalk.i64_in _ (by omega)
          have w2 : IntKind.i64.wrap ((c : Int) + (r : Int)) = (c : Int) + (r : Int) := IntWalk.i64_in _ (by omega)
          have w4 : IntKind.i64.wrap (4 * (q : Int)) = 4 * (q : Int) := IntWalk.i64_in _ (by omega)
          have w5 : IntKind.i64.wrap (j : Int) = (j : Int) := IntWalk.i64_in _ (by omega)
          have w6 : IntKind.i64.wrap (4 * (c : Int)) = 4 * (c : Int) := IntWalk.i64_in _ (by omega)
          have w7 : IntKind.i64.wrap (i : Int) = (i : Int) := IntWalk.i64_in _ (by omega)
          rw [hi] at hmem
          have hfi : b.getD (4 * ((i / 4 + 1 * (i % 4)) % 4) + i % 4) 0 = b.getD j 0 := by
            have e1 : i / 4 = c := by omega
            have e2 : i % 4 = r := by omega
            rw [e1, e2]
            have e3 : (c + 1 * r) % 4 = q := by omega
            rw [e3, hj]
          have hc0 := hmem.s.num (i := i) (by rw [Ci.upd_len]; omega)
          have hf := hmem.s.frozen i
          have hc2 := hold.num (i := j) (by omega)
          have hset := Ci.upd_set (fun i => b.getD (4 * ((i / 4 + 1 * (i % 4)) % 4) + i % 4) 0) b i
          rw [hfi] at hset
          obtain ⟨x, hxe⟩ : ∃ x, b.getD j 0 = x := ⟨_, rfl⟩
          rw [hxe] at hc2 hset
          have hset' := Lib.hid hset
          have hih := Lib.hid hi
          have hmh := Lib.hid hmem
          have hkh := Lib.hid hold
          generalize (Ci.upd (fun i => b.getD (4 * ((i / 4 + 1 * (i % 4)) % 4) + i % 4) 0) b i).getD i 0 = y0 at *
          clear hmem hold hset hxe hi hj hq hfi
          go_wp2
          refine wp_region_still_tail 19 (by kernel_rfl) (by kernel_rfl) ?_
          simp only [List.take_succ_cons, List.take_zero, List.drop_succ_cons, List.drop_zero]
          change wpStill _ _ wr.drew _ _ _
          iterate 19 still_step
          refine wpStill_nil ?_
          change wpList _ _ _ _ _ wr.drew
          go_wp2
          go_roundw
          case rel =>
            refine ⟨r + 1, by omega, by go_num, ⟨?_, (below_drewN hmh.out.bel 1).setCell (Nat.le_refl _) _⟩, hkh.out.drew.far (by simp; omega) _⟩
            have e4 : 4 * c + (r + 1) = i + 1 := by rw [← hih.out]; omega
            rw [e4, ← hset'.out]
            exact hmh.out.s.drew.setNum i x
          case measure => simp [intOf]; omega
        · obtain rfl : r = 4 := by omega
          have hmm := Lib.hid hmem
          have hkh := Lib.hid hold
          clear hmem hold
          go_wp2
          go_roundw
          case rel => exact ⟨c + 1, by omega, by go_num, by rw [show 4 * (c + 1) = 4 * c + 4 from by omega]; exact hmm.out, hkh.out⟩
          case measure => simp [intOf]; omega
    · obtain rfl : c = 4 := by omega
      go_wp2
      go_end0
      refine ⟨rfl, ?_, hmem.bel⟩
      have := hmem.s
      rw [Ci.upd_all _ _ _ (by omega), hbl] at this
      exact this

set_option maxRecDepth 8000 in
set_option maxHeartbeats 800000 in
theorem rotate3_any (S : Nat) (b : List Nat) (hbl : b.length = 16) (_hb : Ci.Byt b) (w : World) (hs : Blk w S 106 (va .u8 b)) :
    Calls Tryd.prog 42 #[.pointer (some ⟨S, 0, none⟩), .int .i64 3] w fun e w' => e = .returned (.tuple #[]) ∧ StMem S (Ci.rot 3 b) w w' := by
  have hlt0 := hs.lt
  have hm : StMem S (Ci.upd (fun i => b.getD (4 * ((i / 4 + 3 * (i % 4)) % 4) + i % 4) 0) b 0) w (w.alloc (.cells (va .u8 b) 37)) := by
    rw [Ci.upd_zero]; exact ⟨hs.alloc _, (Below.refl _ _).alloc (by omega) _⟩
  have hkk : Blk (w.alloc (.cells (va .u8 b) 37)) w.heap.size 37 (va .u8 b) := Blk.new _ _ _
  have hmm := Lib.hid hm
  have hkh := Lib.hid hkk
  have hsz0 : (Tryd.prog.info? 37).map (·.size) = some (va .u8 b).size := by rw [va_size, hbl]; kernel_rfl
  have hsz := Lib.hid hsz0
  have hvs : (va .u8 b).size = 16 := by rw [va_size, hbl]
  have hzv := zero16
  have hst := run_storeNew (P := Tryd.prog) w 37 (va .u8 z16) .u8 b (by rw [va_size, hbl, z16_len])
  have hsh := Lib.hid hs
  clear hm hkk hsz0 hs
  go_enter Tryd.func42, Tryd.ntmps42
  go_wp2_with (refine wpList_load_row rfl 37 (.tmp 9) rfl S rfl 106 (va .u8 b) (0, 0) _ hsh.out Tryd.underlying37 rfl hsz.out ?_)
  clear hst hvs hzv
  generalize w.alloc (.cells (va .u8 b) 37) = w1 at *
  go_loopw [11] (fun s wr => ∃ c : Nat, c ≤ 4 ∧ s = .int .i64 (c : Int) ∧ StMem S (Ci.upd (fun i => b.getD (4 * ((i / 4 + 3 * (i % 4)) % 4) + i % 4) 0) b (4 * c)) w wr ∧ Blk wr w.heap.size 37 (va .u8 b)) (fun s _ => 4 - (intOf s).toNat)
  case atStart => exact ⟨0, by omega, rfl, hmm.out, hkh.out⟩
  case round =>
    clear hmm hkh
    obtain ⟨c, hc4, rfl, hmem, hold⟩ := hrel
    by_cases hlc : c < 4
    · have hlcI : (c : Int) < 4 := by omega
      have hmm := Lib.hid hmem
      have hkh := Lib.hid hold
      clear hmem hold
      go_wp2
      go_loopw [14] (fun s wr => ∃ r : Nat, r ≤ 4 ∧ s = .int .i64 (r : Int) ∧ StMem S (Ci.upd (fun i => b.getD (4 * ((i / 4 + 3 * (i % 4)) % 4) + i % 4) 0) b (4 * c + r)) w wr ∧ Blk wr w.heap.size 37 (va .u8 b)) (fun s _ => 4 - (intOf s).toNat)
      case atStart => exact ⟨0, by omega, rfl, hmm.out, hkh.out⟩
      case round =>
        clear hmm hkh
        obtain ⟨r, hr4, rfl, hmem, hold⟩ := hrel
        by_cases hlr : r < 4
        · have hlrI : (r : Int) < 4 := by omega
          obtain ⟨q, hq⟩ : ∃ q, (c + 3 * r) % 4 = q := ⟨_, rfl⟩
          obtain ⟨j, hj⟩ : ∃ j, 4 * q + r = j := ⟨_, rfl⟩
          obtain ⟨i, hi⟩ : ∃ i, 4 * c + r = i := ⟨_, rfl⟩
          have hq4 : q < 4 := by omega
          have hj16 : j < 16 := by omega
          have hi16 : i < 16 := by omega
          have hqe : ((c : Int) + 3 * (r : Int)) % 4 = (q : Int) := by omega
          have hqt : ((c : Int) + 3 * (r : Int)).tmod 4 = (q : Int) := by rw [Int.tmod_eq_emod_of_nonneg (by omega)]; exact hqe
          have hjI : 4 * (q : Int) + (r : Int) = (j : Int) := by omega
          have hiI : 4 * (c : Int) + (r : Int) = (i : Int) := by omega
          have hj16I : (j : Int) < 16 := by omega
          have hi16I : (i : Int) < 16 := by omega
          have w1 : IntKind.i64.wrap (3 * (r : Int)) = 3 * (r : Int) := IntWalk.i64_in _ (by omega)
          have w2 : IntKind.i64.wrap ((c : Int) + 3 * (r : Int)) = (c : Int) + 3 * (r : Int) := IntWalk.i64_in _ (by omega)
          have w4 : IntKind.i64.wrap (4 * (q : Int)) = 4 * (q : Int) := IntWalk.i64_in _ (by omega)
          have w5 : IntKind.i64.wrap (j : Int) = (j : Int) := IntWalk.i64_in _ (by omega)
          have w6 : IntKind.i64.wrap (4 * (c : Int)) = 4 * (c : Int) := IntWalk.i64_in _ (by omega)
          have w7 : IntKind.i64.wrap (i : Int) = (i : Int) := IntWalk.i64_in _ (by omega)
          rw [hi] at hmem
          have hfi : b.getD (4 * ((i / 4 + 3 * (i % 4)) % 4) + i % 4) 0 = b.getD j 0 := by
            have e1 : i / 4 = c := by omega
            have e2 : i % 4 = r := by omega
            rw [e1, e2]
            have e3 : (c + 3 * r) % 4 = q := by omega
            rw [e3, hj]
          have hc0 := hmem.s.num (i := i) (by rw [Ci.upd_len]; omega)
          have hf := hmem.s.frozen i
          have hc2 := hold.num (i := j) (by omega)
          have hset := Ci.upd_set (fun i => b.getD (4 * ((i / 4 + 3 * (i % 4)) % 4) + i % 4) 0) b i
          rw [hfi] at hset
          obtain ⟨x, hxe⟩ : ∃ x, b.getD j 0 = x := ⟨_, rfl⟩
          rw [hxe] at hc2 hset
          have hset' := Lib.hid hset
          have hih := Lib.hid hi
          have hmh := Lib.hid hmem
          have hkh := Lib.hid hold
          generalize (Ci.upd (fun i => b.getD (4 * ((i / 4 + 3 * (i % 4)) % 4) + i % 4) 0) b i).getD i 0 = y0 at *
          clear hmem hold hset hxe hi hj hq hfi
          go_wp2
          refine wp_region_still_tail 19 (by kernel_rfl) (by kernel_rfl) ?_
          simp only [List.take_succ_cons, List.take_zero, List.drop_succ_cons, List.drop_zero]
          change wpStill _ _ wr.drew _ _ _
          iterate 19 still_step
          refine wpStill_nil ?_
          change wpList _ _ _ _ _ wr.drew
          go_wp2
          go_roundw
          case rel =>
            refine ⟨r + 1, by omega, by go_num, ⟨?_, (below_drewN hmh.out.bel 1).setCell (Nat.le_refl _) _⟩, hkh.out.drew.far (by simp; omega) _⟩
            have e4 : 4 * c + (r + 1) = i + 1 := by rw [← hih.out]; omega
            rw [e4, ← hset'.out]
            exact hmh.out.s.drew.setNum i x
          case measure => simp [intOf]; omega
        · obtain rfl : r = 4 := by omega
          have hmm := Lib.hid hmem
          have hkh := Lib.hid hold
          clear hmem hold
          go_wp2
          go_roundw
          case rel => exact ⟨c + 1, by omega, by go_num, by rw [show 4 * (c + 1) = 4 * c + 4 from by omega]; exact hmm.out, hkh.out⟩
          case measure => simp [intOf]; omega
    · obtain rfl : c = 4 := by omega
      go_wp2
      go_end0
      refine ⟨rfl, ?_, hmem.bel⟩
      have := hmem.s
      rw [Ci.upd_all _ _ _ (by omega), hbl] at this
      exact this
end Go.Proofs.YtcdgcaljlmondaaDoor
