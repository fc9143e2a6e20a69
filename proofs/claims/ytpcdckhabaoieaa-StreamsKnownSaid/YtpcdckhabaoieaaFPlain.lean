/-
  Plain arithmetic of the field with 256 elements: products, powers, inverses, substitutes, and the product of coefficient lists. No program here.
-/
namespace Go.Proofs.Ytpcdckhabaoieaa.Gf
def invT : Nat := 3566776863222250792575350504665046155069508327501453217101429430621730038043584053371660509702620055860081156466022285956586373576971909210171343659649552507176508005971567067637526818336653057460235767741581454534757369738530565771380035673162616129401273381134793422969875859516904113580246491480877823305346558232134899738800022074717406919707935282309554844169982325935665249148669134080917255765422589041374844979786301241750162074905253618853420688398165348773793897399659421930346683507413494886767272566548764049417490863269423193139537759588741825434151586758978267398985919305201935175793127681620251050240
def subT : Nat := 2869618975290639062594974519597816386035077209210385677284518162336985023502962151465775969507961862820568736543004676439868535775640188584098917533413284844376797297285941524888791401501466624530423689326528054213168201056672989590893583853414110162539122864583953358348775951166211353578440977400428507475679327181038682772945817200201960445064847785221508011893952350688324234443749897213621340677040612747745615276448919507935121141307752692835344166708617454322778699219895865633266409040561742768581056182730443599545881830075941537620590442514083341749674612746994879540562701631131184186066652929592955206755
def backT : Nat := 15785769749828884342349381641981096363179738000380205650940338083111619982568718420166261191398703005748170232611805704157196303061330872280026969925224128193193768962594508714770967646139604422718174787315048227180018877623049221087186576642191304514338137614235628241783007805847129270530950856841486400764657112140097236091222567730363620332611309375046737430203438830593833719428588466121688739068564421474273450162064709239629809347626728710072303178617319436726577534667237755444692000788692193415136619289353224918429728194544458916874716857284226411602766869706570927007876872095880586785662942963508062062930
def xt (a : Nat) : Nat := (a * 2 % 256) ^^^ (a / 128 * 27)
def itx (a : Nat) : Nat → Nat
  | 0 => a
  | k + 1 => xt (itx a k)
def gmk (a b : Nat) : Nat → Nat
  | 0 => 0
  | k + 1 => if b.testBit k then gmk a b k ^^^ itx a k else gmk a b k
def gm (a b : Nat) : Nat := gmk a b 8

theorem xor4 (a b c d : Nat) : (a ^^^ b) ^^^ (c ^^^ d) = (a ^^^ c) ^^^ (b ^^^ d) := by
  rw [Nat.xor_assoc, Nat.xor_assoc]; congr 1
  rw [← Nat.xor_assoc, ← Nat.xor_assoc, Nat.xor_comm b c]

theorem mul27 (x y : Nat) (hx : x < 2) (hy : y < 2) : (x ^^^ y) * 27 = (x * 27) ^^^ (y * 27) := by
  have : x = 0 ∨ x = 1 := by omega
  have : y = 0 ∨ y = 1 := by omega
  rcases ‹x = 0 ∨ x = 1› with rfl | rfl <;> rcases ‹y = 0 ∨ y = 1› with rfl | rfl <;> rfl

theorem xt_lt (a : Nat) (ha : a < 256) : xt a < 256 := by
  unfold xt
  have h1 : a * 2 % 256 < 2 ^ 8 := Nat.mod_lt _ (by omega)
  have h2 : a / 128 * 27 < 2 ^ 8 := by omega
  exact Nat.xor_lt_two_pow h1 h2

theorem xt_xor (a b : Nat) (ha : a < 256) (hb : b < 256) : xt (a ^^^ b) = xt a ^^^ xt b := by
  unfold xt
  have e1 : (a ^^^ b) * 2 % 256 = (a * 2 % 256) ^^^ (b * 2 % 256) := by
    have h := @Nat.shiftLeft_xor_distrib 1 a b
    simp only [Nat.shiftLeft_eq] at h
    rw [show (a ^^^ b) * 2 = (a ^^^ b) * 2 ^ 1 from rfl, h]
    exact Nat.xor_mod_two_pow (n := 8)
  have e2 : (a ^^^ b) / 128 * 27 = (a / 128 * 27) ^^^ (b / 128 * 27) := by
    rw [show (128 : Nat) = 2 ^ 7 from rfl, Nat.xor_div_two_pow]
    exact mul27 _ _ (by omega) (by omega)
  rw [e1, e2, xor4]

theorem xor_lt (a b : Nat) (ha : a < 256) (hb : b < 256) : a ^^^ b < 256 := Nat.xor_lt_two_pow (n := 8) ha hb

theorem itx_lt (a k : Nat) (ha : a < 256) : itx a k < 256 := by
  induction k with
  | zero => exact ha
  | succ k ih => exact xt_lt _ ih

theorem itx_xor (a b k : Nat) (ha : a < 256) (hb : b < 256) : itx (a ^^^ b) k = itx a k ^^^ itx b k := by
  induction k with
  | zero => rfl
  | succ k ih => simp only [itx]; rw [ih, xt_xor _ _ (itx_lt _ _ ha) (itx_lt _ _ hb)]

theorem gmk_lt (a b k : Nat) (ha : a < 256) : gmk a b k < 256 := by
  induction k with
  | zero => simp [gmk]
  | succ k ih =>
    simp only [gmk]; split
    · exact xor_lt _ _ ih (itx_lt _ _ ha)
    · exact ih
theorem gm_lt (a b : Nat) (ha : a < 256) : gm a b < 256 := gmk_lt a b 8 ha

theorem gmk_left (a b c k : Nat) (ha : a < 256) (hb : b < 256) : gmk (a ^^^ b) c k = gmk a c k ^^^ gmk b c k := by
  induction k with
  | zero => simp [gmk]
  | succ k ih =>
    simp only [gmk]; split
    · rw [ih, itx_xor _ _ _ ha hb, xor4]
    · exact ih
theorem gm_left (a b c : Nat) (ha : a < 256) (hb : b < 256) : gm (a ^^^ b) c = gm a c ^^^ gm b c := gmk_left a b c 8 ha hb

theorem gmk_right (a b c k : Nat) : gmk a (b ^^^ c) k = gmk a b k ^^^ gmk a c k := by
  induction k with
  | zero => simp [gmk]
  | succ k ih =>
    simp only [gmk, Nat.testBit_xor, ih]
    cases b.testBit k <;> cases c.testBit k <;> simp
    · rw [Nat.xor_assoc]
    · rw [Nat.xor_assoc, Nat.xor_comm (gmk a c k), Nat.xor_assoc]
    · rw [show gmk a b k ^^^ itx a k ^^^ (gmk a c k ^^^ itx a k) = (gmk a b k ^^^ gmk a c k) ^^^ (itx a k ^^^ itx a k) from xor4 _ _ _ _, Nat.xor_self, Nat.xor_zero]
theorem gm_right (a b c : Nat) : gm a (b ^^^ c) = gm a b ^^^ gm a c := gmk_right a b c 8

/-- two linear functions on bytes that agree at the eight powers of two agree -/
theorem lin_ext (f g : Nat → Nat) (hf : ∀ a b, a < 256 → b < 256 → f (a ^^^ b) = f a ^^^ f b) (hg : ∀ a b, a < 256 → b < 256 → g (a ^^^ b) = g a ^^^ g b)
    (h : ∀ i, i < 8 → f (2 ^ i) = g (2 ^ i)) (a : Nat) (ha : a < 256) : f a = g a := by
  have h0 : f 0 = g 0 := by
    have h1 := hf 0 0 (by omega) (by omega); have h2 := hg 0 0 (by omega) (by omega)
    simp at h1 h2; rw [h1, h2]
  have key : ∀ n, n ≤ 8 → ∀ a, a < 2 ^ n → f a = g a := by
    intro n
    induction n with
    | zero => intro _ a ha; obtain rfl : a = 0 := by simpa using ha
              exact h0
    | succ n ih =>
      intro hn a ha
      by_cases hlt : a < 2 ^ n
      · exact ih (by omega) a hlt
      · have hp : 2 ^ (n + 1) = 2 ^ n + 2 ^ n := by rw [Nat.pow_succ]; omega
        have hb : 2 ^ n ≤ 2 ^ 7 := Nat.pow_le_pow_right (by omega) (by omega)
        have e : a = 2 ^ n ^^^ (a - 2 ^ n) := by
          have hlt' : a - 2 ^ n < 2 ^ n := by omega
          have := Nat.two_pow_add_eq_or_of_lt (i := n) hlt' 1
          apply Nat.eq_of_testBit_eq
          intro i
          have e2 : a = 2 ^ n + (a - 2 ^ n) := by omega
          rw [Nat.testBit_xor, Nat.testBit_two_pow]
          by_cases hi : n = i
          · subst hi
            have : (a - 2 ^ n).testBit n = false := Nat.testBit_lt_two_pow hlt'
            rw [this]; rw [e2, Nat.testBit_two_pow_add_eq, this]; simp
          · rw [e2]
            simp only [hi, decide_false, Bool.false_xor]
            rw [show 2 ^ n + (a - 2 ^ n) - 2 ^ n = a - 2 ^ n from by omega]
            have e3 : 2 ^ n + (a - 2 ^ n) = 2 ^ n ||| (a - 2 ^ n) := by simpa using this
            rw [e3, Nat.testBit_or, Nat.testBit_two_pow]; simp [hi]
        rw [e, hf _ _ (by omega) (by omega), hg _ _ (by omega) (by omega), h n (by omega), ih (by omega) _ (by omega)]
  exact key 8 (by omega) a ha

theorem bilin_ext (f g : Nat → Nat → Nat)
    (f1 : ∀ a b c, a < 256 → b < 256 → c < 256 → f (a ^^^ b) c = f a c ^^^ f b c) (f2 : ∀ a b c, a < 256 → b < 256 → c < 256 → f a (b ^^^ c) = f a b ^^^ f a c)
    (g1 : ∀ a b c, a < 256 → b < 256 → c < 256 → g (a ^^^ b) c = g a c ^^^ g b c) (g2 : ∀ a b c, a < 256 → b < 256 → c < 256 → g a (b ^^^ c) = g a b ^^^ g a c)
    (h : ∀ i, i < 8 → ∀ j, j < 8 → f (2 ^ i) (2 ^ j) = g (2 ^ i) (2 ^ j)) (a b : Nat) (ha : a < 256) (hb : b < 256) : f a b = g a b := by
  refine lin_ext (fun a => f a b) (fun a => g a b) (fun x y hx hy => f1 x y b hx hy hb) (fun x y hx hy => g1 x y b hx hy hb) (fun i hi => ?_) a ha
  have hp : (2 : Nat) ^ i < 256 := by have := Nat.pow_le_pow_right (n := 2) (by omega) (show i ≤ 7 by omega); omega
  exact lin_ext (fun b => f (2 ^ i) b) (fun b => g (2 ^ i) b) (fun x y hx hy => f2 _ x y hp hx hy) (fun x y hx hy => g2 _ x y hp hx hy) (fun j hj => h i hi j hj) b hb

theorem gm_comm (a b : Nat) (ha : a < 256) (hb : b < 256) : gm a b = gm b a :=
  bilin_ext gm (fun a b => gm b a) (fun a b c ha hb _ => gm_left a b c ha hb) (fun a b c _ _ _ => gm_right a b c) (fun a b c _ _ _ => gm_right c a b) (fun a b c _ hb hc => gm_left b c a hb hc)
    (by decide +kernel) a b ha hb

theorem gm_assoc (a b c : Nat) (ha : a < 256) (hb : b < 256) (hc : c < 256) : gm (gm a b) c = gm a (gm b c) := by
  have pw : ∀ i, i < 8 → (2 : Nat) ^ i < 256 := fun i hi => by have := Nat.pow_le_pow_right (n := 2) (by omega) (show i ≤ 7 by omega); omega
  refine lin_ext (fun a => gm (gm a b) c) (fun a => gm a (gm b c))
    (fun x y hx hy => by simp only [gm_left x y b hx hy, gm_left _ _ c (gm_lt x b hx) (gm_lt y b hy)]) (fun x y hx hy => gm_left x y _ hx hy) (fun i hi => ?_) a ha
  refine bilin_ext (fun b c => gm (gm (2 ^ i) b) c) (fun b c => gm (2 ^ i) (gm b c))
    (fun x y z hx hy _ => by simp only [gm_right, gm_left _ _ z (gm_lt _ x (pw i hi)) (gm_lt _ y (pw i hi))]) (fun x y z _ _ _ => by simp only [gm_right])
    (fun x y z hx hy _ => by simp only [gm_left x y z hx hy, gm_right]) (fun x y z _ _ _ => by simp only [gm_right]) (fun j hj k hk => ?_) b c hb hc
  revert k j i
  decide +kernel

theorem gm_one (a : Nat) (ha : a < 256) : gm a 1 = a :=
  lin_ext (fun a => gm a 1) (fun a => a) (fun x y hx hy => gm_left x y 1 hx hy) (fun _ _ _ _ => rfl) (by decide +kernel) a ha

theorem gm_zero_left (b : Nat) : gm 0 b = 0 := by
  have h := gm_left 0 0 b (by omega) (by omega)
  simpa using h
theorem gm_zero_right (a : Nat) : gm a 0 = 0 := by
  have h := gm_right a 0 0
  simpa using h
theorem one_gm (a : Nat) (ha : a < 256) : gm 1 a = a := by rw [gm_comm 1 a (by omega) ha, gm_one a ha]

/-! powers -/
def pw (a : Nat) : Nat → Nat
  | 0 => 1
  | k + 1 => gm (pw a k) a
theorem pw_lt (a k : Nat) (_ : a < 256) : pw a k < 256 := by
  induction k with
  | zero => simp [pw]
  | succ k ih => exact gm_lt _ _ ih
theorem pw_one (a : Nat) (ha : a < 256) : pw a 1 = a := by simp only [pw]; exact one_gm a ha
theorem pw_add (a m n : Nat) (ha : a < 256) : pw a (m + n) = gm (pw a m) (pw a n) := by
  induction n with
  | zero => simp only [pw, Nat.add_zero]; exact (gm_one _ (pw_lt a m ha)).symm
  | succ n ih =>
    show gm (pw a (m + n)) a = gm (pw a m) (gm (pw a n) a)
    rw [ih, gm_assoc _ _ _ (pw_lt a m ha) (pw_lt a n ha) ha]
theorem pw_gm (a k : Nat) (ha : a < 256) : pw (gm a a) k = pw a (2 * k) := by
  induction k with
  | zero => rfl
  | succ k ih =>
    show gm (pw (gm a a) k) (gm a a) = gm (gm (pw a (2 * k)) a) a
    rw [ih, gm_assoc _ _ _ (pw_lt a _ ha) ha ha]
/-- one step of the squares: an odd exponent -/
theorem sq_odd (o a k : Nat) (ho : o < 256) (ha : a < 256) (hk : k % 2 = 1) : gm (gm o a) (pw (gm a a) (k / 2)) = gm o (pw a k) := by
  rw [pw_gm a _ ha, gm_assoc o a _ ho ha (pw_lt a _ ha)]
  congr 1
  have e : k = 1 + 2 * (k / 2) := by omega
  conv => rhs; rw [e, pw_add a 1 _ ha, pw_one a ha]
theorem sq_even (o a k : Nat) (ha : a < 256) (hk : k % 2 = 0) : gm o (pw (gm a a) (k / 2)) = gm o (pw a k) := by
  rw [pw_gm a _ ha]; congr 2; omega

/-! the table of inverses -/
def inv (a : Nat) : Nat := (invT >>> (8 * a)) % 256
theorem inv_lt (a : Nat) : inv a < 256 := Nat.mod_lt _ (by omega)
theorem gm_inv (a : Nat) (h0 : a ≠ 0) (ha : a < 256) : gm a (inv a) = 1 := by
  have h : ∀ a, a < 256 → (a == 0 || gm a (inv a) == 1) = true := by decide +kernel
  have := h a ha
  simp [h0] at this; exact this
theorem inv_zero : inv 0 = 0 := by decide +kernel
theorem gm_cancel (a b : Nat) (h0 : a ≠ 0) (ha : a < 256) (hb : b < 256) : gm (gm b a) (inv a) = b := by
  rw [gm_assoc _ _ _ hb ha (inv_lt a), gm_inv a h0 ha, gm_one b hb]
theorem inv_uniq (a b : Nat) (ha : a < 256) (hb : b < 256) (h : gm a b = 1) : b = inv a := by
  have h0 : a ≠ 0 := by rintro rfl; rw [gm_zero_left] at h; omega
  have e := gm_cancel a b h0 ha hb
  rw [gm_comm b a hb ha, h, one_gm _ (inv_lt a)] at e
  exact e.symm
theorem sq_lin (a b : Nat) (ha : a < 256) (hb : b < 256) : gm (a ^^^ b) (a ^^^ b) = gm a a ^^^ gm b b := by
  rw [gm_left a b _ ha hb, gm_right, gm_right, gm_comm b a hb ha, Nat.xor_assoc, ← Nat.xor_assoc (gm a b), Nat.xor_self, Nat.zero_xor]
def sqs (a : Nat) : Nat → Nat
  | 0 => a
  | k + 1 => gm (sqs a k) (sqs a k)
theorem sqs_lt (a k : Nat) (ha : a < 256) : sqs a k < 256 := by
  cases k with
  | zero => exact ha
  | succ k => exact gm_lt _ _ (sqs_lt a k ha)
theorem sqs_lin (k a b : Nat) (ha : a < 256) (hb : b < 256) : sqs (a ^^^ b) k = sqs a k ^^^ sqs b k := by
  induction k with
  | zero => rfl
  | succ k ih => simp only [sqs]; rw [ih, sq_lin _ _ (sqs_lt a k ha) (sqs_lt b k hb)]
theorem sqs_pw (a k : Nat) (ha : a < 256) : sqs a k = pw a (2 ^ k) := by
  induction k with
  | zero => exact (pw_one a ha).symm
  | succ k ih => simp only [sqs]; rw [ih, ← pw_add a _ _ ha]; congr 1; rw [Nat.pow_succ]; omega
theorem pw_256 (a : Nat) (ha : a < 256) : pw a 256 = a := by
  have h : sqs a 8 = a := lin_ext (fun a => sqs a 8) (fun a => a) (sqs_lin 8) (fun _ _ _ _ => rfl) (by decide +kernel) a ha
  rw [sqs_pw a 8 ha] at h; exact h
theorem pw_255 (a : Nat) (h0 : a ≠ 0) (ha : a < 256) : pw a 255 = 1 := by
  have h : gm (pw a 255) a = a := pw_256 a ha
  have e := gm_cancel a (pw a 255) h0 ha (pw_lt a _ ha)
  rw [h, gm_inv a h0 ha] at e
  exact e.symm
theorem pw_254 (a : Nat) (h0 : a ≠ 0) (ha : a < 256) : pw a 254 = inv a := by
  refine inv_uniq a _ ha (pw_lt a _ ha) ?_
  rw [gm_comm a _ ha (pw_lt a _ ha)]
  exact pw_255 a h0 ha
theorem pw_mod (a : Nat) (h0 : a ≠ 0) (ha : a < 256) (n : Nat) : pw a (n % 255) = pw a n := by
  have h : ∀ q r, pw a (255 * q + r) = pw a r := by
    intro q r
    induction q with
    | zero => simp
    | succ q ih =>
      rw [show 255 * (q + 1) + r = 255 + (255 * q + r) from by omega, pw_add a _ _ ha, pw_255 a h0 ha, one_gm _ (pw_lt a _ ha), ih]
  conv => rhs; rw [← Nat.div_add_mod n 255]
  rw [h]
theorem inv_inv (a : Nat) (ha : a < 256) : inv (inv a) = a := by
  by_cases h0 : a = 0
  · subst h0; decide +kernel
  · exact (inv_uniq _ _ (inv_lt a) ha (by rw [gm_comm _ _ (inv_lt a) ha]; exact gm_inv a h0 ha)).symm
theorem inv_ne (a : Nat) (h0 : a ≠ 0) (ha : a < 256) : inv a ≠ 0 := by
  intro h
  have e := gm_inv a h0 ha
  rw [h, gm_zero_right] at e; omega
theorem inv_gm (a b : Nat) (ha : a < 256) (hb : b < 256) (h0 : a ≠ 0) : inv (gm a b) = gm (inv a) (inv b) := by
  by_cases hb0 : b = 0
  · subst hb0; rw [gm_zero_right, inv_zero, gm_zero_right]
  · have hi := inv_lt a; have hj := inv_lt b
    refine (inv_uniq _ _ (gm_lt a b ha) (gm_lt _ _ hi) ?_).symm
    rw [gm_assoc _ _ _ ha hb (gm_lt _ _ hi), gm_comm (inv a) _ hi hj, ← gm_assoc b _ _ hb hj hi, gm_inv b hb0 hb, one_gm _ hi, gm_inv a h0 ha]

/-- Power's value: 'a' any byte, 'n' any integer -/
def powZ (a : Nat) (n : Int) : Nat := if a = 0 then (if n = 0 then 1 else 0) else pw a (n % 255).toNat
theorem powZ_lt (a : Nat) (n : Int) (ha : a < 256) : powZ a n < 256 := by
  unfold powZ; split
  · split <;> omega
  · exact pw_lt _ _ ha
theorem powZ_inv (a : Nat) (ha : a < 256) : powZ a 254 = inv a := by
  unfold powZ; split
  · rename_i h; subst h; rfl
  · exact pw_254 a ‹_› ha
theorem powZ_nat (a k : Nat) (ha : a < 256) : powZ a (k : Int) = pw a k := by
  unfold powZ; split
  · rename_i h; subst h
    cases k with
    | zero => rfl
    | succ k => rw [if_neg (by omega)]; simp only [pw]; rw [gm_zero_right]
  · rw [show ((k : Int) % 255).toNat = k % 255 from by omega, pw_mod a ‹_› ha]
theorem pw_add_mod (a : Nat) (h0 : a ≠ 0) (ha : a < 256) (x y : Int) : gm (powZ a x) (powZ a y) = powZ a (x + y) := by
  unfold powZ; rw [if_neg h0, if_neg h0, if_neg h0, ← pw_add a _ _ ha, ← pw_mod a h0 ha]
  congr 1; omega
theorem powZ_neg (a k : Nat) (ha : a < 256) (hk : 0 < k) : powZ a (-(k : Int)) = inv (pw a k) := by
  by_cases h0 : a = 0
  · subst h0
    unfold powZ; rw [if_pos rfl, if_neg (by omega)]
    obtain ⟨j, rfl⟩ : ∃ j, k = j + 1 := ⟨k - 1, by omega⟩
    simp only [pw]; rw [gm_zero_right, inv_zero]
  · refine inv_uniq _ _ (pw_lt a k ha) (powZ_lt a _ ha) ?_
    rw [← powZ_nat a k ha, pw_add_mod a h0 ha]
    unfold powZ; rw [if_neg h0, show ((k : Int) + -(k : Int)) % 255 = 0 from by omega]; rfl
theorem powZ_opp (a : Nat) (h0 : a ≠ 0) (ha : a < 256) (m : Int) : gm (powZ a m) (powZ a (255 - m.tmod 255)) = 1 := by
  rw [pw_add_mod a h0 ha]
  unfold powZ
  have e : (m + (255 - m.tmod 255)) % 255 = 0 := by have := Int.mul_tdiv_add_tmod m 255; omega
  rw [if_neg h0, e]; rfl

/-! substitutes -/
def rotl8 (b i : Nat) : Nat := (b <<< i) % 256 ||| b >>> (8 - i)
def aff (b : Nat) : Nat := (b ^^^ rotl8 b 1 ^^^ rotl8 b 2 ^^^ rotl8 b 3 ^^^ rotl8 b 4) ^^^ 99
def sub (a : Nat) : Nat := (subT >>> (8 * a)) % 256
def back (a : Nat) : Nat := (backT >>> (8 * a)) % 256
theorem sub_lt (a : Nat) : sub a < 256 := Nat.mod_lt _ (by omega)
theorem back_lt (a : Nat) : back a < 256 := Nat.mod_lt _ (by omega)
theorem sub_eq : ∀ a, a < 256 → aff (inv a) = sub a := by decide +kernel
theorem back_eq : ∀ a, a < 256 → inv (rotl8 (a ^^^ 99) 1 ^^^ rotl8 (a ^^^ 99) 3 ^^^ rotl8 (a ^^^ 99) 6) = back a := by decide +kernel
theorem back_sub : ∀ a, a < 256 → back (sub a) = a := by decide +kernel
theorem sub_back : ∀ a, a < 256 → sub (back a) = a := by decide +kernel
theorem sub_ne : ∀ a, a < 256 → sub a ≠ a := by decide +kernel
theorem sub_inj (a b : Nat) (ha : a < 256) (hb : b < 256) : sub a = sub b ↔ a = b :=
  ⟨fun h => by rw [← back_sub a ha, ← back_sub b hb, h], fun h => by rw [h]⟩

/-! the reference's product -/
def cf (a b : Nat) : Nat → Nat → Bool
  | 0 => fun _ => false
  | t + 1 => fun m => if m = t / 8 + t % 8 then (cf a b t m) ^^ (a.testBit (t / 8) && b.testBit (t % 8)) else cf a b t m
def rdI (q : Nat → Bool) (i : Nat) : Nat → Bool := fun m => if m = i - 4 ∨ m = i - 5 ∨ m = i - 7 ∨ m = i - 8 then q m ^^ q i else q m
def rd (p : Nat → Bool) : Nat → Nat → Bool
  | 0 => p
  | s + 1 => rdI (rd p s) (14 - s)
def outN (p : Nat → Bool) : Nat → Nat
  | 0 => 0
  | j + 1 => 2 * outN p j + (p (7 - j)).toNat
def rm (a b : Nat) : Nat := outN (rd (cf a b 64) 7) 8
theorem two_xor (x y : Nat) (b c : Bool) : (2 * x + b.toNat) ^^^ (2 * y + c.toNat) = 2 * (x ^^^ y) + (b ^^ c).toNat := by
  apply Nat.eq_of_testBit_eq
  intro i
  rw [Nat.testBit_xor]
  cases i with
  | zero => cases b <;> cases c <;> simp <;> omega
  | succ i =>
    rw [Nat.testBit_succ, Nat.testBit_succ, Nat.testBit_succ]
    have e (x : Nat) (b : Bool) : (2 * x + b.toNat) / 2 = x := by cases b <;> simp <;> omega
    rw [e, e, e, Nat.testBit_xor]
theorem outN_xor (p q : Nat → Bool) (j : Nat) : outN (fun m => p m ^^ q m) j = outN p j ^^^ outN q j := by
  induction j with
  | zero => simp [outN]
  | succ j ih => simp only [outN]; rw [ih, two_xor]
theorem xor_swap (a b c d : Bool) : ((a ^^ b) ^^ (c ^^ d)) = ((a ^^ c) ^^ (b ^^ d)) := by cases a <;> cases b <;> cases c <;> cases d <;> rfl
theorem rd_xor (p q : Nat → Bool) (s : Nat) : rd (fun m => p m ^^ q m) s = fun m => rd p s m ^^ rd q s m := by
  induction s with
  | zero => rfl
  | succ s ih =>
    funext m
    simp only [rd, rdI, ih]
    split
    · rw [xor_swap]
    · rfl
theorem cf_left (a b c t : Nat) : cf (a ^^^ b) c t = fun m => cf a c t m ^^ cf b c t m := by
  induction t with
  | zero => funext m; rfl
  | succ t ih =>
    funext m
    simp only [cf, ih, Nat.testBit_xor]
    split
    · rw [xor_swap]; congr 1
      cases a.testBit (t / 8) <;> cases b.testBit (t / 8) <;> cases c.testBit (t % 8) <;> rfl
    · rfl
theorem cf_right (a b c t : Nat) : cf a (b ^^^ c) t = fun m => cf a b t m ^^ cf a c t m := by
  induction t with
  | zero => funext m; rfl
  | succ t ih =>
    funext m
    simp only [cf, ih, Nat.testBit_xor]
    split
    · rw [xor_swap]; congr 1
      cases a.testBit (t / 8) <;> cases b.testBit (t % 8) <;> cases c.testBit (t % 8) <;> rfl
    · rfl
theorem rm_eq (a b : Nat) (ha : a < 256) (hb : b < 256) : rm a b = gm a b :=
  bilin_ext rm gm (fun a b c _ _ _ => by unfold rm; rw [cf_left, rd_xor, outN_xor]) (fun a b c _ _ _ => by unfold rm; rw [cf_right, rd_xor, outN_xor])
    (fun a b c ha hb _ => gm_left a b c ha hb) (fun a b c _ _ _ => gm_right a b c) (by decide +kernel) a b ha hb


/-! powers of 3 -/
def exT : Nat := 247704880781559356684414323119999879637317647180040216102211349143305888774923398537951341803642731683984666991564019150676315804531779449815159115664189418245566988781254625896260912026622159780553349108386186142268315007856282091988200171439146255715840100601167723801170608095743514940052926055042184507632911811387723359914440662207451538163404716729158929845121383729837235901114109841630616474463024741216292666125260571984924724184385554713500007113061044175325657975136216706165622836048350080632971744177780693200859426168487707538171671676645432511882666690861394815764438377708986394032816479809277592321
def lgT : Nat := 939374623831894136699086600277250597547650664638770418422125146541797353646788332867483593573384618611044815625336497665827114626705134492515730415652478061620339993830966980270842846318821775850471098591710629241171812800746666233448222972174585295916389942636813666312872914849454985560152530477328703759683306625234997237483834721220409437442253146756845415190424543171129629468776480674528486868811725071010351012234056630775688111116293610821126543142160426617079940511630006820862697466582575257349116925728488930366609138264019883664906661504235885380294353134295748489096855100647154935187045898006656778240
def ex (k : Nat) : Nat := (exT >>> (8 * k)) % 256
def lg (x : Nat) : Nat := (lgT >>> (8 * x)) % 256
theorem ex_lt (k : Nat) : ex k < 256 := Nat.mod_lt _ (by omega)
theorem ex_zero : ex 0 = 1 := by decide +kernel
theorem ex_succ : ∀ k, k < 255 → ex (k + 1) = xt (ex k) ^^^ ex k := by decide +kernel
theorem ex_lg : ∀ x, x < 256 → x ≠ 0 → ex (lg x) = x := by decide +kernel
theorem lg_lt : ∀ x, x < 256 → lg x < 255 := by decide +kernel
theorem xt_three : ∀ p, p < 256 → gm p 3 = xt p ^^^ p := by decide +kernel
theorem xt_twice : ∀ p, p < 256 → (if 255 < 2 * p then (2 * p) ^^^ 283 else 2 * p) % 256 = xt p := by decide +kernel
theorem pw_ex (k : Nat) (hk : k ≤ 255) : pw 3 k = ex k := by
  induction k with
  | zero => exact ex_zero.symm
  | succ k ih =>
    show gm (pw 3 k) 3 = _
    rw [ih (by omega), xt_three _ (ex_lt k), ex_succ k (by omega)]
theorem ex_inv (k : Nat) (hk : k ≤ 255) : ex (255 - k) = inv (ex k) := by
  refine inv_uniq _ _ (ex_lt k) (ex_lt _) ?_
  rw [← pw_ex k hk, ← pw_ex (255 - k) (by omega), ← pw_add 3 _ _ (by omega), show k + (255 - k) = 255 from by omega]
  exact pw_255 3 (by omega) (by omega)
end Go.Proofs.Ytpcdckhabaoieaa.Gf
