/-
  Strings of bytes: their order is that of the numbers that the bytes spell; numbers and their bytes.
-/
import Derived.Test.YtaaldjmopifcjaaNon6
import Derived.Test.YtaaldjmopifcjaaStr
import Derived.Laws.Strings
namespace Go.Proofs.Ytaaldjmopifcjaa
open Go.RowKit Sh

theorem fold_push (l : List Nat) : ∀ r : ByteArray, ((l.map fun x : Nat => (x : Int)).foldl (fun r n => r.push (UInt8.ofNat n.toNat)) r).data.toList = r.data.toList ++ l.map UInt8.ofNat := by
  induction l with
  | nil => intro r; simp
  | cons a l ih =>
    intro r
    simp only [List.map_cons, List.foldl_cons]
    rw [ih]
    simp [ByteArray.push]
theorem bst_list (l : List Nat) : (bst l).toList = l.map UInt8.ofNat := by
  rw [ByteArray.toList_eq]
  unfold bst
  rw [fold_push]
  simp
theorem beV_acc (l : List Nat) : ∀ a, l.foldl (fun a x => a * 256 + x) a = a * 256 ^ l.length + beV l := by
  induction l with
  | nil => intro a; simp [beV]
  | cons x l ih =>
    intro a
    simp only [List.foldl_cons, beV, List.length_cons]
    rw [ih, ih (0 * 256 + x), Nat.pow_succ]
    simp only [Nat.zero_mul, Nat.zero_add]
    rw [Nat.add_mul, Nat.mul_assoc, Nat.mul_comm 256, Nat.add_assoc]
theorem beV_cons (x : Nat) (l : List Nat) : beV (x :: l) = x * 256 ^ l.length + beV l := by
  show (x :: l).foldl _ 0 = _
  rw [List.foldl_cons, beV_acc]
  simp
theorem beV_app (a b : List Nat) : beV (a ++ b) = beV a * 256 ^ b.length + beV b := by
  show (a ++ b).foldl _ 0 = _
  rw [List.foldl_append, beV_acc]
  rfl
theorem ofNat_lt (a b : Nat) (ha : a < 256) (hb : b < 256) : (UInt8.ofNat a < UInt8.ofNat b) ↔ a < b := by
  rw [UInt8.lt_iff_toNat_lt, UInt8.toNat_ofNat', UInt8.toNat_ofNat', Nat.mod_eq_of_lt ha, Nat.mod_eq_of_lt hb]
theorem ofNat_eq (a b : Nat) (ha : a < 256) (hb : b < 256) : (UInt8.ofNat a = UInt8.ofNat b) ↔ a = b := by
  constructor
  · intro h
    have := congrArg UInt8.toNat h
    rwa [UInt8.toNat_ofNat', UInt8.toNat_ofNat', Nat.mod_eq_of_lt ha, Nat.mod_eq_of_lt hb] at this
  · rintro rfl; rfl
theorem beV_lt256 (l : List Nat) (h : Byt l) : beV l < 256 ^ l.length := by
  have := beV_lt l h
  rwa [show (256 : Nat) = 2 ^ 8 from rfl, ← Nat.pow_mul]
theorem bless : ∀ (l m : List Nat), l.length = m.length → Byt l → Byt m → Op.bytesLess (l.map UInt8.ofNat) (m.map UInt8.ofNat) = decide (beV l < beV m)
  | [], [], _, _, _ => by simp [Op.bytesLess, beV]
  | a :: l, b :: m, hl, ha, hb => by
    have ih := bless l m (by simpa using hl) (fun x hx => ha x (List.mem_cons_of_mem _ hx)) (fun x hx => hb x (List.mem_cons_of_mem _ hx))
    have h1 := beV_lt256 l (fun x hx => ha x (List.mem_cons_of_mem _ hx))
    have h2 := beV_lt256 m (fun x hx => hb x (List.mem_cons_of_mem _ hx))
    have ha0 := ha a (List.mem_cons_self ..)
    have hb0 := hb b (List.mem_cons_self ..)
    have hlen : l.length = m.length := by simpa using hl
    simp only [List.map_cons, Op.bytesLess, ih, beV_cons]
    rw [hlen] at h1 ⊢
    generalize 256 ^ m.length = P at *
    rw [Bool.eq_iff_iff]
    simp only [Bool.or_eq_true, Bool.and_eq_true, decide_eq_true_eq, beq_iff_eq, ofNat_lt a b ha0 hb0, ofNat_eq a b ha0 hb0]
    rcases Nat.lt_trichotomy a b with h | h | h
    · have : (a + 1) * P ≤ b * P := Nat.mul_le_mul_right P h
      rw [Nat.add_mul] at this
      constructor
      · intro _; omega
      · intro _; exact Or.inl h
    · subst h
      constructor
      · rintro (h3 | ⟨_, h3⟩) <;> omega
      · intro h3; exact Or.inr ⟨rfl, by omega⟩
    · have : (b + 1) * P ≤ a * P := Nat.mul_le_mul_right P h
      rw [Nat.add_mul] at this
      constructor
      · rintro (h3 | ⟨h3, _⟩) <;> omega
      · intro h3; omega
theorem bst_less (l m : List Nat) (hl : l.length = m.length) (h1 : Byt l) (h2 : Byt m) : Op.bytesLess (bst l).toList (bst m).toList = decide (beV l < beV m) := by
  rw [bst_list, bst_list]; exact bless l m hl h1 h2
theorem map_inj256 : ∀ (l m : List Nat), Byt l → Byt m → l.map UInt8.ofNat = m.map UInt8.ofNat → l = m
  | [], [], _, _, _ => rfl
  | [], b :: m, _, _, h => by simp at h
  | a :: l, [], _, _, h => by simp at h
  | a :: l, b :: m, ha, hb, h => by
    simp only [List.map_cons, List.cons.injEq] at h
    rw [(ofNat_eq a b (ha a (List.mem_cons_self ..)) (hb b (List.mem_cons_self ..))).1 h.1, map_inj256 l m (fun x hx => ha x (List.mem_cons_of_mem _ hx)) (fun x hx => hb x (List.mem_cons_of_mem _ hx)) h.2]
theorem bst_ne (l m : List Nat) (h1 : Byt l) (h2 : Byt m) (h : l ≠ m) : ((bst l).toList == (bst m).toList) = false := by
  rw [beq_eq_false_iff_ne, bst_list, bst_list]
  exact fun e => h (map_inj256 l m h1 h2 e)

theorem beV_beB4 (v : Nat) (hv : v < 4294967296) : beV (beB v 4) = v := by
  have e : beB v 4 = [v / 16777216 % 256, v / 65536 % 256, v / 256 % 256, v / 1 % 256] := rfl
  rw [e]
  simp only [beV, List.foldl_cons, List.foldl_nil]
  omega
theorem beV_beB8 (v : Nat) (hv : v < 18446744073709551616) : beV (beB v 8) = v := by
  have e : beB v 8 = [v / 72057594037927936 % 256, v / 281474976710656 % 256, v / 1099511627776 % 256, v / 4294967296 % 256, v / 16777216 % 256, v / 65536 % 256, v / 256 % 256, v / 1 % 256] := rfl
  rw [e]
  simp only [beV, List.foldl_cons, List.foldl_nil]
  omega
theorem beB_beV4 (l : List Nat) (hl : l.length = 4) (hb : Byt l) : beB (beV l) 4 = l := by
  match l, hl with
  | [a, b, c, d], _ =>
    have h0 := hb a (by simp); have h1 := hb b (by simp); have h2 := hb c (by simp); have h3 := hb d (by simp)
    have e : ∀ v, beB v 4 = [v / 16777216 % 256, v / 65536 % 256, v / 256 % 256, v / 1 % 256] := fun _ => rfl
    rw [e]
    simp only [beV, List.foldl_cons, List.foldl_nil]
    congr 1
    · omega
    · congr 1
      · omega
      · congr 1
        · omega
        · congr 1; omega
theorem beB_beV8 (l : List Nat) (hl : l.length = 8) (hb : Byt l) : beB (beV l) 8 = l := by
  match l, hl with
  | [a, b, c, d, a', b', c', d'], _ =>
    have h0 := hb a (by simp); have h1 := hb b (by simp); have h2 := hb c (by simp); have h3 := hb d (by simp)
    have h4 := hb a' (by simp); have h5 := hb b' (by simp); have h6 := hb c' (by simp); have h7 := hb d' (by simp)
    have e : ∀ v, beB v 8 = [v / 72057594037927936 % 256, v / 281474976710656 % 256, v / 1099511627776 % 256, v / 4294967296 % 256, v / 16777216 % 256, v / 65536 % 256, v / 256 % 256, v / 1 % 256] := fun _ => rfl
    rw [e]
    simp only [beV, List.foldl_cons, List.foldl_nil]
    have q0 : (((((((0 * 256 + a) * 256 + b) * 256 + c) * 256 + d) * 256 + a') * 256 + b') * 256 + c') * 256 + d' = a * 72057594037927936 + b * 281474976710656 + c * 1099511627776 + d * 4294967296 + a' * 16777216 + b' * 65536 + c' * 256 + d' := by omega
    rw [q0]
    congr 1
    · omega
    · congr 1
      · omega
      · congr 1
        · omega
        · congr 1
          · omega
          · congr 1
            · omega
            · congr 1
              · omega
              · congr 1
                · omega
                · congr 1; omega

/-- string(bytes), wherever they lie -/
theorem run_string_ad {w : World} (src dst : TypeId) (hs : Try.prog.underlying src = some (.slice 5)) (hd : Try.prog.underlying dst = some .string) (ad : Addr) (n c : Nat) (l : List Nat) (hl : l.length = n)
    (hb : ∀ j v, (nv .u8 l)[j]? = some v → w.cell? (ad.add j) = some v) :
    (convert src dst (.slice (some ad) n c)).run Try.prog w = .ok (.string (bst l)) w := by
  subst hl
  rw [run_convert_bytes_string w src dst 5 _ _ _ hs Try.underlying5 hd]
  have h1 := run_loadCells_list (P := Try.prog) w ad (nv .u8 l) hb
  rw [nv_len] at h1
  refine run_bytesToString w ad l.length c (l.map fun x : Nat => (x : Int)) ?_
  rw [h1]; simp [nv]

/-- the bytes of a nonce -/
def noB (s c : Nat) : List Nat := beB s 4 ++ beB c 8
theorem noB_len (s c : Nat) : (noB s c).length = 12 := by simp [noB, beB_len]
theorem noB_byt (s c : Nat) : Byt (noB s c) := fun x hx => (List.mem_append.1 hx).elim (beB_byt s 4 x) (beB_byt c 8 x)
theorem noB_take (s c : Nat) : (noB s c).take 4 = beB s 4 := by unfold noB; rw [List.take_left' (beB_len s 4)]
theorem noB_drop (s c : Nat) : (noB s c).drop 4 = beB c 8 := by unfold noB; rw [List.drop_left' (beB_len s 4)]
theorem noB_val (s c : Nat) (hs : s < 4294967296) (hc : c < 18446744073709551616) : beV (noB s c) = s * 18446744073709551616 + c := by
  unfold noB
  rw [beV_app, beB_len, beV_beB4 s hs, beV_beB8 c hc]
theorem cmpNo_val (s1 c1 s2 c2 : Nat) (h1 : c1 < 18446744073709551616) (h2 : c2 < 18446744073709551616) : cmpNo s1 c1 s2 c2 = cmpN (s1 * 18446744073709551616 + c1) (s2 * 18446744073709551616 + c2) := by
  unfold cmpNo or2 cmpN
  rcases Nat.lt_trichotomy s1 s2 with h | h | h
  · rw [if_pos h, if_neg (by omega), if_pos (by omega)]
  · subst h
    rw [if_neg (Nat.lt_irrefl _), if_neg (Nat.lt_irrefl _), if_pos rfl]
    rcases Nat.lt_trichotomy c1 c2 with h3 | h3 | h3
    · rw [if_pos h3, if_pos (by omega)]
    · subst h3
      rw [if_neg (Nat.lt_irrefl _), if_neg (Nat.lt_irrefl _), if_neg (Nat.lt_irrefl _), if_neg (Nat.lt_irrefl _)]
    · rw [if_neg (by omega), if_pos h3, if_neg (by omega), if_pos (by omega)]
  · rw [if_neg (by omega), if_pos h, if_neg (by omega), if_neg (by omega), if_pos (by omega)]
end Go.Proofs.Ytaaldjmopifcjaa
