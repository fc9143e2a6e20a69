/-
  Plain SHA-256: bytes and numbers, the schedule, the rounds, padding, the digest. No program here.
-/
namespace Go.Proofs.YtcdmbknmmnaocaaDoor.Sh

/-! bytes and numbers, the most significant byte first -/
def Byt (l : List Nat) : Prop := ∀ x ∈ l, x < 256
theorem Byt.get {l : List Nat} (h : Byt l) (i : Nat) : l.getD i 0 < 256 := by
  by_cases hi : i < l.length
  · rw [List.getD_eq_getElem?_getD, List.getElem?_eq_getElem hi]; exact h _ (List.getElem_mem hi)
  · rw [List.getD_eq_getElem?_getD, List.getElem?_eq_none (by omega)]; simp
theorem Byt.nil : Byt [] := fun x h => by cases h
theorem Byt.app {l m : List Nat} (h : Byt l) (k : Byt m) : Byt (l ++ m) := fun x hx => by
  rcases List.mem_append.1 hx with hx | hx
  · exact h x hx
  · exact k x hx
theorem Byt.take {l : List Nat} (h : Byt l) (n : Nat) : Byt (l.take n) := fun x hx => h x (List.mem_of_mem_take hx)
theorem Byt.drop {l : List Nat} (h : Byt l) (n : Nat) : Byt (l.drop n) := fun x hx => h x (List.mem_of_mem_drop hx)
theorem Byt.rep (n v : Nat) (hv : v < 256) : Byt (List.replicate n v) := fun x hx => by
  rw [List.eq_of_mem_replicate hx]; exact hv
theorem Byt.set {l : List Nat} (h : Byt l) (i v : Nat) (hv : v < 256) : Byt (l.set i v) := fun x hx => by
  rcases List.mem_or_eq_of_mem_set hx with hx | rfl
  · exact h x hx
  · exact hv

theorem ext_getD {l m : List Nat} (hl : l.length = m.length) (h : ∀ i, i < l.length → l.getD i 0 = m.getD i 0) : l = m := by
  apply List.ext_getElem hl
  intro i h1 h2
  have := h i h1
  simpa [List.getD_eq_getElem?_getD, h1, h2] using this
theorem getD_map_range (f : Nat → Nat) (n i : Nat) (hi : i < n) : ((List.range n).map f).getD i 0 = f i := by
  simp [List.getD_eq_getElem?_getD, hi]
theorem getD_app_left {l m : List Nat} {i : Nat} (h : i < l.length) : (l ++ m).getD i 0 = l.getD i 0 := by
  simp [List.getD_eq_getElem?_getD, List.getElem?_append_left h]
theorem getD_app_right {l m : List Nat} {i : Nat} (h : l.length ≤ i) : (l ++ m).getD i 0 = m.getD (i - l.length) 0 := by
  simp [List.getD_eq_getElem?_getD, List.getElem?_append_right h]
theorem getD_drop (l : List Nat) (o i : Nat) : (l.drop o).getD i 0 = l.getD (o + i) 0 := by
  simp [List.getD_eq_getElem?_getD]
theorem getD_take {l : List Nat} {n i : Nat} (h : i < n) : (l.take n).getD i 0 = l.getD i 0 := by
  simp [List.getD_eq_getElem?_getD, h]
theorem getD_set_eq {l : List Nat} {i v : Nat} (h : i < l.length) : (l.set i v).getD i 0 = v := by
  simp [List.getD_eq_getElem?_getD, h]
theorem getD_set_ne {l : List Nat} {i j v : Nat} (h : i ≠ j) : (l.set i v).getD j 0 = l.getD j 0 := by
  simp [List.getD_eq_getElem?_getD, h]

/-- byte j of the n bytes of v -/
def beAt (v n j : Nat) : Nat := v / 2 ^ (8 * (n - 1 - j)) % 256
def beB (v n : Nat) : List Nat := (List.range n).map (beAt v n)
theorem beB_len (v n : Nat) : (beB v n).length = n := by simp [beB]
theorem beB_byt (v n : Nat) : Byt (beB v n) := fun x hx => by
  obtain ⟨j, _, rfl⟩ := List.mem_map.1 hx
  exact Nat.mod_lt _ (by omega)
/-- the bytes that stand after i steps, the last one first -/
def putl (v n i : Nat) : List Nat := (List.range n).map fun j => if n - 1 - j < i then beAt v n j else 0
theorem putl_len (v n i : Nat) : (putl v n i).length = n := by simp [putl]
theorem putl_zero (v n : Nat) : putl v n 0 = List.replicate n 0 := by
  apply ext_getD (by simp [putl])
  intro j hj
  rw [putl_len] at hj
  rw [putl, getD_map_range _ _ _ hj]; simp [List.getD_eq_getElem?_getD, hj]
theorem putl_step (v n i : Nat) (hi : i < n) : (putl v n i).set (n - 1 - i) (v / 2 ^ (8 * i) % 256) = putl v n (i + 1) := by
  apply ext_getD (by rw [List.length_set, putl_len, putl_len])
  intro j hj
  rw [List.length_set, putl_len] at hj
  by_cases e : n - 1 - i = j
  · subst e
    rw [getD_set_eq (by rw [putl_len]; omega), putl, getD_map_range _ _ _ hj, if_pos (by omega), beAt, show n - 1 - (n - 1 - i) = i from by omega]
  · rw [getD_set_ne e, putl, getD_map_range _ _ _ hj, putl, getD_map_range _ _ _ hj]
    by_cases h : n - 1 - j < i
    · rw [if_pos h, if_pos (by omega)]
    · rw [if_neg h, if_neg (by omega)]
theorem putl_all (v n : Nat) : putl v n n = beB v n := by
  apply ext_getD (by rw [putl_len, beB_len])
  intro j hj
  rw [putl_len] at hj
  rw [putl, getD_map_range _ _ _ hj, beB, getD_map_range _ _ _ hj, if_pos (by omega)]
def beV (l : List Nat) : Nat := l.foldl (fun a x => a * 256 + x) 0
theorem beV_snoc (l : List Nat) (x : Nat) : beV (l ++ [x]) = beV l * 256 + x := by simp [beV]
theorem beV_lt (l : List Nat) (h : Byt l) : beV l < 2 ^ (8 * l.length) := by
  have key : ∀ n, ∀ l : List Nat, l.length = n → Byt l → beV l < 2 ^ (8 * n) := by
    intro n
    induction n with
    | zero => intro l hl _; obtain rfl := List.eq_nil_of_length_eq_zero hl; simp [beV]
    | succ n ih =>
      intro l hl hb
      have hne : l ≠ [] := by rintro rfl; simp at hl
      rw [← List.dropLast_concat_getLast hne, beV_snoc]
      have h1 := ih l.dropLast (by simp; omega) (fun x hx => hb x ((List.dropLast_sublist l).subset hx))
      have h2 := hb _ (List.getLast_mem hne)
      rw [show 8 * (n + 1) = 8 * n + 8 from by omega, Nat.pow_add]
      omega
  exact key _ l rfl h
theorem take_succ_getD (l : List Nat) (k : Nat) (h : k < l.length) : l.take (k + 1) = l.take k ++ [l.getD k 0] := by
  rw [List.take_succ_eq_append_getElem h]; simp [List.getD_eq_getElem?_getD, h]
theorem or_byte (v x : Nat) (hx : x < 256) : v * 256 ||| x = v * 256 + x := by
  have h := Nat.two_pow_add_eq_or_of_lt (i := 8) (b := x) (by omega) v
  rw [Nat.mul_comm]; exact h.symm

/-! SHA-256 -/
def M : Nat := 4294967296
def h0T : Nat := 0x5be0cd191f83d9ab9b05688c510e527fa54ff53a3c6ef372bb67ae856a09e667
def kT : Nat := 25051139735836467913601071899189108501681633092613316132753366958947502841281110980347811086624969305314199562795868290539880502533646505489797110349007385020507326982043050618112420254613810441709594605123090411975756494285771699200369901479195251226368983824020564277645963860728452821576845901498668417244438721537663670541944820957180957595559282976806173113161068298822071065329290006052849814285001949914564097058408480133985233335799884203712730341384999677089997083749077591931498939520449886954646413138343858395935213418018409268340744776361518554939863400075967197509182087778881547827184266701615699472280
def kAt (t : Nat) : Nat := (kT >>> (32 * t)) % 4294967296
def hAt (t : Nat) : Nat := (h0T >>> (32 * t)) % 4294967296
def kL : List Nat := (List.range 64).map kAt
def hL : List Nat := (List.range 8).map hAt
def rotr (x n : Nat) : Nat := x >>> n ||| (x <<< (32 - n)) % 4294967296
def sg0 (x : Nat) : Nat := rotr x 7 ^^^ rotr x 18 ^^^ x >>> 3
def sg1 (x : Nat) : Nat := rotr x 17 ^^^ rotr x 19 ^^^ x >>> 10
def be32 (b : List Nat) (t : Nat) : Nat := beV ((b.drop (4 * t)).take 4)
def wNext (l : List Nat) : Nat := (((sg1 (l.getD 1 0) + l.getD 6 0) % 4294967296 + sg0 (l.getD 14 0)) % 4294967296 + l.getD 15 0) % 4294967296
/-- W(0) to W(15 + n), the last one first -/
def wRev (b : List Nat) : Nat → List Nat
  | 0 => ((List.range 16).map (be32 b)).reverse
  | n + 1 => wNext (wRev b n) :: wRev b n
def wAt (b : List Nat) (t : Nat) : Nat := (wRev b 48).getD (63 - t) 0

/-- one round -/
def ch (e f g : Nat) : Nat := (e &&& f) ^^^ ((4294967295 - e) &&& g)
def mj (a b c : Nat) : Nat := ((a &&& b) ^^^ (a &&& c)) ^^^ (b &&& c)
def bs1 (e : Nat) : Nat := rotr e 6 ^^^ rotr e 11 ^^^ rotr e 25
def bs0 (a : Nat) : Nat := rotr a 2 ^^^ rotr a 13 ^^^ rotr a 22
def t1 (k w : Nat) (x : List Nat) : Nat := ((((x.getD 7 0 + bs1 (x.getD 4 0)) % 4294967296 + ch (x.getD 4 0) (x.getD 5 0) (x.getD 6 0)) % 4294967296 + k) % 4294967296 + w) % 4294967296
def t2 (x : List Nat) : Nat := (bs0 (x.getD 0 0) + mj (x.getD 0 0) (x.getD 1 0) (x.getD 2 0)) % 4294967296
def rnd (k w : Nat) (x : List Nat) : List Nat :=
  [(t1 k w x + t2 x) % 4294967296, x.getD 0 0, x.getD 1 0, x.getD 2 0, (x.getD 3 0 + t1 k w x) % 4294967296, x.getD 4 0, x.getD 5 0, x.getD 6 0]
def rnds (h b : List Nat) : Nat → List Nat
  | 0 => h
  | t + 1 => rnd (kAt t) (wAt b t) (rnds h b t)
def addL (h x : List Nat) : List Nat := (List.range 8).map fun i => (h.getD i 0 + x.getD i 0) % 4294967296
def comp (h b : List Nat) : List Nat := addL h (rnds h b 64)

/-! blocks, padding, the digest -/
def hs (l : List Nat) : Nat → List Nat
  | 0 => hL
  | n + 1 => comp (hs l n) ((l.drop (64 * n)).take 64)
/-- how many bytes 00 fill up -/
def zeros (n : Nat) : Nat := (119 - n % 64) % 64
def pad (l : List Nat) : List Nat := l ++ [128] ++ List.replicate (zeros l.length) 0 ++ beB (8 * l.length) 8
def flat (h : List Nat) : List Nat := (List.range 32).map fun i => beAt (h.getD (i / 4) 0) 4 (i % 4)
def sha (l : List Nat) : List Nat := flat (hs (pad l) ((pad l).length / 64))


/-! bounds -/
def W32 (l : List Nat) : Prop := ∀ i, l.getD i 0 < 4294967296
theorem rotr_lt (x n : Nat) (hx : x < 4294967296) : rotr x n < 4294967296 := by
  unfold rotr
  exact Nat.or_lt_two_pow (n := 32) (Nat.lt_of_le_of_lt (by rw [Nat.shiftRight_eq_div_pow]; exact Nat.div_le_self _ _) hx) (Nat.mod_lt _ (by omega))
theorem xor32 {a b : Nat} (ha : a < 4294967296) (hb : b < 4294967296) : a ^^^ b < 4294967296 := Nat.xor_lt_two_pow (n := 32) ha hb
theorem shr32 (x n : Nat) (hx : x < 4294967296) : x >>> n < 4294967296 := Nat.lt_of_le_of_lt (by rw [Nat.shiftRight_eq_div_pow]; exact Nat.div_le_self _ _) hx
theorem sg0_lt (x : Nat) (hx : x < 4294967296) : sg0 x < 4294967296 := xor32 (xor32 (rotr_lt _ _ hx) (rotr_lt _ _ hx)) (shr32 _ _ hx)
theorem sg1_lt (x : Nat) (hx : x < 4294967296) : sg1 x < 4294967296 := xor32 (xor32 (rotr_lt _ _ hx) (rotr_lt _ _ hx)) (shr32 _ _ hx)
theorem bs0_lt (x : Nat) (hx : x < 4294967296) : bs0 x < 4294967296 := xor32 (xor32 (rotr_lt _ _ hx) (rotr_lt _ _ hx)) (rotr_lt _ _ hx)
theorem bs1_lt (x : Nat) (hx : x < 4294967296) : bs1 x < 4294967296 := xor32 (xor32 (rotr_lt _ _ hx) (rotr_lt _ _ hx)) (rotr_lt _ _ hx)
theorem and32 {a b : Nat} (ha : a < 4294967296) : a &&& b < 4294967296 := Nat.lt_of_le_of_lt Nat.and_le_left ha
theorem ch_lt (e f g : Nat) (he : e < 4294967296) : ch e f g < 4294967296 := xor32 (and32 he) (and32 (by omega))
theorem mj_lt (a b c : Nat) (ha : a < 4294967296) (hb : b < 4294967296) : mj a b c < 4294967296 := xor32 (xor32 (and32 ha) (and32 ha)) (and32 hb)
theorem be32_lt (b : List Nat) (hb : Byt b) (t : Nat) : be32 b t < 4294967296 := by
  have h := beV_lt ((b.drop (4 * t)).take 4) ((hb.drop _).take _)
  have h2 : ((b.drop (4 * t)).take 4).length ≤ 4 := by simp; omega
  exact Nat.lt_of_lt_of_le h (Nat.pow_le_pow_right (n := 2) (j := 32) (by omega) (by omega))
theorem wNext_lt (l : List Nat) : wNext l < 4294967296 := Nat.mod_lt _ (by omega)
theorem W32.get {l : List Nat} (h : W32 l) (i : Nat) : l.getD i 0 < 4294967296 := h i
theorem W32_of_mem {l : List Nat} (h : ∀ x ∈ l, x < 4294967296) : W32 l := fun i => by
  by_cases hi : i < l.length
  · rw [List.getD_eq_getElem?_getD, List.getElem?_eq_getElem hi]; exact h _ (List.getElem_mem hi)
  · rw [List.getD_eq_getElem?_getD, List.getElem?_eq_none (by omega)]; simp
theorem wRev_lt (b : List Nat) (hb : Byt b) (n : Nat) : ∀ x ∈ wRev b n, x < 4294967296 := by
  induction n with
  | zero => intro x hx; simp [wRev] at hx; obtain ⟨t, _, rfl⟩ := hx; exact be32_lt b hb t
  | succ n ih =>
    intro x hx
    rcases List.mem_cons.1 hx with rfl | hx
    · exact wNext_lt _
    · exact ih x hx
theorem wRev_len (b : List Nat) (n : Nat) : (wRev b n).length = 16 + n := by
  induction n with
  | zero => simp [wRev]
  | succ n ih => simp only [wRev, List.length_cons, ih]; omega
/-- an older list stands behind a newer one -/
theorem wRev_shift (b : List Nat) (n m i : Nat) : (wRev b (n + m)).getD (m + i) 0 = (wRev b n).getD i 0 := by
  induction m with
  | zero => simp
  | succ m ih =>
    rw [← ih, show n + (m + 1) = (n + m) + 1 from by omega, show m + 1 + i = (m + i) + 1 from by omega]
    simp only [wRev, List.getD_cons_succ]
theorem wAt_lt (b : List Nat) (hb : Byt b) (t : Nat) : wAt b t < 4294967296 := W32_of_mem (wRev_lt b hb 48) _
theorem wAt_lo (b : List Nat) (t : Nat) (ht : t < 16) : wAt b t = be32 b t := by
  unfold wAt
  have h := wRev_shift b 0 48 (15 - t)
  rw [show 0 + 48 = 48 from rfl, show 48 + (15 - t) = 63 - t from by omega] at h
  rw [h]; unfold wRev
  rw [List.getD_eq_getElem?_getD, List.getElem?_reverse (by simp; omega)]
  simp only [List.length_map, List.length_range]
  rw [show 16 - 1 - (15 - t) = t from by omega, List.getElem?_map, List.getElem?_range ht]; rfl
theorem wAt_hi (b : List Nat) (t : Nat) (h16 : 16 ≤ t) (ht : t < 64) :
    wAt b t = (((sg1 (wAt b (t - 2)) + wAt b (t - 7)) % 4294967296 + sg0 (wAt b (t - 15))) % 4294967296 + wAt b (t - 16)) % 4294967296 := by
  have e : ∀ s, s < t → t - s ≤ 16 → wAt b s = (wRev b (t - 16)).getD (t - 1 - s) 0 := by
    intro s hs hs2
    have h := wRev_shift b (t - 16) (64 - t) (t - 1 - s)
    rw [show t - 16 + (64 - t) = 48 from by omega, show 64 - t + (t - 1 - s) = 63 - s from by omega] at h
    exact h
  rw [e (t - 2) (by omega) (by omega), e (t - 7) (by omega) (by omega), e (t - 15) (by omega) (by omega), e (t - 16) (by omega) (by omega)]
  have h := wRev_shift b (t - 15) (63 - t) 0
  rw [show t - 15 + (63 - t) = 48 from by omega, Nat.add_zero] at h
  unfold wAt
  rw [h, show t - 15 = (t - 16) + 1 from by omega]
  rw [show t - 1 - (t - 2) = 1 from by omega, show t - 1 - (t - 7) = 6 from by omega, show t - 1 - (t - 16 + 1) = 14 from by omega, show t - 1 - (t - 16) = 15 from by omega]
  rfl
theorem rnd_lt (k w : Nat) (x : List Nat) (hx : W32 x) : W32 (rnd k w x) := by
  refine W32_of_mem fun y hy => ?_
  simp only [rnd, List.mem_cons, List.not_mem_nil, or_false] at hy
  rcases hy with rfl | rfl | rfl | rfl | rfl | rfl | rfl | rfl
  · exact Nat.mod_lt _ (by omega)
  · exact hx 0
  · exact hx 1
  · exact hx 2
  · exact Nat.mod_lt _ (by omega)
  · exact hx 4
  · exact hx 5
  · exact hx 6
theorem rnds_lt (h b : List Nat) (hh : W32 h) (t : Nat) : W32 (rnds h b t) := by
  induction t with
  | zero => exact hh
  | succ t ih => exact rnd_lt _ _ _ ih
theorem comp_lt (h b : List Nat) : W32 (comp h b) := W32_of_mem fun x hx => by
  simp [comp, addL] at hx; obtain ⟨i, _, rfl⟩ := hx; exact Nat.mod_lt _ (by omega)
theorem comp_len (h b : List Nat) : (comp h b).length = 8 := by simp [comp, addL]
theorem rnd_len (k w : Nat) (x : List Nat) : (rnd k w x).length = 8 := rfl
theorem rnds_len (h b : List Nat) (hh : h.length = 8) (t : Nat) : (rnds h b t).length = 8 := by
  cases t with
  | zero => exact hh
  | succ t => rfl
theorem hL_len : hL.length = 8 := by simp [hL]
theorem kL_len : kL.length = 64 := by simp [kL]
theorem hL_lt : W32 hL := W32_of_mem fun x hx => by
  simp [hL] at hx; obtain ⟨i, _, rfl⟩ := hx; exact Nat.mod_lt _ (by omega)
theorem kAt_lt (t : Nat) : kAt t < 4294967296 := Nat.mod_lt _ (by omega)
theorem hs_len (l : List Nat) (n : Nat) : (hs l n).length = 8 := by
  cases n with
  | zero => exact hL_len
  | succ n => exact comp_len _ _
theorem hs_lt (l : List Nat) (n : Nat) : W32 (hs l n) := by
  cases n with
  | zero => exact hL_lt
  | succ n => exact comp_lt _ _
/-- what is behind the blocks does not matter -/
theorem hs_app (l m : List Nat) (n : Nat) (hn : 64 * n ≤ l.length) : hs (l ++ m) n = hs l n := by
  induction n with
  | zero => rfl
  | succ n ih =>
    simp only [hs]
    rw [ih (by omega)]
    congr 1
    rw [List.drop_append_of_le_length (by omega), List.take_append_of_le_length (by simp; omega)]
theorem pad_len (l : List Nat) : (pad l).length = 64 * ((l.length + 72) / 64) := by
  simp [pad, beB_len, zeros]; omega
theorem flat_len (h : List Nat) : (flat h).length = 32 := by simp [flat]
theorem flat_byt (h : List Nat) : Byt (flat h) := fun x hx => by
  simp [flat] at hx; obtain ⟨i, _, rfl⟩ := hx; exact Nat.mod_lt _ (by omega)
theorem sha_len (l : List Nat) : (sha l).length = 32 := flat_len _
theorem sha_byt (l : List Nat) : Byt (sha l) := flat_byt _

/-- the sums after i steps -/
def addTo (h x : List Nat) (i : Nat) : List Nat := (List.range 8).map fun j => if j < i then (h.getD j 0 + x.getD j 0) % 4294967296 else h.getD j 0
theorem addTo_len (h x : List Nat) (i : Nat) : (addTo h x i).length = 8 := by simp [addTo]
theorem addTo_zero (h x : List Nat) (hh : h.length = 8) : addTo h x 0 = h := by
  apply ext_getD (by rw [addTo_len, hh])
  intro j hj
  rw [addTo_len] at hj
  rw [addTo, getD_map_range _ _ _ hj, if_neg (by omega)]
theorem addTo_all (h x : List Nat) : addTo h x 8 = addL h x := by
  apply ext_getD (by rw [addTo_len]; simp [addL])
  intro j hj
  rw [addTo_len] at hj
  rw [addTo, getD_map_range _ _ _ hj, if_pos hj, addL, getD_map_range _ _ _ hj]
theorem addTo_get (h x : List Nat) (i : Nat) (hi : i < 8) : (addTo h x i).getD i 0 = h.getD i 0 := by
  rw [addTo, getD_map_range _ _ _ hi, if_neg (by omega)]
theorem addTo_step (h x : List Nat) (i : Nat) (hi : i < 8) : (addTo h x i).set i ((h.getD i 0 + x.getD i 0) % 4294967296) = addTo h x (i + 1) := by
  apply ext_getD (by rw [List.length_set, addTo_len, addTo_len])
  intro j hj
  rw [List.length_set, addTo_len] at hj
  by_cases e : i = j
  · subst e
    rw [getD_set_eq (by rw [addTo_len]; exact hi), addTo, getD_map_range _ _ _ hj, if_pos (by omega)]
  · rw [getD_set_ne e, addTo, getD_map_range _ _ _ hj, addTo, getD_map_range _ _ _ hj]
    by_cases h : j < i
    · rw [if_pos h, if_pos (by omega)]
    · rw [if_neg h, if_neg (by omega)]

/-- the message behind one byte 80 and k bytes 00 -/
def padk (l : List Nat) (k : Nat) : List Nat := l ++ [128] ++ List.replicate k 0
theorem padk_len (l : List Nat) (k : Nat) : (padk l k).length = l.length + 1 + k := by simp [padk]; omega
theorem padk_succ (l : List Nat) (k : Nat) : padk l k ++ [0] = padk l (k + 1) := by
  unfold padk; rw [List.append_assoc, ← List.replicate_succ']
theorem padk_zero (l : List Nat) : padk l 0 = l ++ [128] := by simp [padk]
theorem pad_padk (l : List Nat) : pad l = padk l (zeros l.length) ++ beB (8 * l.length) 8 := rfl
theorem zeros_lt (n : Nat) : zeros n < 64 := Nat.mod_lt _ (by omega)
theorem zeros_stop (n k : Nat) (hk : k ≤ zeros n) : (n + 1 + k) % 64 = 56 ↔ k = zeros n := by unfold zeros at *; omega

/-! the reference's spelling of a round -/
theorem not32_testBit (e i : Nat) (he : e < 4294967296) : (4294967295 - e).testBit i = (decide (i < 32) && !e.testBit i) := by
  have h := Nat.testBit_two_pow_sub_succ (n := 32) he i
  rwa [show 2 ^ 32 - (e + 1) = 4294967295 - e from by omega] at h
theorem hi_false (x i : Nat) (hx : x < 4294967296) (hi : 32 ≤ i) : x.testBit i = false :=
  Nat.testBit_lt_two_pow (Nat.lt_of_lt_of_le hx (Nat.pow_le_pow_right (n := 2) (i := 32) (by omega) hi))
theorem ch_or (e f g : Nat) (he : e < 4294967296) : (e &&& f) ||| ((4294967295 - e) &&& g) = ch e f g := by
  apply Nat.eq_of_testBit_eq
  intro i
  simp only [ch, Nat.testBit_or, Nat.testBit_xor, Nat.testBit_and, not32_testBit e i he]
  cases e.testBit i <;> cases f.testBit i <;> cases g.testBit i <;> simp
theorem mj_or (a b c : Nat) : (a &&& b) ||| (a &&& c) ||| (b &&& c) = mj a b c := by
  apply Nat.eq_of_testBit_eq
  intro i
  simp only [mj, Nat.testBit_or, Nat.testBit_xor, Nat.testBit_and]
  cases a.testBit i <;> cases b.testBit i <;> cases c.testBit i <;> rfl
end Go.Proofs.YtcdmbknmmnaocaaDoor.Sh
