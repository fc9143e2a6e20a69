/-
  Words for the walk of NoncesOnce.
-/
import Derived.Test.YtaaldjmopifcjaaNStepAux
import Derived.Test.YtaaldjmopifcjaaNDa
import Derived.Test.YtaaldjmopifcjaaHld
namespace Go.Proofs.Ytaaldjmopifcjaa
open Go.RowKit Sh

/-! valid allocators -/
theorem chk_facts {cs : List Nat} {N m l r : Nat} (hn : cs.length = N) (h : chk cs m l r = 0) : ¬ (N < 1 ∨ 8 < N ∨ l < m ∨ r < 1 ∨ 4294967296 < r ∨ l < r) ∧ ∀ i, i < N → cs.getD i 0 ≤ m := by
  have h1 : ¬ (N < 1 ∨ 8 < N ∨ l < m ∨ r < 1 ∨ 4294967296 < r ∨ l < r) := fun hb => by
    rw [chk_head hn hb] at h
    cases h
  refine ⟨h1, fun i hi => ?_⟩
  rcases Nat.lt_or_ge m (cs.getD i 0) with hlt | hge
  · rw [chk_tail hn h1, any_hit (k := i) (by omega) hlt] at h
    cases h
  · exact hge
theorem chk_make {cs : List Nat} {N m l r : Nat} (hn : cs.length = N) (h : ¬ (N < 1 ∨ 8 < N ∨ l < m ∨ r < 1 ∨ 4294967296 < r ∨ l < r)) (hc : ∀ i, i < N → cs.getD i 0 ≤ m) : chk cs m l r = 0 := by
  rw [chk_tail hn h, any_miss (fun i hi => hc i (by omega))]
  rfl
theorem getD_rep {n m i : Nat} (hi : i < n) : (List.replicate n m).getD i 0 = m := by
  simp [List.getD_eq_getElem?_getD, hi]
theorem getD_set (cs : List Nat) (s v i : Nat) (hi : i < cs.length) : (cs.set s v).getD i 0 = if s = i then v else cs.getD i 0 := by
  simp only [List.getD_eq_getElem?_getD, List.getElem?_set]
  by_cases h : s = i
  · subst h; simp [hi]
  · simp [h]

/-- what was given lies below the counters -/
def Given (gs : List (Nat × Nat)) (N : Nat) (cs : List Nat) : Prop := ∀ p ∈ gs, p.1 < N ∧ p.2 < cs.getD p.1 0
theorem Given.rep {gs : List (Nat × Nat)} {N m : Nat} {cs : List Nat} (h : Given gs N cs) (hc : ∀ i, i < N → cs.getD i 0 ≤ m) : Given gs N (List.replicate N m) := fun p hp => by
  obtain ⟨h1, h2⟩ := h p hp
  refine ⟨h1, ?_⟩
  rw [getD_rep h1]
  exact Nat.lt_of_lt_of_le h2 (hc _ h1)
theorem Given.take {gs : List (Nat × Nat)} {N s v : Nat} {cs : List Nat} (h : Given gs N cs) (hl : cs.length = N) (hs : s < N) (hv : cs.getD s 0 = v) : Given (gs ++ [(s, v)]) N (cs.set s (v + 1)) := fun p hp => by
  rcases List.mem_append.1 hp with hp | hp
  · obtain ⟨h1, h2⟩ := h p hp
    refine ⟨h1, ?_⟩
    rw [getD_set _ _ _ _ (by omega)]
    split
    · rename_i he
      rw [← he, hv] at h2
      omega
    · exact h2
  · rw [List.mem_singleton.1 hp]
    refine ⟨hs, ?_⟩
    rw [getD_set _ _ _ _ (by simp; omega), if_pos rfl]
    simp
def gv (gs : List (Nat × Nat)) : List Value := gs.flatMap fun p => [Value.int .u32 (p.1 : Int), Value.int .u64 (p.2 : Int)]
theorem gv_app (gs : List (Nat × Nat)) (p : Nat × Nat) : gv (gs ++ [p]) = gv gs ++ [Value.int .u32 (p.1 : Int), Value.int .u64 (p.2 : Int)] := by
  simp [gv]
theorem gv_get : ∀ (gs : List (Nat × Nat)) (k : Nat) (p : Nat × Nat), gs[k]? = some p → (gv gs)[k * 2]? = some (.int .u32 (p.1 : Int)) ∧ (gv gs)[k * 2 + 1]? = some (.int .u64 (p.2 : Int))
  | [], k, p, h => by simp at h
  | a :: gs, 0, p, h => by
    simp at h
    subst h
    simp [gv]
  | a :: gs, k + 1, p, h => by
    have ih := gv_get gs k p (by simpa using h)
    rw [show (k + 1) * 2 = k * 2 + 1 + 1 from by omega]
    simpa [gv] using ih

theorem neNo (s c s' c' : Nat) (h : s ≠ s' ∨ c ≠ c') (w : World) : (Op.equalIn 10000 35 (.agg (noV s c)) (.agg (noV s' c'))).run Try.prog w = .ok false w := by
  unfold noV
  rcases Nat.decEq s s' with hs | hs
  · have hs' : ¬ (s : Int) = (s' : Int) := by omega
    go_simp
  · subst hs
    have hc' : ¬ (c : Int) = (c' : Int) := by omega
    go_simp
theorem zeroAl (w : World) : (zeroValue 25).run Try.prog w = .ok (.agg (alV none 0 0 0 0 0)) w := by kernel_rfl
theorem zeroNo (w : World) : (zeroValue 35).run Try.prog w = .ok (.agg (noV 0 0)) w := by kernel_rfl
theorem noV_one (s c : Nat) : ∀ v ∈ (noV s c).toList, v.oneCell' = true := by
  intro v hv
  simp [noV] at hv
  rcases hv with rfl | rfl <;> rfl

theorem own_base {w : World} {b b' : Nat} {e : TypeId} {size n : Nat} {v : Value} {xs : List Value} (h : w.ownsRow b e size v n xs) (hb : b' ≤ b) : w.ownsRow b' e size v n xs := by
  refine ⟨h.1, ?_⟩
  rcases h.2 with h0 | ⟨g, cap, cur, h1, h2, h3⟩
  · exact Or.inl h0
  · exact Or.inr ⟨g, cap, cur, h1, Nat.le_trans hb h2, h3⟩
theorem check_to (A : Option Addr) (n c m l r B : Nat) (cs : List Nat) (hc : chk cs m l r = 0) (w : World) (hr : Reads w B 1 A n (nv .u64 cs)) (hB : B ≤ w.heap.size) :
    Calls Try.prog 11 #[.agg (alV A n c m l r)] w fun e w' => e = .returned (.int .i64 0) ∧ Below w.heap.size w w' := by
  have h := check_any A n c m l r B cs w hr hB
  rw [hc] at h
  exact h
/-- the blocks of NoncesOnce -/
structure OnMem (A5 N L R c M g B sn : Nat) (cs : List Nat) (SA : Option Addr) (sl : List Nat) (gvv : Value) (gs : List (Nat × Nat)) (w wr : World) : Prop where
  a : Blk wr A5 25 (alV (some ⟨g, 0, none⟩) N c M L R)
  ct : ∃ cur, Blk wr g 23 cur
  r : Reads wr (g + 1) 1 (some ⟨g, 0, none⟩) N (nv .u64 cs)
  s : Reads wr B 1 SA sn (nv .u8 sl)
  o : wr.ownsRow w.heap.size 35 2 gvv gs.length (gv gs)
  hB : B ≤ w.heap.size
  hA : w.heap.size ≤ A5
  bel : Below w.heap.size w wr
section
variable {A5 N L R c M g B sn : Nat} {cs : List Nat} {SA : Option Addr} {sl : List Nat} {gvv : Value} {gs : List (Nat × Nat)} {w wr w2 : World}
theorem OnMem.glt (h : OnMem A5 N L R c M g B sn cs SA sl gvv gs w wr) : g < wr.heap.size := by
  obtain ⟨_, h0⟩ := h.ct
  exact h0.lt
theorem OnMem.below (h : OnMem A5 N L R c M g B sn cs SA sl gvv gs w wr) (b : Below wr.heap.size wr w2) : OnMem A5 N L R c M g B sn cs SA sl gvv gs w w2 := by
  have h1 := h.glt
  have h2 := h.bel.size
  have h3 := h.hB
  obtain ⟨cur, h0⟩ := h.ct
  exact ⟨h.a.below b h.a.lt, ⟨cur, h0.below b h0.lt⟩, h.r.below (b.mono (by omega)), h.s.below (b.mono (by omega)), own_below h.o b (Nat.le_refl _), h.hB, h.hA, h.bel.trans (b.mono h2)⟩
theorem OnMem.alloc_ (h : OnMem A5 N L R c M g B sn cs SA sl gvv gs w wr) (o : Obj) : OnMem A5 N L R c M g B sn cs SA sl gvv gs w (wr.alloc o) := h.below ((Below.refl _ _).alloc (Nat.le_refl _) _)
theorem OnMem.drew_ (h : OnMem A5 N L R c M g B sn cs SA sl gvv gs w wr) : OnMem A5 N L R c M g B sn cs SA sl gvv gs w wr.drew := ⟨h.a.drew, h.ct.imp fun _ h => h.drew, h.r.drew, h.s.drew, own_drew h.o, h.hB, h.hA, below_drewN h.bel 1⟩
theorem own_row {t : TypeId} {old cs : Array Value} {base n K : Nat} {v : Value} {xs : List Value} (h : wr.ownsRow base 35 2 v n xs) (hb : Blk wr K t old) (hne : 35 ≠ t) : (wr.setRow K cs).ownsRow base 35 2 v n xs :=
  h.kept (row := some K) ⟨rfl, rfl, rfl, by simp [World.setRow], fun k _ hk => setRow_other wr K cs k (fun e => hk (by rw [e]))⟩ (Or.inr (own_blk_ne h hb hne))
/-- a row that is no counter, nor what was given, nor the allocator, is written -/
theorem OnMem.other (h : OnMem A5 N L R c M g B sn cs SA sl gvv gs w wr) {K : Nat} {t : TypeId} {old : Array Value} (hb : Blk wr K t old) (hne : 35 ≠ t ∨ gvv.ownBlock ≠ some K) (hK : w.heap.size ≤ K) (hA : A5 ≠ K) (hg : g < K ∨ K < g) (cs' : Array Value) : OnMem A5 N L R c M g B sn cs SA sl gvv gs w (wr.setRow K cs') := by
  have h3 := h.hB
  have hgk : g ≠ K := by omega
  refine ⟨h.a.rowFar (Ne.symm hA) cs', h.ct.imp fun _ h0 => h0.rowFar (Ne.symm hgk) cs', ?_, h.s.below ((below_setRow (Below.refl _ _) hK cs').mono (by omega)), ?_, h.hB, h.hA, below_setRow h.bel hK cs'⟩
  · refine ⟨h.r.1, fun hn => ?_⟩
    obtain ⟨ad, e, hlt, hc⟩ := h.r.2 hn
    injection e with e
    subst e
    refine ⟨_, rfl, hlt, fun j u hu => ?_⟩
    rw [← hc j u hu]
    exact World.cell?_of_block (by rw [block_of_add]; exact setRow_other wr K cs' g (Ne.symm hgk))
  · rcases hne with hne | hne
    · exact own_row h.o hb hne
    · exact h.o.kept (row := some K) ⟨rfl, rfl, rfl, by simp [World.setRow], fun k _ hk => setRow_other wr K cs' k (fun e => hk (by rw [e]))⟩ (Or.inr hne)
/-- the allocator is written -/
theorem OnMem.next (h : OnMem A5 N L R c M g B sn cs SA sl gvv gs w wr) {c' M' g' : Nat} {cs' : List Nat} (hb : Blk wr g' 23 (va .u64 cs')) (hl : cs'.length = N) :
    OnMem A5 N L R c' M' g' B sn cs' SA sl gvv gs w (wr.setRow A5 (alV (some ⟨g', 0, none⟩) N c' M' L R)) := by
  have h3 := h.hB
  have h4 := h.hA
  have hne : g' ≠ A5 := hb.ne_ h.a (by decide)
  exact ⟨h.a.row _, ⟨_, hb.rowFar (Ne.symm hne) _⟩, (hb.rowFar (Ne.symm hne) _).readsAll (Nat.lt_succ_self _) hl, h.s.below ((below_setRow (Below.refl _ _) h.hA _).mono (by omega)), own_row h.o h.a (by decide), h.hB, h.hA, below_setRow h.bel h.hA _⟩
theorem OnMem.first (ho : wr.ownsRow w.heap.size 23 1 (.slice (some ⟨g, 0, none⟩) N c) N (nv .u64 cs)) (hN : 1 ≤ N) (hs : Reads w B 1 SA sn (nv .u8 sl)) (hB : B ≤ w.heap.size) (b : Below w.heap.size w wr) :
    OnMem wr.heap.size N L R c M g B sn cs SA sl (.slice none 0 0) [] w (wr.alloc (.cells (alV (some ⟨g, 0, none⟩) N c M L R) 25)) := by
  have hg := own_lt ho
  have hct : ∃ cur, Blk wr g 23 cur := by
    rcases ho.2 with ⟨_, h0⟩ | ⟨g', cap, cur, e, _, hh, _⟩
    · omega
    · injection e with e _ _
      injection e with e
      injection e with e
      subst e
      exact ⟨cur, hh⟩
  have hrd : Reads wr (g + 1) 1 (some ⟨g, 0, none⟩) N (nv .u64 cs) := ⟨by have := ho.1; simpa using this, fun _ => ⟨_, rfl, Nat.lt_succ_self _, fun j u hu => ho.cells rfl j u hu⟩⟩
  refine ⟨Blk.new _ _ _, hct.imp fun _ h => h.alloc _, hrd.alloc (by omega) _, (hs.below (b.mono hB)).alloc (by have := b.size; omega) _, World.ownsRow_nil _ _ _ _, hB, b.size, b.alloc b.size _⟩
theorem OnMem.own_ne (h : OnMem A5 N L R c M g B sn cs SA sl gvv gs w wr) : gvv.ownBlock ≠ some wr.heap.size := by
  rcases h.o.2 with ⟨e, _⟩ | ⟨g', cap, cur, e, _, hh, _⟩
  · rw [e]; simp [Value.ownBlock]
  · rw [e]
    intro he
    have e2 : g' = wr.heap.size := by simpa [Value.ownBlock] using he
    have : g' < wr.heap.size := Blk.lt (t := 35) (cs := cur) hh
    omega
theorem OnMem.step {i x : Nat} {ad : Addr} (h : OnMem A5 N L R c M g B sn cs (some ad) sl gvv gs w wr) (hi : i < sn) (hx : sl.getD i 0 = x) : wr.cell? (ad.add i) = some (.int .u8 (x : Int)) := by
  obtain ⟨_, e, _, hc⟩ := h.s.num hi
  injection e with e
  subst e
  rw [hx] at hc
  exact hc
theorem OnMem.grown {v' : Value} {s v : Nat} (h : OnMem A5 N L R c M g B sn cs SA sl gvv gs w wr) (hg : wr.grownBy w2 gvv.ownBlock) (ho : w2.ownsRow w.heap.size 35 2 v' (gs.length + 1) (gv gs ++ [.int .u32 (s : Int), .int .u64 (v : Int)])) :
    OnMem A5 N L R c M g B sn cs SA sl v' (gs ++ [(s, v)]) w w2 := by
  have hb := h.hB
  have hlow : ∀ k, k < w.heap.size → some k ≠ gvv.ownBlock := fun k hk he => by
    rcases h.o.2 with ⟨e, _⟩ | ⟨g', cap, cur, e, hle, _⟩
    · rw [e] at he; simp [Value.ownBlock] at he
    · rw [e] at he
      have : k = g' := by simpa [Value.ownBlock] using he
      omega
  have hsz := h.bel.size
  have hbel : Below w.heap.size w w2 := h.bel.trans ⟨hg.os, hg.tape, hg.output, hg.size, fun k hk => hg.block k (by omega) (hlow k hk)⟩
  have hbel2 : Below w.heap.size wr w2 := ⟨hg.os, hg.tape, hg.output, hg.size, fun k hk => hg.block k (by omega) (hlow k hk)⟩
  obtain ⟨cur, hcur⟩ := h.ct
  have hgne : some g ≠ gvv.ownBlock := Ne.symm (own_blk_ne h.o hcur (by decide))
  refine ⟨h.a.grown hg (Ne.symm (own_blk_ne h.o h.a (by decide))), ⟨cur, hcur.grown hg hgne⟩, ?_, h.s.below (hbel2.mono hb), ?_, h.hB, h.hA, hbel⟩
  · refine ⟨h.r.1, fun hn => ?_⟩
    obtain ⟨ad, e, hlt, hc⟩ := h.r.2 hn
    injection e with e
    subst e
    refine ⟨_, rfl, hlt, fun j u hu => ?_⟩
    rw [← hc j u hu]
    exact World.cell?_of_block (by rw [block_of_add]; exact hg.block g hcur.lt hgne)
  · rw [List.length_append, gv_app]
    exact ho
end
/-- the blocks beside: the allocator before the step -/
structure OpMem (A5 P8 N L R c M g B sn : Nat) (cs : List Nat) (SA : Option Addr) (sl : List Nat) (gvv : Value) (gs : List (Nat × Nat)) (w wr : World) : Prop where
  m : OnMem A5 N L R c M g B sn cs SA sl gvv gs w wr
  p : Blk wr P8 25 (alV (some ⟨g, 0, none⟩) N c M L R)
  hA : A5 < P8
  hg : g < P8
section
variable {A5 P8 N L R c M g B sn : Nat} {cs : List Nat} {SA : Option Addr} {sl : List Nat} {gvv : Value} {gs : List (Nat × Nat)} {w wr w2 : World}
theorem OpMem.below (h : OpMem A5 P8 N L R c M g B sn cs SA sl gvv gs w wr) (b : Below wr.heap.size wr w2) : OpMem A5 P8 N L R c M g B sn cs SA sl gvv gs w w2 := ⟨h.m.below b, h.p.below b h.p.lt, h.hA, h.hg⟩
theorem OpMem.drew_ (h : OpMem A5 P8 N L R c M g B sn cs SA sl gvv gs w wr) : OpMem A5 P8 N L R c M g B sn cs SA sl gvv gs w wr.drew := ⟨h.m.drew_, h.p.drew, h.hA, h.hg⟩
theorem OpMem.alloc_ (h : OpMem A5 P8 N L R c M g B sn cs SA sl gvv gs w wr) (o : Obj) : OpMem A5 P8 N L R c M g B sn cs SA sl gvv gs w (wr.alloc o) := h.below ((Below.refl _ _).alloc (Nat.le_refl _) _)
theorem OpMem.other (h : OpMem A5 P8 N L R c M g B sn cs SA sl gvv gs w wr) {K : Nat} {t : TypeId} {old : Array Value} (hb : Blk wr K t old) (hne : 35 ≠ t ∨ gvv.ownBlock ≠ some K) (hK : P8 < K) (cs' : Array Value) : OpMem A5 P8 N L R c M g B sn cs SA sl gvv gs w (wr.setRow K cs') := by
  have h1 := h.hA
  have h2 := h.hg
  have h3 := h.m.hA
  exact ⟨h.m.other hb hne (by omega) (by omega) (by omega) cs', h.p.rowFar (by omega) cs', h.hA, h.hg⟩
end
/-- while what was given is looked through -/
structure OqMem (A5 P8 P13 N L R c M g c8 M8 g8 B sn s v : Nat) (cs : List Nat) (SA : Option Addr) (sl : List Nat) (gvv : Value) (gs : List (Nat × Nat)) (w wr : World) : Prop where
  m : OnMem A5 N L R c M g B sn cs SA sl gvv gs w wr
  p : Blk wr P8 25 (alV (some ⟨g8, 0, none⟩) N c8 M8 L R)
  q : Blk wr P13 35 (noV s v)
theorem OqMem.drew_ {A5 P8 P13 N L R c M g c8 M8 g8 B sn s v : Nat} {cs : List Nat} {SA : Option Addr} {sl : List Nat} {gvv : Value} {gs : List (Nat × Nat)} {w wr : World} (h : OqMem A5 P8 P13 N L R c M g c8 M8 g8 B sn s v cs SA sl gvv gs w wr) : OqMem A5 P8 P13 N L R c M g c8 M8 g8 B sn s v cs SA sl gvv gs w wr.drew := ⟨h.m.drew_, h.p.drew, h.q.drew⟩
theorem OqMem.grownP {A5 P8 P13 N L R c M g c8 M8 g8 B sn s v : Nat} {cs : List Nat} {SA : Option Addr} {sl : List Nat} {gvv : Value} {gs : List (Nat × Nat)} {w wr w2 : World} {o : Obj} (h : OqMem A5 P8 P13 N L R c M g c8 M8 g8 B sn s v cs SA sl gvv gs w wr) (hg : (wr.alloc o).grownBy w2 gvv.ownBlock) :
    Blk w2 P8 25 (alV (some ⟨g8, 0, none⟩) N c8 M8 L R) :=
  (h.p.alloc o).grown hg (Ne.symm (own_blk_ne (h.m.alloc_ o).o (h.p.alloc o) (by decide)))
theorem no_info : (Try.prog.info? 35).map (fun i => (i.zero, i.size, i.bytes)) = some (some (.agg (noV 0 0)), 2, 16) := by kernel_rfl
theorem reads_new (wr : World) (s v : Nat) : Reads (wr.alloc (.cells #[.int .u32 (s : Int), .int .u64 (v : Int)] 35)) (wr.heap.size + 1) 2 (some ⟨wr.heap.size, 0, none⟩) 1 [.int .u32 (s : Int), .int .u64 (v : Int)] := by
  have hb : Blk (wr.alloc (.cells (noV s v) 35)) wr.heap.size 35 (noV s v) := Blk.new _ _ _
  obtain ⟨h0, h1⟩ := noV_cells hb
  refine ⟨rfl, fun _ => ⟨_, rfl, Nat.lt_succ_self _, fun j u hu => ?_⟩⟩
  rw [add_none, Nat.zero_add]
  match j, hu with
  | 0, hu => simp at hu; subst hu; exact h0
  | 1, hu => simp at hu; subst hu; exact h1
  | j + 2, hu => simp at hu
theorem OnMem.shape {A5 N L R c M g B sn : Nat} {cs : List Nat} {SA : Option Addr} {sl : List Nat} {gvv : Value} {gs : List (Nat × Nat)} {w wr : World} (h : OnMem A5 N L R c M g B sn cs SA sl gvv gs w wr) : ∃ GA cap, gvv = .slice GA gs.length cap := by
  rcases h.o.2 with ⟨e, h0⟩ | ⟨g', cap, _, e, _⟩
  · exact ⟨none, 0, by rw [h0]; exact e⟩
  · exact ⟨_, cap, e⟩
theorem own_of {A5 N L R c M g B sn k : Nat} {cs : List Nat} {SA : Option Addr} {sl : List Nat} {gvv : Value} {gs : List (Nat × Nat)} {w wr : World} (h : OnMem A5 N L R c M g B sn cs SA sl gvv gs w wr) (hk : gs.length = k) : wr.ownsRow w.heap.size 35 2 gvv k (gv gs) := hk ▸ h.o
theorem OqMem.pair {A5 P8 P13 N L R c M g c8 M8 g8 B sn s v gg cap k s' v' : Nat} {cs : List Nat} {SA : Option Addr} {sl : List Nat} {gs : List (Nat × Nat)} {w wr : World} (h : OqMem A5 P8 P13 N L R c M g c8 M8 g8 B sn s v cs SA sl (.slice (some ⟨gg, 0, none⟩) gs.length cap) gs w wr) (hk : gs[k]? = some (s', v')) :
    wr.rangeAt gg (k * 2) [.int .u32 (s' : Int), .int .u64 (v' : Int)] := by
  obtain ⟨h0, h1⟩ := gv_get gs k (s', v') hk
  intro j u hu
  have hc := h.m.o.cells (g := gg) rfl
  match j, hu with
  | 0, hu =>
    have := hc (k * 2) _ h0
    rw [add_none, Nat.zero_add] at this
    simp at hu
    subst hu
    exact this
  | 1, hu =>
    have := hc (k * 2 + 1) _ h1
    rw [add_none, Nat.zero_add] at this
    simp at hu
    subst hu
    exact this
  | j + 2, hu => simp at hu
theorem pair_of {A5 P8 P13 N L R c M g c8 M8 g8 B sn s v gg cap k s' v' kk : Nat} {cs : List Nat} {SA : Option Addr} {sl : List Nat} {gs : List (Nat × Nat)} {w wr : World} (h : OqMem A5 P8 P13 N L R c M g c8 M8 g8 B sn s v cs SA sl (.slice (some ⟨gg, 0, none⟩) kk cap) gs w wr) (hkk : gs.length = kk) (hk : gs[k]? = some (s', v')) :
    wr.rangeAt gg (k * 2) [.int .u32 (s' : Int), .int .u64 (v' : Int)] := by
  subst hkk
  exact h.pair hk
end Go.Proofs.Ytaaldjmopifcjaa
