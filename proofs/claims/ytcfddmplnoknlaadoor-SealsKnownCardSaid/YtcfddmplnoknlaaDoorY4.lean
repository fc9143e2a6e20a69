/-
  Byte slices that a function owns and appends to.
-/
import Derived.Test.YtcfddmplnoknlaaDoorY3
import Derived.BigRegion
import Derived.Deep.AppendLies
namespace Go.Proofs.YtcfddmplnoknlaaDoor
set_option maxRecDepth 16384
open Go.RowKit Sh

def Own (w : World) (B0 : Nat) (A : Option Addr) (n c : Nat) (l : List Nat) : Prop := w.ownsRow B0 5 1 (.slice A n c) n (nv .u8 l)
def Off (A : Option Addr) (x : Nat) : Prop := ∀ a, A = some a → a.block ≠ x
section
variable {w w' : World} {B0 n c : Nat} {A : Option Addr} {l : List Nat}
theorem ob_of (A : Option Addr) (n c k : Nat) : (Value.slice A n c).ownBlock = some k ↔ ∃ a, A = some a ∧ a.block = k := by
 cases A <;> simp [Value.ownBlock]
theorem Off.ob {x : Nat} (h : Off A x) (n c : Nat) : some x ≠ (Value.slice A n c).ownBlock := fun e => by
 obtain ⟨a, ha, hb⟩ := (ob_of A n c x).1 e.symm
 exact h a ha hb
theorem Off.nil (x : Nat) : Off none x := fun _ h => by cases h
theorem Own.len (h : Own w B0 A n c l) : l.length = n := by have := h.1; rw [nv_len] at this; omega
theorem Own.cap (h : Own w B0 A n c l) : n ≤ c := by
  rcases h.2 with ⟨e, h0⟩ | ⟨g, cap, cur, e, _, _, hc, _⟩
  · omega
  · injection e with _ _ e3; omega
theorem Own.lt (h : Own w B0 A n c l) {a : Addr} (ha : A = some a) : B0 ≤ a.block ∧ a.block < w.heap.size :=
 World.ownsRow.lt h a.block ((ob_of A n c _).2 ⟨a, ha, rfl⟩)
theorem Own.kept {row : Option Nat} (h : Own w B0 A n c l) (hg : w.grownBy w' row) (hne : ∀ a, A = some a → some a.block ≠ row) : Own w' B0 A n c l := by
 refine World.ownsRow.kept h hg ?_
 cases A with
 | none => exact .inl rfl
 | some a => exact .inr (hne a rfl)
theorem grown_of_below {w w' : World} (h : Below w.heap.size w w') : w.grownBy w' none := ⟨h.os, h.tape, h.output, h.size, fun k hk _ => h.block k hk⟩
theorem Own.below (h : Own w B0 A n c l) (bx : Below w.heap.size w w') : Own w' B0 A n c l := h.kept (grown_of_below bx) (fun _ _ => by simp)
theorem Own.alloc (h : Own w B0 A n c l) (o : Obj) : Own (w.alloc o) B0 A n c l := World.ownsRow.alloc h o
theorem Own.drew_ (h : Own w B0 A n c l) : Own w.drew B0 A n c l := h
theorem grown_row (w : World) (g : Nat) (cs : Array Value) : w.grownBy (w.setRow g cs) (some g) := ⟨rfl, rfl, rfl, by simp [World.setRow], fun k _ hne => setRow_other w g cs k (fun e => hne (by rw [e]))⟩
theorem Own.rowFar {g : Nat} (h : Own w B0 A n c l) (hne : Off A g) (cs : Array Value) : Own (w.setRow g cs) B0 A n c l :=
 h.kept (grown_row w g cs) (fun a ha e => hne a ha (Option.some.inj e))
theorem Own.far (h : Own w B0 A n c l) {p : Addr} (hne : Off A p.block) (u : Value) : Own (w.setCell p u) B0 A n c l :=
 h.kept (row := some p.block) ⟨rfl, rfl, rfl, by simp [World.setCell], fun k _ hk => Below.heap_setCell w p u k (fun e => hk (by rw [e]))⟩ (fun a ha e => hne a ha (Option.some.inj e))
theorem Own.freeze_ {g k m : Nat} (h : Own w B0 A n c l) (hne : Off A g) : Own (w.freeze ⟨g, k, none⟩ m) B0 A n c l := by
  by_cases h0 : m = 0
  · have e : w.freeze ⟨g, k, none⟩ m = w := by unfold World.freeze; rw [if_pos h0]
    rw [e]; exact h
  · refine h.kept (row := some g) ⟨?_, ?_, ?_, by rw [freeze_size]; exact Nat.le_refl _, fun j _ hj => ?_⟩ (fun a ha e => hne a ha (Option.some.inj e))
    · unfold World.freeze; rw [if_neg h0]
    · unfold World.freeze; rw [if_neg h0]
    · unfold World.freeze; rw [if_neg h0]
    · unfold World.freeze
      rw [if_neg h0]
      simp only [Array.getElem?_modify]
      rw [if_neg (fun e => hj (by rw [e]))]
theorem Own.reads (h : Own w B0 A n c l) : Reads w w.heap.size 1 A n (nv .u8 l) := Reads.of_own h
theorem Own.nil (w : World) (B0 : Nat) : Own w B0 none 0 0 [] := World.ownsRow_nil w B0 _ _
theorem Own.new_off (h : Own w B0 A n c l) : Off A w.heap.size := fun a ha e => by have := (h.lt ha).2; omega
theorem Own.off_lt (h : Own w B0 A n c l) {x : Nat} (hx : x < B0) : Off A x := fun a ha e => by have := (h.lt ha).1; omega
theorem Own.off_ge (h : Own w B0 A n c l) {x : Nat} (hx : w.heap.size ≤ x) : Off A x := fun a ha e => by have := (h.lt ha).2; omega
theorem Blk.owned {g : Nat} (h : Blk w g 5 (va .u8 l)) (hn : l.length = n) (hb : B0 ≤ g) (hm : n ≤ maxLen) : Own w B0 (some ⟨g, 0, none⟩) n n l := Blk.own h hn hb hm
theorem Own.mono {B1 : Nat} (h : Own w B0 A n c l) (hb : B1 ≤ B0) : Own w B1 A n c l := by
  refine ⟨h.1, ?_⟩
  rcases h.2 with h0 | ⟨g, cap, cur, e, hg, r⟩
  · exact .inl h0
  · exact .inr ⟨g, cap, cur, e, Nat.le_trans hb hg, r⟩
theorem Own.form (h : Own w B0 A n c l) : A = none ∧ n = 0 ∧ c = 0 ∨ ∃ g, A = some ⟨g, 0, none⟩ ∧ B0 ≤ g ∧ g < w.heap.size := by
  rcases h.2 with ⟨e, h0⟩ | ⟨g, cap, cur, e, hb, hh, _⟩
  · injection e with e1 e2 e3
    exact .inl ⟨e1, h0, e3⟩
  · injection e with e1
    exact .inr ⟨g, e1, hb, (Array.getElem?_eq_some_iff.1 hh).1⟩
theorem own_append (h : Own w B0 A n c l) (A2 : Option Addr) (n2 c2 B : Nat) (m : List Nat) (hr : Reads w B 1 A2 n2 (nv .u8 m)) (hB0 : B0 ≤ w.heap.size) (new : List Nat) (hnew : l ++ m = new) (N : Nat) (hN : n + n2 = N) (hmax : N ≤ 100000000) (ty : TypeId) :
    ∃ A' c' w', (Builtin.append_ #[34, 34] ty #[.slice A n c, .slice A2 n2 c2]).run Tryd.prog w = .ok (.slice A' N c') w' ∧ Own w' B0 A' N c' new ∧ N ≤ c' ∧ w.grownBy w' (Value.slice A n c).ownBlock ∧
      ∀ x, Off A x → x < w.heap.size → Off A' x := by
  subst hnew hN
  obtain ⟨i0, hi0, hz0, hz1, hz2⟩ := info_parts byte_info
  obtain ⟨v', w', hrun, h2, h3, h4⟩ := run_append_any (P := Tryd.prog) w B0 34 ty 5 i0 (.int .u8 0) 1 1 Tryd.underlying34 hi0 hz0 hz1 hz2 rfl (by omega) (.slice A n c) n (nv .u8 l) h B A2 n2 c2 (nv .u8 m) hr (nv_one _ _)
    (by unfold maxLen; omega) (by omega) hB0
  have hf : ∃ A' c', v' = .slice A' (n + n2) c' ∧ n + n2 ≤ c' := by
    rcases h2.2 with ⟨e, h0⟩ | ⟨g, cap, cur, e, _, _, hc, _⟩
    · exact ⟨none, 0, by rw [e, h0], by omega⟩
    · exact ⟨_, _, e, hc⟩
  obtain ⟨A', c', rfl, hc⟩ := hf
  rw [nv_app] at h2
  refine ⟨A', c', w', hrun, h2, hc, h3, fun x hx hlt a ha e => ?_⟩
  have h5 : (Value.slice A' (n + n2) c').ownBlock = some x := (ob_of _ _ _ _).2 ⟨a, ha, e⟩
  rcases h4 with h4 | h4
  · rw [h4] at h5
    exact hx.ob n c h5.symm
  · rw [h4] at h5
    have := Option.some.inj h5
    omega
theorem Own.belowG {B : Nat} {a : World} (hW : Below B a w) (hB : B ≤ w.heap.size) (hA : ∀ k, (Value.slice A n c).ownBlock = some k → B ≤ k) (hg : w.grownBy w' (Value.slice A n c).ownBlock) : Below B a w' := hW.grown hg hB hA
theorem Own.from_ (h : Own w B0 A n c l) : ∀ k, (Value.slice A n c).ownBlock = some k → B0 ≤ k := fun k hk => (World.ownsRow.lt h k hk).1
theorem ByB.grown {g : Nat} {row : Option Nat} {m : List Nat} (h : ByB w g m) (hb : w.grownBy w' row) (hg : some g ≠ row) : ByB w' g m :=
 ⟨Nat.lt_of_lt_of_le h.lt hb.size, fun j v hv => (World.cell?_of_block (a := ⟨g, j, none⟩) (hb.block g h.lt hg)).trans (h.c j v hv)⟩
theorem Own.grown {A2 : Option Addr} {n2 c2 : Nat} (h : Own w B0 A n c l) (hb : w.grownBy w' (Value.slice A2 n2 c2).ownBlock) (hne : ∀ a, A = some a → Off A2 a.block) : Own w' B0 A n c l :=
 h.kept hb (fun a ha => (hne a ha).ob n2 c2)
theorem Own.new_sep {A2 : Option Addr} {n2 c2 : Nat} {l2 : List Nat} (_h : Own w B0 A n c l) (_h2 : Own w B0 A2 n2 c2 l2) (hs : ∀ a, A = some a → Off A2 a.block) : ∀ a, A2 = some a → Off A a.block := fun a ha b hb e => hs b hb a ha e.symm
theorem Own.readsAt {g : Nat} (h : Own w B0 (some ⟨g, 0, none⟩) n c l) (o m : Nat) (hm : o + m ≤ n) : Reads w w.heap.size 1 (some ⟨g, o, none⟩) m (nv .u8 ((l.drop o).take m)) := by
 have h1 := h.reads.part (o := o) (m := m) hm
 rwa [add_none, Nat.zero_add] at h1
theorem Own.byB {g : Nat} (h : Own w B0 (some ⟨g, 0, none⟩) n c l) : ByB w g l :=
 ⟨(h.lt rfl).2, fun j v hv => by
  have h1 := World.ownsRow.cells h (g := g) rfl j v hv
  rwa [add_none, Nat.zero_add] at h1⟩
theorem ByB.far {g : Nat} (h : ByB w g l) {p : Addr} (hne : g ≠ p.block) (u : Value) : ByB (w.setCell p u) g l :=
 ⟨by simpa [World.setCell] using h.lt, fun j v hv => (World.cell?_of_block (a := ⟨g, j, none⟩) (Below.heap_setCell w p u g hne)).trans (h.c j v hv)⟩
theorem ByB.num {g i : Nat} (h : ByB w g l) (hi : i < l.length) : w.cell? ⟨g, i, none⟩ = some (.int .u8 ((l.getD i 0 : Nat) : Int)) := h.c i _ (nv_get hi)
end
end Go.Proofs.YtcfddmplnoknlaaDoor
namespace Go.Proofs.YtcfddmplnoknlaaDoor
set_option maxRecDepth 16384
open Go.RowKit Sh
theorem sz__16_uint8 (l : List Nat) (h : l.length = 16) : (Tryd.prog.info? 22).map (·.size) = some (va .u8 l).size := by rw [va_size, h]; kernel_rfl
theorem zv__16_uint8 (w : World) : (zeroValue 22).run Tryd.prog w = .ok (.agg (va .u8 (List.replicate 16 0))) w := by kernel_rfl
theorem reads_ofS {w : World} {B B0 n : Nat} {A : Option Addr} {k : IntKind} {l : List Nat} (h : Reads w B 1 A n (nv k l)) (hB : B ≤ B0) : Hid (∀ W, Below B0 w W → Reads W B 1 A n (nv k l)) := Lib.hid fun _W hb => h.below (hb.mono hB)

theorem noV_sz (s c : Nat) : (Tryd.prog.info? 30).map (·.size) = some (noV s c).size := by kernel_rfl
theorem noV_one (s c : Nat) : ∀ v ∈ (noV s c).toList, v.oneCell' = true := by simp [noV, Value.oneCell']
theorem zv_Nonce (w : World) : (zeroValue 30).run Tryd.prog w = .ok (.agg (noV 0 0)) w := by kernel_rfl
theorem eqNoD (s c s2 c2 : Nat) (w : World) : (Op.equalIn 10000 30 (.agg (noV s c)) (.agg (noV s2 c2))).run Tryd.prog w = .ok (decide (s = s2 ∧ c = c2)) w := by
  unfold noV
  by_cases h1 : s = s2
  · subst h1
    by_cases h2 : c = c2
    · subst h2; go_simp
    · have h2I : ¬ (c : Int) = (c2 : Int) := by omega
      go_simp
  · have h1I : ¬ (s : Int) = (s2 : Int) := by omega
    go_simp
section
variable {P : Program} {w : World}
theorem exec_eqV {op : Oper} {a : Act} (t : TypeId) (hg : P.eqGuardType P.depth t = false) (x y : Operand) (t2 : TypeId) (ho : op.op = .binOp .eql t x y t2) (cs ds : Array Value) (hx : a.eval x = .agg cs) (hy : a.eval y = .agg ds) (b : Bool)
  (h : (Op.equalIn 10000 t (.agg cs) (.agg ds)).run P w = .ok b w) : (execOp a.eval op).run P w = .ok (.value (.bool b)) w := by
 have hg2 : (eqGuard .eql t x y (.agg cs) (.agg ds)).run P w = .ok () w := by simp [eqGuard, hg]
 have hb2 : (binOp .eql t (.agg cs) (.agg ds)).run P w = .ok (.bool b) w := by simp [binOp, Op.equal, h, Op.maxDepth]
 unfold execOp
 simp only [ho, hx, hy, Sem.run_bind, hg2, hb2, Result.andThen_ok, Sem.run_pure]
theorem exec_neV {op : Oper} {a : Act} (t : TypeId) (hg : P.eqGuardType P.depth t = false) (x y : Operand) (t2 : TypeId) (ho : op.op = .binOp .neq t x y t2) (cs ds : Array Value) (hx : a.eval x = .agg cs) (hy : a.eval y = .agg ds) (b c : Bool) (hc : (!b) = c)
  (h : (Op.equalIn 10000 t (.agg cs) (.agg ds)).run P w = .ok b w) : (execOp a.eval op).run P w = .ok (.value (.bool c)) w := by
 subst hc
 have hg2 : (eqGuard .neq t x y (.agg cs) (.agg ds)).run P w = .ok () w := by simp [eqGuard, hg]
 have hb2 : (binOp .neq t (.agg cs) (.agg ds)).run P w = .ok (.bool (!b)) w := by simp [binOp, Op.equal, h, Op.maxDepth]
 unfold execOp
 simp only [ho, hx, hy, Sem.run_bind, hg2, hb2, Result.andThen_ok, Sem.run_pure]
end
end Go.Proofs.YtcfddmplnoknlaaDoor
namespace Go.Proofs.YtcfddmplnoknlaaDoor.Gf
set_option maxRecDepth 16384
def invT : Nat := 3566776863222250792575350504665046155069508327501453217101429430621730038043584053371660509702620055860081156466022285956586373576971909210171343659649552507176508005971567067637526818336653057460235767741581454534757369738530565771380035673162616129401273381134793422969875859516904113580246491480877823305346558232134899738800022074717406919707935282309554844169982325935665249148669134080917255765422589041374844979786301241750162074905253618853420688398165348773793897399659421930346683507413494886767272566548764049417490863269423193139537759588741825434151586758978267398985919305201935175793127681620251050240
def subT : Nat := 2869618975290639062594974519597816386035077209210385677284518162336985023502962151465775969507961862820568736543004676439868535775640188584098917533413284844376797297285941524888791401501466624530423689326528054213168201056672989590893583853414110162539122864583953358348775951166211353578440977400428507475679327181038682772945817200201960445064847785221508011893952350688324234443749897213621340677040612747745615276448919507935121141307752692835344166708617454322778699219895865633266409040561742768581056182730443599545881830075941537620590442514083341749674612746994879540562701631131184186066652929592955206755
def xt (a : Nat) : Nat := (a * 2 % 256) ^^^ (a / 128 * 27)
def itx (a : Nat) : Nat → Nat
 | 0 => a
 | k + 1 => xt (itx a k)
def gmk (a b : Nat) : Nat → Nat
 | 0 => 0
 | k + 1 => if b.testBit k then gmk a b k ^^^ itx a k else gmk a b k
def gm (a b : Nat) : Nat := gmk a b 8

theorem xor4 (a b c d : Nat) : (a ^^^ b) ^^^ (c ^^^ d) = (a ^^^ c) ^^^ (b ^^^ d) := by
 rw [Nat.xor_assoc, Nat.xor_assoc]; congr 1
 rw [← Nat.xor_assoc, ← Nat.xor_assoc, Nat.xor_comm b c]

theorem mul27 (x y : Nat) (hx : x < 2) (hy : y < 2) : (x ^^^ y) * 27 = (x * 27) ^^^ (y * 27) := by
 have : x = 0 ∨ x = 1 := by omega
 have : y = 0 ∨ y = 1 := by omega
 rcases ‹x = 0 ∨ x = 1› with rfl | rfl <;> rcases ‹y = 0 ∨ y = 1› with rfl | rfl <;> rfl

theorem xt_lt (a : Nat) (ha : a < 256) : xt a < 256 := by
 unfold xt
 have h1 : a * 2 % 256 < 2 ^ 8 := Nat.mod_lt _ (by omega)
 have h2 : a / 128 * 27 < 2 ^ 8 := by omega
 exact Nat.xor_lt_two_pow h1 h2

theorem xt_xor (a b : Nat) (ha : a < 256) (hb : b < 256) : xt (a ^^^ b) = xt a ^^^ xt b := by
 unfold xt
 have e1 : (a ^^^ b) * 2 % 256 = (a * 2 % 256) ^^^ (b * 2 % 256) := by
  have h := @Nat.shiftLeft_xor_distrib 1 a b
  simp only [Nat.shiftLeft_eq] at h
  rw [show (a ^^^ b) * 2 = (a ^^^ b) * 2 ^ 1 from rfl, h]
  exact Nat.xor_mod_two_pow (n := 8)
 have e2 : (a ^^^ b) / 128 * 27 = (a / 128 * 27) ^^^ (b / 128 * 27) := by
  rw [show (128 : Nat) = 2 ^ 7 from rfl, Nat.xor_div_two_pow]
  exact mul27 _ _ (by omega) (by omega)
 rw [e1, e2, xor4]

theorem xor_lt (a b : Nat) (ha : a < 256) (hb : b < 256) : a ^^^ b < 256 := Nat.xor_lt_two_pow (n := 8) ha hb

theorem itx_lt (a k : Nat) (ha : a < 256) : itx a k < 256 := by
 induction k with
 | zero => exact ha
 | succ k ih => exact xt_lt _ ih

theorem itx_xor (a b k : Nat) (ha : a < 256) (hb : b < 256) : itx (a ^^^ b) k = itx a k ^^^ itx b k := by
 induction k with
 | zero => rfl
 | succ k ih => simp only [itx]; rw [ih, xt_xor _ _ (itx_lt _ _ ha) (itx_lt _ _ hb)]

theorem gmk_lt (a b k : Nat) (ha : a < 256) : gmk a b k < 256 := by
  induction k with
  | zero => simp [gmk]
  | succ k ih =>
    simp only [gmk]; split
    · exact xor_lt _ _ ih (itx_lt _ _ ha)
    · exact ih
theorem gm_lt (a b : Nat) (ha : a < 256) : gm a b < 256 := gmk_lt a b 8 ha

theorem gmk_left (a b c k : Nat) (ha : a < 256) (hb : b < 256) : gmk (a ^^^ b) c k = gmk a c k ^^^ gmk b c k := by
  induction k with
  | zero => simp [gmk]
  | succ k ih =>
    simp only [gmk]; split
    · rw [ih, itx_xor _ _ _ ha hb, xor4]
    · exact ih
theorem gm_left (a b c : Nat) (ha : a < 256) (hb : b < 256) : gm (a ^^^ b) c = gm a c ^^^ gm b c := gmk_left a b c 8 ha hb

theorem gmk_right (a b c k : Nat) : gmk a (b ^^^ c) k = gmk a b k ^^^ gmk a c k := by
  induction k with
  | zero => simp [gmk]
  | succ k ih =>
    simp only [gmk, Nat.testBit_xor, ih]
    cases b.testBit k <;> cases c.testBit k <;> simp
    · rw [Nat.xor_assoc]
    · rw [Nat.xor_assoc, Nat.xor_comm (gmk a c k), Nat.xor_assoc]
    · rw [show gmk a b k ^^^ itx a k ^^^ (gmk a c k ^^^ itx a k) = (gmk a b k ^^^ gmk a c k) ^^^ (itx a k ^^^ itx a k) from xor4 _ _ _ _, Nat.xor_self, Nat.xor_zero]
theorem gm_right (a b c : Nat) : gm a (b ^^^ c) = gm a b ^^^ gm a c := gmk_right a b c 8

theorem lin_ext (f g : Nat → Nat) (hf : ∀ a b, a < 256 → b < 256 → f (a ^^^ b) = f a ^^^ f b) (hg : ∀ a b, a < 256 → b < 256 → g (a ^^^ b) = g a ^^^ g b)
    (h : ∀ i, i < 8 → f (2 ^ i) = g (2 ^ i)) (a : Nat) (ha : a < 256) : f a = g a := by
  have h0 : f 0 = g 0 := by
    have h1 := hf 0 0 (by omega) (by omega); have h2 := hg 0 0 (by omega) (by omega)
    simp at h1 h2; rw [h1, h2]
  have key : ∀ n, n ≤ 8 → ∀ a, a < 2 ^ n → f a = g a := by
    intro n
    induction n with
    | zero => intro _ a ha; obtain rfl : a = 0 := by simpa using ha
              exact h0
    | succ n ih =>
      intro hn a ha
      by_cases hlt : a < 2 ^ n
      · exact ih (by omega) a hlt
      · have hp : 2 ^ (n + 1) = 2 ^ n + 2 ^ n := by rw [Nat.pow_succ]; omega
        have hb : 2 ^ n ≤ 2 ^ 7 := Nat.pow_le_pow_right (by omega) (by omega)
        have e : a = 2 ^ n ^^^ (a - 2 ^ n) := by
          have hlt' : a - 2 ^ n < 2 ^ n := by omega
          have := Nat.two_pow_add_eq_or_of_lt (i := n) hlt' 1
          apply Nat.eq_of_testBit_eq
          intro i
          have e2 : a = 2 ^ n + (a - 2 ^ n) := by omega
          rw [Nat.testBit_xor, Nat.testBit_two_pow]
          by_cases hi : n = i
          · subst hi
            have : (a - 2 ^ n).testBit n = false := Nat.testBit_lt_two_pow hlt'
            rw [this]; rw [e2, Nat.testBit_two_pow_add_eq, this]; simp
          · rw [e2]
            simp only [hi, decide_false, Bool.false_xor]
            rw [show 2 ^ n + (a - 2 ^ n) - 2 ^ n = a - 2 ^ n from by omega]
            have e3 : 2 ^ n + (a - 2 ^ n) = 2 ^ n ||| (a - 2 ^ n) := by simpa using this
            rw [e3, Nat.testBit_or, Nat.testBit_two_pow]; simp [hi]
        rw [e, hf _ _ (by omega) (by omega), hg _ _ (by omega) (by omega), h n (by omega), ih (by omega) _ (by omega)]
  exact key 8 (by omega) a ha

theorem bilin_ext (f g : Nat → Nat → Nat)
  (f1 : ∀ a b c, a < 256 → b < 256 → c < 256 → f (a ^^^ b) c = f a c ^^^ f b c) (f2 : ∀ a b c, a < 256 → b < 256 → c < 256 → f a (b ^^^ c) = f a b ^^^ f a c)
  (g1 : ∀ a b c, a < 256 → b < 256 → c < 256 → g (a ^^^ b) c = g a c ^^^ g b c) (g2 : ∀ a b c, a < 256 → b < 256 → c < 256 → g a (b ^^^ c) = g a b ^^^ g a c)
  (h : ∀ i, i < 8 → ∀ j, j < 8 → f (2 ^ i) (2 ^ j) = g (2 ^ i) (2 ^ j)) (a b : Nat) (ha : a < 256) (hb : b < 256) : f a b = g a b := by
 refine lin_ext (fun a => f a b) (fun a => g a b) (fun x y hx hy => f1 x y b hx hy hb) (fun x y hx hy => g1 x y b hx hy hb) (fun i hi => ?_) a ha
 have hp : (2 : Nat) ^ i < 256 := by have := Nat.pow_le_pow_right (n := 2) (by omega) (show i ≤ 7 by omega); omega
 exact lin_ext (fun b => f (2 ^ i) b) (fun b => g (2 ^ i) b) (fun x y hx hy => f2 _ x y hp hx hy) (fun x y hx hy => g2 _ x y hp hx hy) (fun j hj => h i hi j hj) b hb

theorem gm_comm (a b : Nat) (ha : a < 256) (hb : b < 256) : gm a b = gm b a :=
 bilin_ext gm (fun a b => gm b a) (fun a b c ha hb _ => gm_left a b c ha hb) (fun a b c _ _ _ => gm_right a b c) (fun a b c _ _ _ => gm_right c a b) (fun a b c _ hb hc => gm_left b c a hb hc)
  (by decide +kernel) a b ha hb

theorem gm_assoc (a b c : Nat) (ha : a < 256) (hb : b < 256) (hc : c < 256) : gm (gm a b) c = gm a (gm b c) := by
 have pw : ∀ i, i < 8 → (2 : Nat) ^ i < 256 := fun i hi => by have := Nat.pow_le_pow_right (n := 2) (by omega) (show i ≤ 7 by omega); omega
 refine lin_ext (fun a => gm (gm a b) c) (fun a => gm a (gm b c))
  (fun x y hx hy => by simp only [gm_left x y b hx hy, gm_left _ _ c (gm_lt x b hx) (gm_lt y b hy)]) (fun x y hx hy => gm_left x y _ hx hy) (fun i hi => ?_) a ha
 refine bilin_ext (fun b c => gm (gm (2 ^ i) b) c) (fun b c => gm (2 ^ i) (gm b c))
  (fun x y z hx hy _ => by simp only [gm_right, gm_left _ _ z (gm_lt _ x (pw i hi)) (gm_lt _ y (pw i hi))]) (fun x y z _ _ _ => by simp only [gm_right])
  (fun x y z hx hy _ => by simp only [gm_left x y z hx hy, gm_right]) (fun x y z _ _ _ => by simp only [gm_right]) (fun j hj k hk => ?_) b c hb hc
 revert k j i
 decide +kernel

theorem gm_one (a : Nat) (ha : a < 256) : gm a 1 = a :=
 lin_ext (fun a => gm a 1) (fun a => a) (fun x y hx hy => gm_left x y 1 hx hy) (fun _ _ _ _ => rfl) (by decide +kernel) a ha

theorem gm_zero_left (b : Nat) : gm 0 b = 0 := by
 have h := gm_left 0 0 b (by omega) (by omega)
 simpa using h
theorem gm_zero_right (a : Nat) : gm a 0 = 0 := by
 have h := gm_right a 0 0
 simpa using h
theorem one_gm (a : Nat) (ha : a < 256) : gm 1 a = a := by rw [gm_comm 1 a (by omega) ha, gm_one a ha]

/-! powers -/
def pw (a : Nat) : Nat → Nat
 | 0 => 1
 | k + 1 => gm (pw a k) a
theorem pw_lt (a k : Nat) (_ : a < 256) : pw a k < 256 := by
 induction k with
 | zero => simp [pw]
 | succ k ih => exact gm_lt _ _ ih
theorem pw_one (a : Nat) (ha : a < 256) : pw a 1 = a := by simp only [pw]; exact one_gm a ha
theorem pw_add (a m n : Nat) (ha : a < 256) : pw a (m + n) = gm (pw a m) (pw a n) := by
 induction n with
 | zero => simp only [pw, Nat.add_zero]; exact (gm_one _ (pw_lt a m ha)).symm
 | succ n ih =>
  show gm (pw a (m + n)) a = gm (pw a m) (gm (pw a n) a)
  rw [ih, gm_assoc _ _ _ (pw_lt a m ha) (pw_lt a n ha) ha]
theorem pw_gm (a k : Nat) (ha : a < 256) : pw (gm a a) k = pw a (2 * k) := by
 induction k with
 | zero => rfl
 | succ k ih =>
  show gm (pw (gm a a) k) (gm a a) = gm (gm (pw a (2 * k)) a) a
  rw [ih, gm_assoc _ _ _ (pw_lt a _ ha) ha ha]
theorem sq_odd (o a k : Nat) (ho : o < 256) (ha : a < 256) (hk : k % 2 = 1) : gm (gm o a) (pw (gm a a) (k / 2)) = gm o (pw a k) := by
 rw [pw_gm a _ ha, gm_assoc o a _ ho ha (pw_lt a _ ha)]
 congr 1
 have e : k = 1 + 2 * (k / 2) := by omega
 conv => rhs; rw [e, pw_add a 1 _ ha, pw_one a ha]
theorem sq_even (o a k : Nat) (ha : a < 256) (hk : k % 2 = 0) : gm o (pw (gm a a) (k / 2)) = gm o (pw a k) := by
 rw [pw_gm a _ ha]; congr 2; omega

/-! the table of inverses -/
def inv (a : Nat) : Nat := (invT >>> (8 * a)) % 256
theorem inv_lt (a : Nat) : inv a < 256 := Nat.mod_lt _ (by omega)
theorem gm_inv (a : Nat) (h0 : a ≠ 0) (ha : a < 256) : gm a (inv a) = 1 := by
 have h : ∀ a, a < 256 → (a == 0 || gm a (inv a) == 1) = true := by decide +kernel
 have := h a ha
 simp [h0] at this; exact this
theorem gm_cancel (a b : Nat) (h0 : a ≠ 0) (ha : a < 256) (hb : b < 256) : gm (gm b a) (inv a) = b := by
 rw [gm_assoc _ _ _ hb ha (inv_lt a), gm_inv a h0 ha, gm_one b hb]
theorem inv_uniq (a b : Nat) (ha : a < 256) (hb : b < 256) (h : gm a b = 1) : b = inv a := by
 have h0 : a ≠ 0 := by rintro rfl; rw [gm_zero_left] at h; omega
 have e := gm_cancel a b h0 ha hb
 rw [gm_comm b a hb ha, h, one_gm _ (inv_lt a)] at e
 exact e.symm
theorem sq_lin (a b : Nat) (ha : a < 256) (hb : b < 256) : gm (a ^^^ b) (a ^^^ b) = gm a a ^^^ gm b b := by
 rw [gm_left a b _ ha hb, gm_right, gm_right, gm_comm b a hb ha, Nat.xor_assoc, ← Nat.xor_assoc (gm a b), Nat.xor_self, Nat.zero_xor]
def sqs (a : Nat) : Nat → Nat
 | 0 => a
 | k + 1 => gm (sqs a k) (sqs a k)
theorem sqs_lt (a k : Nat) (ha : a < 256) : sqs a k < 256 := by
 cases k with
 | zero => exact ha
 | succ k => exact gm_lt _ _ (sqs_lt a k ha)
theorem sqs_lin (k a b : Nat) (ha : a < 256) (hb : b < 256) : sqs (a ^^^ b) k = sqs a k ^^^ sqs b k := by
 induction k with
 | zero => rfl
 | succ k ih => simp only [sqs]; rw [ih, sq_lin _ _ (sqs_lt a k ha) (sqs_lt b k hb)]
theorem sqs_pw (a k : Nat) (ha : a < 256) : sqs a k = pw a (2 ^ k) := by
 induction k with
 | zero => exact (pw_one a ha).symm
 | succ k ih => simp only [sqs]; rw [ih, ← pw_add a _ _ ha]; congr 1; rw [Nat.pow_succ]; omega
theorem pw_256 (a : Nat) (ha : a < 256) : pw a 256 = a := by
 have h : sqs a 8 = a := lin_ext (fun a => sqs a 8) (fun a => a) (sqs_lin 8) (fun _ _ _ _ => rfl) (by decide +kernel) a ha
 rw [sqs_pw a 8 ha] at h; exact h
theorem pw_255 (a : Nat) (h0 : a ≠ 0) (ha : a < 256) : pw a 255 = 1 := by
 have h : gm (pw a 255) a = a := pw_256 a ha
 have e := gm_cancel a (pw a 255) h0 ha (pw_lt a _ ha)
 rw [h, gm_inv a h0 ha] at e
 exact e.symm
theorem pw_254 (a : Nat) (h0 : a ≠ 0) (ha : a < 256) : pw a 254 = inv a := by
 refine inv_uniq a _ ha (pw_lt a _ ha) ?_
 rw [gm_comm a _ ha (pw_lt a _ ha)]
 exact pw_255 a h0 ha
theorem pw_mod (a : Nat) (h0 : a ≠ 0) (ha : a < 256) (n : Nat) : pw a (n % 255) = pw a n := by
 have h : ∀ q r, pw a (255 * q + r) = pw a r := by
  intro q r
  induction q with
  | zero => simp
  | succ q ih =>
   rw [show 255 * (q + 1) + r = 255 + (255 * q + r) from by omega, pw_add a _ _ ha, pw_255 a h0 ha, one_gm _ (pw_lt a _ ha), ih]
 conv => rhs; rw [← Nat.div_add_mod n 255]
 rw [h]
def powZ (a : Nat) (n : Int) : Nat := if a = 0 then (if n = 0 then 1 else 0) else pw a (n % 255).toNat
theorem powZ_inv (a : Nat) (ha : a < 256) : powZ a 254 = inv a := by
  unfold powZ; split
  · rename_i h; subst h; rfl
  · exact pw_254 a ‹_› ha
theorem powZ_nat (a k : Nat) (ha : a < 256) : powZ a (k : Int) = pw a k := by
  unfold powZ; split
  · rename_i h; subst h
    cases k with
    | zero => rfl
    | succ k => rw [if_neg (by omega)]; simp only [pw]; rw [gm_zero_right]
  · rw [show ((k : Int) % 255).toNat = k % 255 from by omega, pw_mod a ‹_› ha]
/-! substitutes -/
def rotl8 (b i : Nat) : Nat := (b <<< i) % 256 ||| b >>> (8 - i)
def aff (b : Nat) : Nat := (b ^^^ rotl8 b 1 ^^^ rotl8 b 2 ^^^ rotl8 b 3 ^^^ rotl8 b 4) ^^^ 99
def sub (a : Nat) : Nat := (subT >>> (8 * a)) % 256
theorem sub_lt (a : Nat) : sub a < 256 := Nat.mod_lt _ (by omega)
theorem sub_eq : ∀ a, a < 256 → aff (inv a) = sub a := by decide +kernel
/-! the reference's product -/
def cf (a b : Nat) : Nat → Nat → Bool
 | 0 => fun _ => false
 | t + 1 => fun m => if m = t / 8 + t % 8 then (cf a b t m) ^^ (a.testBit (t / 8) && b.testBit (t % 8)) else cf a b t m
def rdI (q : Nat → Bool) (i : Nat) : Nat → Bool := fun m => if m = i - 4 ∨ m = i - 5 ∨ m = i - 7 ∨ m = i - 8 then q m ^^ q i else q m
def rd (p : Nat → Bool) : Nat → Nat → Bool
 | 0 => p
 | s + 1 => rdI (rd p s) (14 - s)
def outN (p : Nat → Bool) : Nat → Nat
 | 0 => 0
 | j + 1 => 2 * outN p j + (p (7 - j)).toNat
def rm (a b : Nat) : Nat := outN (rd (cf a b 64) 7) 8
theorem two_xor (x y : Nat) (b c : Bool) : (2 * x + b.toNat) ^^^ (2 * y + c.toNat) = 2 * (x ^^^ y) + (b ^^ c).toNat := by
 apply Nat.eq_of_testBit_eq
 intro i
 rw [Nat.testBit_xor]
 cases i with
 | zero => cases b <;> cases c <;> simp <;> omega
 | succ i =>
  rw [Nat.testBit_succ, Nat.testBit_succ, Nat.testBit_succ]
  have e (x : Nat) (b : Bool) : (2 * x + b.toNat) / 2 = x := by cases b <;> simp <;> omega
  rw [e, e, e, Nat.testBit_xor]
theorem outN_xor (p q : Nat → Bool) (j : Nat) : outN (fun m => p m ^^ q m) j = outN p j ^^^ outN q j := by
 induction j with
 | zero => simp [outN]
 | succ j ih => simp only [outN]; rw [ih, two_xor]
theorem xor_swap (a b c d : Bool) : ((a ^^ b) ^^ (c ^^ d)) = ((a ^^ c) ^^ (b ^^ d)) := by cases a <;> cases b <;> cases c <;> cases d <;> rfl
theorem rd_xor (p q : Nat → Bool) (s : Nat) : rd (fun m => p m ^^ q m) s = fun m => rd p s m ^^ rd q s m := by
  induction s with
  | zero => rfl
  | succ s ih =>
    funext m
    simp only [rd, rdI, ih]
    split
    · rw [xor_swap]
    · rfl
theorem cf_left (a b c t : Nat) : cf (a ^^^ b) c t = fun m => cf a c t m ^^ cf b c t m := by
  induction t with
  | zero => funext m; rfl
  | succ t ih =>
    funext m
    simp only [cf, ih, Nat.testBit_xor]
    split
    · rw [xor_swap]; congr 1
      cases a.testBit (t / 8) <;> cases b.testBit (t / 8) <;> cases c.testBit (t % 8) <;> rfl
    · rfl
theorem cf_right (a b c t : Nat) : cf a (b ^^^ c) t = fun m => cf a b t m ^^ cf a c t m := by
  induction t with
  | zero => funext m; rfl
  | succ t ih =>
    funext m
    simp only [cf, ih, Nat.testBit_xor]
    split
    · rw [xor_swap]; congr 1
      cases a.testBit (t / 8) <;> cases b.testBit (t % 8) <;> cases c.testBit (t % 8) <;> rfl
    · rfl
theorem rm_eq (a b : Nat) (ha : a < 256) (hb : b < 256) : rm a b = gm a b :=
 bilin_ext rm gm (fun a b c _ _ _ => by unfold rm; rw [cf_left, rd_xor, outN_xor]) (fun a b c _ _ _ => by unfold rm; rw [cf_right, rd_xor, outN_xor])
  (fun a b c ha hb _ => gm_left a b c ha hb) (fun a b c _ _ _ => gm_right a b c) (by decide +kernel) a b ha hb


/-! powers of 3 -/
def exT : Nat := 247704880781559356684414323119999879637317647180040216102211349143305888774923398537951341803642731683984666991564019150676315804531779449815159115664189418245566988781254625896260912026622159780553349108386186142268315007856282091988200171439146255715840100601167723801170608095743514940052926055042184507632911811387723359914440662207451538163404716729158929845121383729837235901114109841630616474463024741216292666125260571984924724184385554713500007113061044175325657975136216706165622836048350080632971744177780693200859426168487707538171671676645432511882666690861394815764438377708986394032816479809277592321
def lgT : Nat := 939374623831894136699086600277250597547650664638770418422125146541797353646788332867483593573384618611044815625336497665827114626705134492515730415652478061620339993830966980270842846318821775850471098591710629241171812800746666233448222972174585295916389942636813666312872914849454985560152530477328703759683306625234997237483834721220409437442253146756845415190424543171129629468776480674528486868811725071010351012234056630775688111116293610821126543142160426617079940511630006820862697466582575257349116925728488930366609138264019883664906661504235885380294353134295748489096855100647154935187045898006656778240
def ex (k : Nat) : Nat := (exT >>> (8 * k)) % 256
def lg (x : Nat) : Nat := (lgT >>> (8 * x)) % 256
theorem ex_lt (k : Nat) : ex k < 256 := Nat.mod_lt _ (by omega)
theorem ex_zero : ex 0 = 1 := by decide +kernel
theorem ex_succ : ∀ k, k < 255 → ex (k + 1) = xt (ex k) ^^^ ex k := by decide +kernel
theorem ex_lg : ∀ x, x < 256 → x ≠ 0 → ex (lg x) = x := by decide +kernel
theorem lg_lt : ∀ x, x < 256 → lg x < 255 := by decide +kernel
theorem xt_three : ∀ p, p < 256 → gm p 3 = xt p ^^^ p := by decide +kernel
theorem xt_twice : ∀ p, p < 256 → (if 255 < 2 * p then (2 * p) ^^^ 283 else 2 * p) % 256 = xt p := by decide +kernel
theorem pw_ex (k : Nat) (hk : k ≤ 255) : pw 3 k = ex k := by
 induction k with
 | zero => exact ex_zero.symm
 | succ k ih =>
  show gm (pw 3 k) 3 = _
  rw [ih (by omega), xt_three _ (ex_lt k), ex_succ k (by omega)]
theorem ex_inv (k : Nat) (hk : k ≤ 255) : ex (255 - k) = inv (ex k) := by
 refine inv_uniq _ _ (ex_lt k) (ex_lt _) ?_
 rw [← pw_ex k hk, ← pw_ex (255 - k) (by omega), ← pw_add 3 _ _ (by omega), show k + (255 - k) = 255 from by omega]
 exact pw_255 3 (by omega) (by omega)
end Go.Proofs.YtcfddmplnoknlaaDoor.Gf
namespace Go.Proofs.YtcfddmplnoknlaaDoor
set_option maxRecDepth 16384
open Go.RowKit

theorem bit_test (b k : Nat) (hb : b < 256) : (bits BinOp.and IntKind.u8 ((b : Int) / 2 ^ k) 1 == 1) = b.testBit k := by
 have e : ((b : Int) / 2 ^ k) = ((b / 2 ^ k : Nat) : Int) := by
  rw [Int.natCast_ediv, Int.natCast_pow]; rfl
 have hlt : b / 2 ^ k < 256 := Nat.lt_of_le_of_lt (Nat.div_le_self _ _) hb
 rw [e, show (1 : Int) = ((1 : Nat) : Int) from rfl, u8_and_nat _ _ hlt (by omega), nat_mask1, Nat.testBit_eq_decide_div_mod_eq]
 rw [Bool.eq_iff_iff]; simp; omega

theorem dbl_eq (a : Nat) (ha : a < 256) : bits BinOp.xor IntKind.u8 ((a : Int) * 2 % 256) ((a : Int) / 128 * 27) = ((Gf.xt a : Nat) : Int) := by
 rw [show ((a : Int) * 2 % 256) = ((a * 2 % 256 : Nat) : Int) from by omega, show ((a : Int) / 128 * 27) = ((a / 128 * 27 : Nat) : Int) from by omega,
  u8_xor_nat _ _ (by omega) (by omega)]
 rfl

set_option maxHeartbeats 400000 in
theorem dbl_any (a : Nat) (ha : a < 256) (p : Addr) (w : World) (hc : w.cell? p = some (.int .u8 (a : Int))) (hf : w.frozen? p = false) :
  Calls Tryd.prog 85 #[.pointer (some p)] w fun e w' => e = .returned (.tuple #[]) ∧ w' = w.setCell p (.int .u8 (Gf.xt a : Nat)) := by
 have h0 : 0 ≤ (a : Int) := by omega
 have h1 : (a : Int) ≤ 255 := by omega
 go_enter Tryd.func85, Tryd.ntmps85
 go_wp2
 go_end0
 exact ⟨rfl, by rw [dbl_eq a ha]⟩

set_option maxHeartbeats 400000 in
theorem mul_nat (a b : Nat) (ha : a < 256) (hb : b < 256) (w : World) :
    Calls Tryd.prog 78 #[.int .u8 (a : Int), .int .u8 (b : Int)] w fun e w' => e = .returned (.int .u8 (Gf.gm a b : Nat)) ∧ Below w.heap.size w w' := by
  have h0 : 0 ≤ (b : Int) := by omega
  have h1 : (b : Int) ≤ 255 := by omega
  go_enter Tryd.func78, Tryd.ntmps78
  go_wp2
  go_loopw [5, 9] (fun o i wr => ∃ k : Nat, k ≤ 8 ∧ i = .int .i64 k ∧ o = .int .u8 (Gf.gmk a b k : Nat) ∧ wr = w.alloc (Obj.cells #[Value.int IntKind.u8 (Gf.itx a k : Nat)] 5)) (fun _ i _ => 8 - (intOf i).toNat)
  case atStart => exact ⟨0, by omega, rfl, rfl, rfl⟩
  case round =>
    obtain ⟨k, hk, rfl, rfl, rfl⟩ := hrel
    have hb0 := Gf.itx_lt a k ha
    have hg0 := Gf.gmk_lt a b k ha
    by_cases hlt : k < 8
    · have ht := bit_test b k hb
      cases hbit : b.testBit k
      all_goals
        rw [hbit] at ht
        have hm := Lib.hid hbit
        clear hbit
        go_wp2_with (go_at_call 85; refine (dbl_any (Gf.itx a k) hb0 _ _ (by go_simp) (by go_simp)).mono ?_; rintro e w' ⟨rfl, rfl⟩)
        go_roundw
        case rel => exact ⟨k + 1, by omega, by go_num, by simp only [Gf.gmk, hm.out]; first | rfl | (rw [u8_xor_nat _ _ hg0 hb0]; rfl), by first | rfl | (go_simp; done)⟩
        case measure => simp [intOf]; omega
    · obtain rfl : k = 8 := by omega
      go_wp2
      go_ret
      exact ⟨rfl, (Below.refl _ _).alloc (Nat.le_refl _) _⟩

end Go.Proofs.YtcfddmplnoknlaaDoor
namespace Go.Proofs.YtcfddmplnoknlaaDoor
set_option maxRecDepth 16384
open Go.RowKit

set_option maxHeartbeats 400000 in
theorem power_zero (n : Int) (w : World) :
    Calls Tryd.prog 60 #[.int .u8 0, .int .i64 n] w fun e w' => e = .returned (.int .u8 (Gf.powZ 0 n : Nat)) ∧ Below w.heap.size w w' := by
  by_cases hn : n = 0
  · subst hn
    go_enter Tryd.func60, Tryd.ntmps60
    go_wp2
    go_step3
    go_wp2
    try rw [Exit.noGoto_ret]
    go_ret
    exact ⟨rfl, Below.refl _ _⟩
  · have e : Gf.powZ 0 n = 0 := by unfold Gf.powZ; rw [if_pos rfl, if_neg hn]
    have h0 : (n == 0) = false := by simpa using hn
    rw [e]
    clear e hn
    go_enter Tryd.func60, Tryd.ntmps60
    go_wp2
    go_step3
    go_wp2
    try rw [Exit.noGoto_ret]
    go_ret
    exact ⟨rfl, Below.refl _ _⟩

set_option maxHeartbeats 400000 in
theorem power_some (a : Nat) (n : Int) (ha : a < 256) (ha0 : a ≠ 0) (w : World) :
    Calls Tryd.prog 60 #[.int .u8 (a : Int), .int .i64 n] w fun e w' => e = .returned (.int .u8 (Gf.powZ a n : Nat)) ∧ Below w.heap.size w w' := by
  have e : Gf.powZ a n = Gf.pw a (n % 255).toNat := by unfold Gf.powZ; rw [if_neg ha0]
  have h0 : ((a : Int) == 0) = false := by simp; omega
  rw [e]
  clear e
  have hdm := Int.mul_tdiv_add_tmod n 255
  have hlo : -255 < n.tmod 255 := Int.lt_tmod_of_pos n (by omega)
  have hhi : n.tmod 255 < 255 := Int.tmod_lt_of_pos n (by omega)
  obtain ⟨K, hK, hKb⟩ : ∃ K : Nat, (n % 255).toNat = K ∧ K < 255 := ⟨_, rfl, by omega⟩
  have hneg : n.tmod 255 < 0 → n.tmod 255 + 255 = (K : Int) := by omega
  have hpos : ¬ n.tmod 255 < 0 → n.tmod 255 = (K : Int) := by omega
  rw [hK]
  clear hK hdm
  have hw' := Lib.hid hneg
  have hp' := Lib.hid hpos
  clear hneg hpos
  by_cases hk : n.tmod 255 < 0
  all_goals
    go_enter Tryd.func60, Tryd.ntmps60
    go_wp2
    go_step3
    go_wp2
    go_step3
    go_wp2
    first | rw [hw'.out (by omega)] | rw [hp'.out (by omega)]
    clear hw' hp' hk hlo hhi
    go_loopw [0, 5, 6] (fun s k o wr => ∃ x y j : Nat, s = .int .u8 (x : Int) ∧ k = .int .i64 (j : Int) ∧ o = .int .u8 (y : Int) ∧ x < 256 ∧ y < 256 ∧ j < 255 ∧ Gf.gm y (Gf.pw x j) = Gf.pw a K ∧ Below w.heap.size w wr) (fun _ k _ _ => (intOf k).toNat)
    case atStart => exact ⟨a, 1, K, rfl, rfl, rfl, ha, by omega, hKb, Gf.one_gm _ (Gf.pw_lt a K ha), Below.refl _ _⟩
    case round =>
      obtain ⟨x, y, j, rfl, rfl, rfl, hx, hy, hj, hinv, hb⟩ := hrel
      have hinv' := Lib.hid hinv
      clear hinv
      by_cases hj0 : j = 0
      · subst hj0
        go_wp2
        try rw [Exit.noGoto_ret]
        go_ret
        exact ⟨ret_int (by rw [← hinv'.out]; simp only [Gf.pw]; rw [Gf.gm_one y hy]), hb⟩
      · have t0 : ((j : Int) == 0) = false := by simp; omega
        have hod := i64_odd j (by omega)
        by_cases hodd : j % 2 = 1
        · have t1 : (bits BinOp.and IntKind.i64 (j : Int) 1 == 1) = true := by rw [hod, hodd]; rfl
          have hi' : Gf.gm (Gf.gm y x) (Gf.pw (Gf.gm x x) (j / 2)) = Gf.pw a K := by rw [Gf.sq_odd y x j hy hx hodd]; exact hinv'.out
          have hi := Lib.hid hi'
          have ho := Lib.hid hodd
          clear hodd hod hi' hinv'
          go_wp2_with fail
          refine (mul_nat y x hy hx _).mono ?_
          rintro e w1 ⟨rfl, hb1⟩
          go_wp2_with fail
          refine (mul_nat x x hx hx _).mono ?_
          rintro e w2 ⟨rfl, hb2⟩
          go_wp2
          go_roundw
          case rel => exact ⟨Gf.gm x x, Gf.gm y x, j / 2, rfl, by go_num, rfl, Gf.gm_lt _ _ hx, Gf.gm_lt _ _ hy, by omega, hi.out, (hb.trans (hb1.mono hb.size)).trans (hb2.mono (Nat.le_trans hb.size hb1.size))⟩
          case measure => simp [intOf]; omega
        · have t1 : (bits BinOp.and IntKind.i64 (j : Int) 1 == 1) = false := by rw [hod]; simp; omega
          have hi' : Gf.gm y (Gf.pw (Gf.gm x x) (j / 2)) = Gf.pw a K := by rw [Gf.sq_even y x j hx (by omega)]; exact hinv'.out
          have hi := Lib.hid hi'
          clear hodd hod hi' hinv'
          go_wp2_with fail
          refine (mul_nat x x hx hx _).mono ?_
          rintro e w2 ⟨rfl, hb2⟩
          go_wp2
          go_roundw
          case rel => exact ⟨Gf.gm x x, y, j / 2, rfl, by go_num, rfl, Gf.gm_lt _ _ hx, hy, by omega, hi.out, hb.trans (hb2.mono hb.size)⟩
          case measure => simp [intOf]; omega

theorem power_any (a n : Int) (c : Nat) (a0 : 0 ≤ a) (a1 : a ≤ 255) (hc : Gf.powZ a.toNat n = c) (w : World) :
    Calls Tryd.prog 60 #[.int .u8 a, .int .i64 n] w fun e w' => e = .returned (.int .u8 (c : Int)) ∧ Below w.heap.size w w' := by
  obtain ⟨x, rfl⟩ := Int.eq_ofNat_of_zero_le a0
  rw [← hc]
  by_cases h : x = 0
  · subst h; exact power_zero n w
  · exact power_some x n (by omega) h w

set_option maxHeartbeats 400000 in
theorem inverse_any (a : Int) (c : Nat) (a0 : 0 ≤ a) (a1 : a ≤ 255) (hc : Gf.inv a.toNat = c) (w : World) :
  Calls Tryd.prog 76 #[.int .u8 a] w fun e w' => e = .returned (.int .u8 (c : Int)) ∧ Below w.heap.size w w' := by
 have hp : Gf.powZ a.toNat 254 = c := by rw [← hc]; exact Gf.powZ_inv _ (by omega)
 have hp' := Lib.hid hp
 clear hp hc
 go_enter Tryd.func76, Tryd.ntmps76
 go_wp2_with fail
 refine (power_any a 254 c a0 a1 hp'.out _).mono ?_
 rintro e w1 ⟨rfl, hb⟩
 go_wp2
 go_ret
 exact ⟨rfl, hb⟩

theorem rotl_eq (b i : Nat) (hb : b < 256) :
  bits BinOp.or IntKind.u8 ((b : Int) * 2 ^ i % 256) ((b : Int) / 2 ^ (8 - i)) = ((Gf.rotl8 b i : Nat) : Int) := by
 have e1 : ((b : Int) * 2 ^ i % 256) = ((b * 2 ^ i % 256 : Nat) : Int) := by
  rw [Int.natCast_emod, Int.natCast_mul, Int.natCast_pow]; rfl
 have e2 : ((b : Int) / 2 ^ (8 - i)) = ((b / 2 ^ (8 - i) : Nat) : Int) := by
  rw [Int.natCast_ediv, Int.natCast_pow]; rfl
 rw [e1, e2, u8_or_nat _ _ (Nat.mod_lt _ (by omega)) (Nat.lt_of_le_of_lt (Nat.div_le_self _ _) hb)]
 unfold Gf.rotl8
 rw [Nat.shiftLeft_eq, Nat.shiftRight_eq_div_pow]

set_option maxHeartbeats 400000 in
theorem rot8_any (b : Nat) (i : Nat) (hb : b < 256) (hi : i < 8) (w : World) :
  Calls Tryd.prog 77 #[.int .u8 (b : Int), .int .i64 (i : Int)] w fun e w' => e = .returned (.int .u8 (Gf.rotl8 b i : Nat)) ∧ w = w' := by
 have hand : bits .and .u64 (i : Int) 7 = (i : Int) := by
  rw [show (7 : Int) = ((7 : Nat) : Int) from rfl, u64_and_nat _ _ (by omega) (by omega), nat_mask3, Nat.mod_eq_of_lt hi]
 go_enter Tryd.func77, Tryd.ntmps77
 go_wp2
 go_ret
 exact ⟨ret_int (rotl_eq b i hb), rfl⟩

def afk (b : Nat) : Nat → Nat
 | 0 => b
 | k + 1 => afk b k ^^^ Gf.rotl8 b (k + 1)
theorem rotl8_lt (b i : Nat) (hb : b < 256) : Gf.rotl8 b i < 256 := by
 unfold Gf.rotl8
 exact Nat.or_lt_two_pow (n := 8) (Nat.mod_lt _ (by omega)) (Nat.lt_of_le_of_lt (by rw [Nat.shiftRight_eq_div_pow]; exact Nat.div_le_self _ _) hb)
theorem afk_lt (b k : Nat) (hb : b < 256) : afk b k < 256 := by
 induction k with
 | zero => exact hb
 | succ k ih => exact Gf.xor_lt _ _ ih (rotl8_lt _ _ hb)

set_option maxHeartbeats 400000 in
theorem sub_any (a : Int) (c : Nat) (a0 : 0 ≤ a) (a1 : a ≤ 255) (hc : Gf.sub a.toNat = c) (w : World) :
    Calls Tryd.prog 59 #[.int .u8 a] w fun e w' => e = .returned (.int .u8 (c : Int)) ∧ Below w.heap.size w w' := by
  have hb0 := Gf.inv_lt a.toNat
  have hc' : afk (Gf.inv a.toNat) 4 ^^^ 99 = c := by rw [← hc, ← Gf.sub_eq _ (by omega)]; rfl
  have hc2 := Lib.hid hc'
  clear hc' hc
  go_enter Tryd.func59, Tryd.ntmps59
  go_wp2_with fail
  refine (inverse_any a (Gf.inv a.toNat) a0 a1 rfl _).mono ?_
  rintro e w1 ⟨rfl, hb⟩
  generalize Gf.inv a.toNat = b at *
  go_wp2
  go_loopw [4, 5] (fun o i wr => ∃ k : Nat, k ≤ 4 ∧ i = .int .i64 ((k : Int) + 1) ∧ o = .int .u8 (afk b k : Nat) ∧ wr = w1) (fun _ i _ => 5 - (intOf i).toNat)
  case atStart => exact ⟨0, by omega, rfl, rfl, rfl⟩
  case round =>
    obtain ⟨k, hk, rfl, rfl, rfl⟩ := hrel
    have hg0 := afk_lt b k hb0
    by_cases hlt : k < 4
    · go_wp2_with fail
      refine (rot8_any b (k + 1) hb0 (by omega) _).mono ?_
      rintro e w2 ⟨rfl, rfl⟩
      go_wp2
      go_roundw
      case rel => exact ⟨k + 1, by omega, by go_num, by rw [u8_xor_nat _ _ hg0 (rotl8_lt _ _ hb0)]; rfl, by trivial⟩
      case measure => simp [intOf]; omega
    · obtain rfl : k = 4 := by omega
      go_wp2
      go_ret
      refine ⟨ret_int ?_, hb⟩
      rw [show (99 : Int) = ((99 : Nat) : Int) from rfl, u8_xor_nat _ _ hg0 (by omega), hc2.out]

end Go.Proofs.YtcfddmplnoknlaaDoor
namespace Go.Proofs.YtcfddmplnoknlaaDoor
set_option maxRecDepth 16384
open Go.RowKit

theorem int_info : (Tryd.prog.info? 3).map (fun i => (i.zero, i.size, i.bytes)) = some (some (.int .i64 0), 1, 8) := by kernel_rfl

def coef (a : Nat) (n : Nat) : List Value := (List.range n).map fun i => Value.int .i64 ((a : Int) / 2 ^ i % 2)
theorem coef_succ (a n : Nat) : coef a (n + 1) = coef a n ++ [Value.int .i64 ((a : Int) / 2 ^ n % 2)] := by
 unfold coef; rw [List.range_succ, List.map_append]; rfl
theorem shr_bounds (a k : Nat) (ha : a < 256) : 0 ≤ (a : Int) / 2 ^ k ∧ (a : Int) / 2 ^ k ≤ 255 := by
 have e : (a : Int) / 2 ^ k = ((a / 2 ^ k : Nat) : Int) := by rw [Int.natCast_ediv, Int.natCast_pow]; rfl
 rw [e]
 have := Nat.div_le_self a (2 ^ k)
 generalize a / 2 ^ k = q at *
 omega

set_option maxHeartbeats 400000 in
theorem coef_any (a : Nat) (ha : a < 256) (w : World) :
    Calls Tryd.prog 94 #[.int .u8 (a : Int)] w fun e w' => ∃ v, e = .returned v ∧ w'.ownsRow w.heap.size 3 1 v 8 (coef a 8) ∧ Below w.heap.size w w' := by
  obtain ⟨i0, hi, hz0, hz1, hz2⟩ := info_parts int_info
  go_enter Tryd.func94, Tryd.ntmps94
  go_wp2
  go_loopw [3, 4] (fun v i wr => ∃ k : Nat, k ≤ 8 ∧ i = .int .i64 (k : Int) ∧ wr.ownsRow w.heap.size 3 1 v k (coef a k) ∧ Below w.heap.size w wr) (fun _ i _ => 8 - (intOf i).toNat)
  case atStart => exact ⟨0, by omega, rfl, ⟨by simp [coef], .inl ⟨rfl, rfl⟩⟩, Below.refl _ _⟩
  case round =>
    obtain ⟨k, hk, rfl, hown, hb⟩ := hrel
    by_cases hlt : k < 8
    · obtain ⟨hp0, hp1⟩ := shr_bounds a k ha
      have hnew : ∀ j u, [Value.int .i64 ((a : Int) / 2 ^ k % 2)][j]? = some u → (wr.alloc (Obj.cells #[Value.int .i64 ((a : Int) / 2 ^ k % 2)] 3)).cell? ((⟨wr.heap.size, 0, none⟩ : Addr).add j) = some u := by
        intro j u hu
        cases j with
        | zero => simp at hu; subst hu; exact World.cell?_alloc_at _ _ _ _ rfl
        | succ j => simp at hu
      have hnew' := Lib.hid hnew
      clear hnew
      go_wp2_with (at_builtin; refine wpList_append_own _ rfl (.tmp 9) (.tmp 15) 60 rfl w.heap.size 3 i0 (.int .i64 0) 1 8 Tryd.underlying60 hi hz0 hz1 hz2 rfl (by decide) _ k (coef a k) rfl (hown.alloc _) ⟨wr.heap.size, 0, none⟩ 1 1 [_] rfl rfl hnew'.out (by intro u hu; simp at hu; subst hu; rfl) (by unfold maxLen; omega) (by omega) (by have := hb.size; simp; omega) ?_; intro v' w1 hown' hgrow _)
      go_roundw
      case rel => exact ⟨k + 1, by omega, by go_num, by rw [coef_succ]; exact hown', (hb.alloc hb.size _).grown hgrow (by have := hb.size; simp; omega) (fun j hj => (hown.lt j hj).1)⟩
      case measure => simp [intOf]; omega
    · obtain rfl : k = 8 := by omega
      go_wp2
      go_ret
      exact ⟨_, rfl, hown, hb⟩

def bi (b : Bool) : Int := if b then 1 else 0
def p0 : Array Value := Array.replicate 15 (Value.int .i64 0)
theorem make15 (u : World) : (Instr.makeSlice 60 (.int .i64 15) (.int .i64 15)).run Tryd.prog u = .ok (.slice (some ⟨u.heap.size, 0, none⟩) 15 15) (u.alloc (.cells p0 3)) := by kernel_rfl

theorem p0_get (m : Nat) (hm : m < 15) : p0[m]? = some (.int .i64 (bi false)) := by
 unfold p0; rw [Array.getElem?_replicate, if_pos hm]; rfl
theorem coef_get (a m n : Nat) (hm : m < n) : (coef a n)[m]? = some (.int .i64 (bi (a.testBit m))) := by
 unfold coef
 rw [List.getElem?_map, List.getElem?_range hm]
 have e : (a : Int) / 2 ^ m % 2 = ((a / 2 ^ m % 2 : Nat) : Int) := by rw [Int.natCast_emod, Int.natCast_ediv, Int.natCast_pow]; rfl
 simp only [Option.map_some, e, Nat.testBit_eq_decide_div_mod_eq, bi]
 have := Nat.mod_lt (a / 2 ^ m) (show 0 < 2 by omega)
 split <;> (rename_i h; simp at h; congr 2; omega)

theorem bi_b (b : Bool) : 0 ≤ bi b ∧ bi b ≤ 1 := by cases b <;> simp [bi]
theorem bi_mul (b c : Bool) : 0 ≤ bi b * bi c ∧ bi b * bi c ≤ 1 := by cases b <;> cases c <;> simp [bi]

structure MulMem (a b G gx gy : Nat) (P : Nat → Bool) (w wr : World) : Prop where
 p : ∀ m, m < 15 → wr.cell? ⟨G, m, none⟩ = some (.int .i64 (bi (P m)))
 f : ∀ m, wr.frozen? ⟨G, m, none⟩ = false
 x : ∀ m, m < 8 → wr.cell? ⟨gx, m, none⟩ = some (.int .i64 (bi (a.testBit m)))
 y : ∀ m, m < 8 → wr.cell? ⟨gy, m, none⟩ = some (.int .i64 (bi (b.testBit m)))
 bel : Below G w wr

theorem MulMem.store {a b G gx gy : Nat} {P P' : Nat → Bool} {w wr : World} (h : MulMem a b G gx gy P w wr) (hx : G < gx) (hy : G < gy) (j : Nat) (hj : j < 15) (v : Int) (hv : v = bi (P' j))
    (ho : ∀ m, m ≠ j → P' m = P m) : MulMem a b G gx gy P' w (wr.setCell ⟨G, j, none⟩ (.int .i64 v)) := by
  refine ⟨fun m hm => ?_, fun m => ?_, fun m hm => ?_, fun m hm => ?_, h.bel.setCell (Nat.le_refl G) _⟩
  · by_cases e : m = j
    · subst e; rw [cell_set_same (h.p m hm), hv]
    · rw [cell_set_off (Ne.symm e), h.p m hm, ho m e]
  · rw [World.frozen?_setCell]; exact h.f m
  · rw [cell_set_blk (by omega), h.x m hm]
  · rw [cell_set_blk (by omega), h.y m hm]
theorem MulMem.four {a b G gx gy : Nat} {P : Nat → Bool} {w wr : World} (h : MulMem a b G gx gy P w wr) (hx : G < gx) (hy : G < gy) (n : Nat) (h8 : 7 < n) (h14 : n ≤ 14) (hb : P n = true) :
  MulMem a b G gx gy (Gf.rdI P n) w ((((wr.setCell ⟨G, n - 4, none⟩ (.int .i64 (1 - bi (P (n - 4))))).setCell ⟨G, n - 5, none⟩ (.int .i64 (1 - bi (P (n - 5))))).setCell ⟨G, n - 7, none⟩ (.int .i64 (1 - bi (P (n - 7))))).setCell ⟨G, n - 8, none⟩ (.int .i64 (1 - bi (P (n - 8))))) := by
 have e1 : ∀ c : Bool, 1 - bi c = bi (!c) := by intro c; cases c <;> rfl
 have s1 := h.store (P' := fun m => if m = n - 4 then !P m else P m) hx hy (n - 4) (by omega) (1 - bi (P (n - 4))) (by simp [e1]) (fun m hm => if_neg hm)
 have s2 := s1.store (P' := fun m => if m = n - 4 ∨ m = n - 5 then !P m else P m) hx hy (n - 5) (by omega) (1 - bi (P (n - 5))) (by simp [e1]) (fun m hm => by simp [hm])
 have s3 := s2.store (P' := fun m => if m = n - 4 ∨ m = n - 5 ∨ m = n - 7 then !P m else P m) hx hy (n - 7) (by omega) (1 - bi (P (n - 7))) (by simp [e1]) (fun m hm => by simp [hm])
 exact s3.store (P' := Gf.rdI P n) hx hy (n - 8) (by omega) (1 - bi (P (n - 8))) (by simp [e1, Gf.rdI, hb]) (fun m hm => by simp [hm, Gf.rdI, hb])
theorem MulMem.drew_ {a b G gx gy : Nat} {P : Nat → Bool} {w wr : World} (h : MulMem a b G gx gy P w wr) : MulMem a b G gx gy P w wr.drew :=
 ⟨h.p, h.f, h.x, h.y, h.bel.drew⟩
theorem MulMem.cong {a b G gx gy : Nat} {P P' : Nat → Bool} {w wr : World} (h : MulMem a b G gx gy P w wr) (e : ∀ m, P' m = P m) : MulMem a b G gx gy P' w wr :=
 ⟨fun m hm => by rw [e]; exact h.p m hm, h.f, h.x, h.y, h.bel⟩
theorem rd_succ (p : Nat → Bool) (n : Nat) (h7 : 7 < n) (h14 : n ≤ 14) : Gf.rd p (14 - (n - 1)) = Gf.rdI (Gf.rd p (14 - n)) n := by
 have e : 14 - (n - 1) = (14 - n) + 1 := by omega
 rw [e]
 show Gf.rdI (Gf.rd p (14 - n)) (14 - (14 - n)) = _
 rw [show 14 - (14 - n) = n from by omega]
theorem rd_no (p : Nat → Bool) (n m : Nat) (h7 : 7 < n) (h14 : n ≤ 14) (hb : Gf.rd p (14 - n) n = false) : Gf.rd p (14 - (n - 1)) m = Gf.rd p (14 - n) m := by
 rw [rd_succ p n h7 h14]; unfold Gf.rdI; rw [hb]; simp
theorem outN_lt (R : Nat → Bool) (j : Nat) : Gf.outN R j < 2 ^ j := by
 induction j with
 | zero => simp [Gf.outN]
 | succ j ih => simp only [Gf.outN]; rw [Nat.pow_succ]; cases R (7 - j) <;> simp <;> omega
theorem outN_int (R : Nat → Bool) (j : Nat) : ((Gf.outN R (j + 1) : Nat) : Int) = 2 * (Gf.outN R j : Nat) + bi (R (7 - j)) := by
 simp only [Gf.outN]; cases R (7 - j) <;> simp [bi]
theorem cf_step (a b i k m : Nat) (hk : k < 8) (hm : m ≠ i + k) : Gf.cf a b (8 * i + k + 1) m = Gf.cf a b (8 * i + k) m := by
 have e1 : (8 * i + k) / 8 = i := by omega
 have e2 : (8 * i + k) % 8 = k := by omega
 simp only [Gf.cf, e1, e2, if_neg hm]

set_option maxHeartbeats 400000 in
theorem rmul_any (a b : Nat) (ha : a < 256) (hb : b < 256) (w : World) :
    Calls Tryd.prog 92 #[.int .u8 (a : Int), .int .u8 (b : Int)] w fun e w' => e = .returned (.int .u8 (Gf.gm a b : Nat)) ∧ Below w.heap.size w w' := by
  have hmk := make15
  go_enter Tryd.func92, Tryd.ntmps92
  go_wp2_with fail
  refine (coef_any a ha _).mono ?_
  rintro e w1 ⟨v1, rfl, hown1, hb1⟩
  go_wp2_with fail
  refine (coef_any b hb _).mono ?_
  rintro e w2 ⟨v2, rfl, hown2, hb2⟩
  obtain ⟨gx, cx, rfl, hgx, hgx'⟩ := hown1.form (by omega)
  obtain ⟨gy, cy, rfl, hgy, hgy'⟩ := hown2.form (by omega)
  have hG1 : w.heap.size < w1.heap.size := by have := hb1.size; simp at this; omega
  have hG2 : w1.heap.size ≤ w2.heap.size := hb2.size
  have hx : ∀ m, m < 8 → w2.cell? ⟨gx, m, none⟩ = some (.int .i64 (bi (a.testBit m))) := fun m hm => by
    rw [hb2.cell (p := ⟨gx, m, none⟩) hgx', hown1.cellAt m (by omega), coef_get a m 8 hm]
  have hy : ∀ m, m < 8 → w2.cell? ⟨gy, m, none⟩ = some (.int .i64 (bi (b.testBit m))) := fun m hm => by
    rw [hown2.cellAt m (by omega), coef_get b m 8 hm]
  have hp : ∀ m, m < 15 → w2.cell? ⟨w.heap.size, m, none⟩ = some (.int .i64 (bi false)) := fun m hm => by
    rw [hb2.cell (p := ⟨w.heap.size, m, none⟩) hG1, hb1.cell (p := ⟨w.heap.size, m, none⟩) (by simp), World.cell?_alloc_at _ _ _ _ rfl]
    exact p0_get m hm
  have hf : ∀ m, w2.frozen? ⟨w.heap.size, m, none⟩ = false := fun m => by
    rw [hb2.frozen (p := ⟨w.heap.size, m, none⟩) hG1, hb1.frozen (p := ⟨w.heap.size, m, none⟩) (by simp), World.frozen?_alloc_at _ _ _ _ rfl]
  have hbw : Below w.heap.size w w2 := below_trans ((Below.refl _ _).alloc (Nat.le_refl _) _) (below_trans hb1 hb2)
  have hgx2 : w.heap.size < gx := by simp at hgx; omega
  have hgy2 : w.heap.size < gy := by omega
  generalize hGG : w.heap.size = G at *
  clear hown1 hown2 hb1 hb2 hmk hgx hgy hgx' hgy' hG1 hG2
  go_wp2
  go_loopw [8, 9] (fun s _ wr => ∃ i : Nat, i ≤ 8 ∧ s = .int .i64 (i : Int) ∧ MulMem a b G gx gy (Gf.cf a b (8 * i)) w wr) (fun s _ _ => 8 - (intOf s).toNat)
  case atStart => exact ⟨0, by omega, rfl, hp, hf, hx, hy, hbw⟩
  case round =>
    obtain ⟨i, hi, rfl, hmem⟩ := hrel
    by_cases hlt : i < 8
    · obtain ⟨wo, rfl⟩ : ∃ wo : World, wo = wr := ⟨_, rfl⟩
      have hlt' : (i : Int) < 8 := by omega
      go_wp2
      go_loopw [9] (fun s wr => ∃ k : Nat, k ≤ 8 ∧ s = .int .i64 (k : Int) ∧ MulMem a b G gx gy (Gf.cf a b (8 * i + k)) w wr) (fun s _ => 8 - (intOf s).toNat)
      case atStart => exact ⟨0, by omega, rfl, hmem⟩
      case round =>
        obtain ⟨k, hk, rfl, hmem⟩ := hrel
        by_cases hlk : k < 8
        · have hlk' : (k : Int) < 8 := by omega
          have cp := hmem.p (i + k) (by omega)
          have cx := hmem.x i hlt
          have cy := hmem.y k hlk
          have cf := hmem.f (i + k)
          have hval : (bi (Gf.cf a b (8 * i + k) (i + k)) + bi (a.testBit i) * bi (b.testBit k)) % 2 = bi (Gf.cf a b (8 * i + k + 1) (i + k)) := by
            have e1 : (8 * i + k) / 8 = i := by omega
            have e2 : (8 * i + k) % 8 = k := by omega
            simp only [Gf.cf, e1, e2, if_true]
            cases Gf.cf a b (8 * i + k) (i + k) <;> cases a.testBit i <;> cases b.testBit k <;> rfl
          have hval' := Lib.hid hval
          clear hval
          have b1 := bi_b (Gf.cf a b (8 * i + k) (i + k))
          have b2 := bi_b (a.testBit i)
          have b3 := bi_b (b.testBit k)
          have b4 := bi_mul (a.testBit i) (b.testBit k)
          obtain ⟨b10, b11⟩ := b1
          obtain ⟨b20, b21⟩ := b2
          obtain ⟨b30, b31⟩ := b3
          obtain ⟨b40, b41⟩ := b4
          generalize bi (Gf.cf a b (8 * i + k) (i + k)) = q1 at *
          generalize bi (a.testBit i) = q2 at *
          generalize bi (b.testBit k) = q3 at *
          go_wp2
          go_region
          all_goals go_wp2
          all_goals go_roundw
          case rel =>
            exact ⟨k + 1, by omega, by go_num, (hmem.store hgx2 hgy2 (i + k) (by omega) _ hval'.out (fun m hm => cf_step a b i k m hlk hm)).drew_⟩
          case measure => simp [intOf]; omega
        · obtain rfl : k = 8 := by omega
          go_wp2
          go_roundw
          case rel => exact ⟨i + 1, by omega, by go_num, hmem⟩
          case measure => simp [intOf]; omega
    · obtain rfl : i = 8 := by omega
      go_wp2
      go_loopw [10] (fun s wr => ∃ n : Nat, 7 ≤ n ∧ n ≤ 14 ∧ s = .int .i64 (n : Int) ∧ MulMem a b G gx gy (Gf.rd (Gf.cf a b 64) (14 - n)) w wr) (fun s _ => (intOf s).toNat)
      case atStart => exact ⟨14, by omega, by omega, rfl, hmem⟩
      case round =>
        obtain ⟨n, hn, hn', rfl, hmem⟩ := hrel
        by_cases hlt : 7 < n
        · have hlt' : 7 < (n : Int) := by omega
          have h14 : (n : Int) ≤ 14 := by omega
          have ci := hmem.p n (by omega)
          have c4 := hmem.p (n - 4) (by omega)
          have c5 := hmem.p (n - 5) (by omega)
          have c7 := hmem.p (n - 7) (by omega)
          have c8 := hmem.p (n - 8) (by omega)
          have f4 := hmem.f (n - 4)
          have f5 := hmem.f (n - 5)
          have f7 := hmem.f (n - 7)
          have f8 := hmem.f (n - 8)
          have n45 : ¬ n - 4 = n - 5 := by omega
          have n47 : ¬ n - 4 = n - 7 := by omega
          have n48 : ¬ n - 4 = n - 8 := by omega
          have n57 : ¬ n - 5 = n - 7 := by omega
          have n58 : ¬ n - 5 = n - 8 := by omega
          have n78 : ¬ n - 7 = n - 8 := by omega
          obtain ⟨b40, b41⟩ := bi_b (Gf.rd (Gf.cf a b 64) (14 - n) (n - 4))
          obtain ⟨b50, b51⟩ := bi_b (Gf.rd (Gf.cf a b 64) (14 - n) (n - 5))
          obtain ⟨b70, b71⟩ := bi_b (Gf.rd (Gf.cf a b 64) (14 - n) (n - 7))
          obtain ⟨b80, b81⟩ := bi_b (Gf.rd (Gf.cf a b 64) (14 - n) (n - 8))
          cases hbit : Gf.rd (Gf.cf a b 64) (14 - n) n
          · rw [hbit] at ci
            have ci' : wr.cell? ⟨G, n, none⟩ = some (.int .i64 0) := ci
            clear ci
            have hbit' := Lib.hid hbit
            clear hbit
            go_wp2
            go_roundw
            case rel => exact ⟨n - 1, by omega, by omega, by go_num, hmem.cong fun m => rd_no _ n m hlt hn' hbit'.out⟩
            case measure => simp [intOf]; omega
          · rw [hbit] at ci
            have ci' : wr.cell? ⟨G, n, none⟩ = some (.int .i64 1) := ci
            clear ci
            have hbit' := Lib.hid hbit
            clear hbit
            go_wp2
            go_roundw
            case rel =>
              refine ⟨n - 1, by omega, by omega, by go_num, ?_⟩
              rw [rd_succ _ n hlt hn']
              exact hmem.four hgx2 hgy2 n hlt hn' hbit'.out
            case measure => simp [intOf]; omega
        · obtain rfl : n = 7 := by omega
          have hm0 : MulMem a b G gx gy (Gf.rd (Gf.cf a b 64) 7) w wr := hmem
          clear hmem
          generalize hR : Gf.rd (Gf.cf a b 64) 7 = R at *
          have hR' := Lib.hid hR
          clear hR
          go_wp2
          go_loopw [11, 12] (fun o s wr' => ∃ j : Nat, j ≤ 8 ∧ s = .int .i64 (7 - (j : Int)) ∧ o = .int .i64 (Gf.outN R j : Nat) ∧ wr' = wr) (fun _ s _ => (intOf s + 1).toNat)
          case atStart => exact ⟨0, by omega, rfl, rfl, rfl⟩
          case round =>
            obtain ⟨j, hj, rfl, rfl, rfl⟩ := hrel
            have ho := outN_lt R j
            have ho2 : Gf.outN R j < 256 := by
              have := Nat.pow_le_pow_right (n := 2) (by omega) hj; omega
            by_cases hlt : j < 8
            · have cj := hm0.p (7 - j) (by omega)
              obtain ⟨b10, b11⟩ := bi_b (R (7 - j))
              have hidx : ((7 : Int) - (j : Int)).toNat = 7 - j := by omega
              go_wp2
              go_roundw
              case rel => exact ⟨j + 1, by omega, by go_num, by rw [outN_int], by trivial⟩
              case measure => simp [intOf]; omega
            · obtain rfl : j = 8 := by omega
              go_wp2
              go_ret
              refine ⟨ret_int ?_, by rw [hGG]; exact hm0.bel⟩
              rw [← hR'.out]
              exact congrArg Nat.cast (Gf.rm_eq a b ha hb)

end Go.Proofs.YtcfddmplnoknlaaDoor
namespace Go.Proofs.YtcfddmplnoknlaaDoor
set_option maxRecDepth 16384
open Go.RowKit

/-! the reference's Substitute -/
def sbSum (x i : Nat) : Nat → Nat
 | 0 => 99 / 2 ^ i
 | k + 1 => sbSum x i k + x / 2 ^ ((i + (4 + k)) % 8)
def sbOut (x : Nat) : Nat → Nat
 | 0 => 0
 | j + 1 => 2 * sbOut x j + sbSum x (7 - j) 5 % 2
theorem sb_eq : ∀ x, x < 256 → sbOut x 8 = Gf.aff x := by decide +kernel
theorem sbSum_lt (x i k : Nat) (hx : x < 256) : sbSum x i k ≤ 99 + 256 * k := by
 induction k with
 | zero => simp only [sbSum]; have := Nat.div_le_self 99 (2 ^ i); omega
 | succ k ih => simp only [sbSum]; have := Nat.div_le_self x (2 ^ ((i + (4 + k)) % 8)); omega
theorem sbOut_lt (x j : Nat) : sbOut x j < 2 ^ j := by
 induction j with
 | zero => simp [sbOut]
 | succ j ih => simp only [sbOut]; rw [Nat.pow_succ]; omega

set_option maxHeartbeats 400000 in
theorem subst_any (x : Nat) (hx : x < 256) (w : World) :
    Calls Tryd.prog 93 #[.int .u8 (x : Int)] w fun e w' => e = .returned (.int .u8 (Gf.aff x : Nat)) ∧ w = w' := by
  go_enter Tryd.func93, Tryd.ntmps93
  go_wp2
  go_loop [3, 4] (fun o s => ∃ j : Nat, j ≤ 8 ∧ s = .int .i64 (7 - (j : Int)) ∧ o = .int .i64 (sbOut x j : Nat)) (fun _ s => (intOf s + 1).toNat)
  case atStart => exact ⟨0, by omega, rfl, rfl⟩
  case round =>
    obtain ⟨j, hj, rfl, rfl⟩ := hrel
    have ho := sbOut_lt x j
    have ho2 : sbOut x j < 256 := by
      have := Nat.pow_le_pow_right (n := 2) (by omega) hj; omega
    by_cases hlt : j < 8
    · have hlt' : (j : Int) < 8 := by omega
      go_wp2
      go_loop [5, 6] (fun t s => ∃ k : Nat, k ≤ 5 ∧ s = .int .i64 (4 + (k : Int)) ∧ t = .int .i64 (sbSum x (7 - j) k : Nat)) (fun _ s => 9 - (intOf s).toNat)
      case atStart => exact ⟨0, by omega, rfl, by simp only [sbSum]; rw [Int.natCast_ediv, Int.natCast_pow]; rfl⟩
      case round =>
        obtain ⟨k, hk, rfl, rfl⟩ := hrel
        have hs := sbSum_lt x (7 - j) k hx
        by_cases hlk : k < 5
        · have hlk' : (k : Int) < 5 := by omega
          have hmod : (((7 : Int) - (j : Int)) + (4 + (k : Int))) % 8 = (((7 - j + (4 + k)) % 8 : Nat) : Int) := by omega
          obtain ⟨p0, p1⟩ := shr_bounds x ((7 - j + (4 + k)) % 8) hx
          go_wp2
          go_round
          case rel => exact ⟨k + 1, by omega, by go_num, by simp only [sbSum]; rw [Int.natCast_add, Int.natCast_ediv, Int.natCast_pow]; rfl⟩
          case measure => simp [intOf]; omega
        · obtain rfl : k = 5 := by omega
          go_wp2
          go_round
          case rel => exact ⟨j + 1, by omega, by go_num, by simp only [sbOut]; go_num⟩
          case measure => simp [intOf]; omega
    · obtain rfl : j = 8 := by omega
      go_wp2
      go_ret
      exact ⟨ret_int (by rw [sb_eq x hx]), rfl⟩

end Go.Proofs.YtcfddmplnoknlaaDoor
