/-
  Regions inside a round of a range over a function, taken by hand: what is shown of them in the plain calculus serves there.
-/
import Derived.RangeFuncNested
import Derived.RangeFuncLeaves
import Derived.WalkKit
import Derived.OwnWalkIn
import Derived.TacticsInMore
import Derived.LoopNIn
import Derived.LoopIn
import Derived.Test.YtcdmbknmmnaocaaDoorRng
import Derived.Test.YtcdmbknmmnaocaaDoorHw
namespace Go.Proofs.YtcdmbknmmnaocaaDoor
open Go.RowKit

def noDefer (o : Oper) : Bool := match o.op with | .defer _ => false | _ => true
section
variable {P : Program} {n r : Nat}
theorem opIn_round {o : Oper} {a : Act} {w : World} {K K' : Act → World → Prop} {Q : Exit → Act → World → Prop} (hd : noDefer o = true) (hK : ∀ a w, K a w → K' a w) (h : o.wp P a w K Q) : o.wpIn (Fence.wide.inRound r) n P a w K' Q := by
  refine ⟨fun _ _ => trivial, ?_⟩
  show o.uponIn (Fence.wide.inRound r) n P a K' Q ((o.semAt (some r) a.eval).run P w)
  rw [Oper.semAt_some r a.eval o (fun c hc => by rw [noDefer, hc] at hd; cases hd)]
  unfold Oper.wp at h
  generalize (execOp a.eval o).run P w = x at *
  cases x with
  | ok x w' =>
    cases x <;> simp only [Oper.upon, Oper.uponIn] at h ⊢
    case value u => exact hK _ _ h
    case skip => exact hK _ _ h
    case defer d => exact hK _ _ h
    case enter f args =>
      refine ⟨fun h => by simp [Fence.wide] at h, CallsIn.inRound r (callsIn_wide.2 (h.mono fun e w'' he => ?_))⟩
      cases e with
      | returned u => exact hK _ _ he
      | panicked c => exact he
      | outgrown => exact he
    case row row args =>
      exact ⟨fun h => by simp [Fence.wide] at h, fun c cs _ => let ⟨v, w2, r, s⟩ := h c cs; ⟨v, w2, hK _ _ r, stepsIn_wide.2 s⟩⟩
  | halt x w' =>
    cases x <;> simp only [Oper.upon, Oper.uponIn] at h ⊢
    case panic u => exact h

theorem listIn_of {ops : Array Oper} {Q : Exit → Act → World → Prop} (hlet : ¬ LetsOut Q) : ∀ (l : List Oper) (a : Act) (w : World), l.all noDefer = true → wpList P ops Q l a w → wpListIn (Fence.wide.inRound r) n P ops Q l a w
  | [], _, _, _, h => h
  | o :: l, a, w, hn, h => by
    rw [List.all_cons, Bool.and_eq_true] at hn
    unfold wpList at h
    unfold wpListIn
    by_cases hw : Region.wanted o (yielded ops a.tmps) = true
    · rw [if_pos hw] at h ⊢
      rcases h with h | h
      · exact opIn_round hn.1 (fun a w hh => listIn_of hlet l a w hn.2 hh) h
      · exact absurd h.2 hlet
    · rw [if_neg hw] at h ⊢
      exact ⟨fun _ _ => trivial, listIn_of hlet l _ w hn.2 h⟩
theorem wl_litIn {id : Nat} {l : List Oper} {Q : Exit → Act → World → Prop} {a : Act} {w : World} (hn : l.all noDefer = true) (hlet : ¬ LetsOut Q) (h : WL P l.toArray Q l a w) :
    (Code.region id l.toArray false).wpIn (Fence.wide.inRound r) n P Q a w := wpIn_region_lit (listIn_of hlet l a w hn h.out)

theorem anyIn_of {md : Region.Mode} {ops : Array Oper} {Q : Exit → Act → World → Prop} (hn : ops.all noDefer = true) (hlet : ¬ LetsOut Q) :
    ∀ (fuel : Nat) (listed : Array Bool) (a : Act) (w : World), wpAny P md ops Q fuel listed a w → wpAnyIn (Fence.wide.inRound r) n P md ops Q fuel listed a w := by
  intro fuel
  induction fuel with
  | zero => exact fun _ _ _ h => h
  | succ f ih =>
    intro listed a w h
    refine ⟨h.1, fun i hi => ?_⟩
    have h2 := h.2 i hi
    unfold wpOp at h2
    unfold wpOpIn
    cases ho : ops[i]? with
    | none => rw [ho] at h2; exact ih _ _ _ h2
    | some o =>
      rw [ho] at h2
      simp only at h2 ⊢
      have hno : noDefer o = true := by
        have := Array.all_eq_true_iff_forall_mem.1 hn o (Array.mem_of_getElem? ho)
        exact this
      by_cases hw : Region.wanted o (yielded ops a.tmps) = true
      · rw [if_pos hw] at h2 ⊢
        rcases h2 with h2 | h2
        · exact opIn_round hno (fun a w hh => ih _ a w hh) h2
        · exact absurd h2.2 hlet
      · rw [if_neg hw] at h2 ⊢
        exact ⟨fun _ _ => trivial, ih _ _ _ h2⟩
theorem wp_region_held_drewIn {ops : Array Oper} {Q : Exit → Act → World → Prop} {S : World → Prop} {id : Nat} {a : Act} {w : World} (hn : ops.all noDefer = true) (hlet : ¬ LetsOut Q) (hm : P.follows .mixedOrders = true) (hS : S w.drew)
    (h : S w.drew → wpAnyH P .any ops Q S ops.size (Array.replicate ops.size false) a w.drew) : (Code.region id ops true).wpIn (Fence.wide.inRound r) n P Q a w :=
  wpIn_region_any hm (anyIn_of hn hlet _ _ _ _ (wpAny_of_held _ _ _ _ (h hS)))
/-- the same, the exits of the region's own taken apart: for a region that has none -/
theorem opIn_round2 {o : Oper} {a : Act} {w : World} {K K' : Act → World → Prop} {Q : Exit → Act → World → Prop} (hd : noDefer o = true) (hK : ∀ a w, K a w → K' a w) (h : o.wp P a w K (Exit.then (fun a w => Q .normal a w) (fun _ _ _ => False))) : o.wpIn (Fence.wide.inRound r) n P a w K' Q := by
  refine ⟨fun _ _ => trivial, ?_⟩
  show o.uponIn (Fence.wide.inRound r) n P a K' Q ((o.semAt (some r) a.eval).run P w)
  rw [Oper.semAt_some r a.eval o (fun c hc => by rw [noDefer, hc] at hd; cases hd)]
  unfold Oper.wp at h
  generalize (execOp a.eval o).run P w = x at *
  cases x with
  | ok x w' =>
    cases x <;> simp only [Oper.upon, Oper.uponIn] at h ⊢
    case value u => exact hK _ _ h
    case skip => exact hK _ _ h
    case defer d => exact hK _ _ h
    case enter f args =>
      refine ⟨fun h => by simp [Fence.wide] at h, CallsIn.inRound r (callsIn_wide.2 (h.mono fun e w'' he => ?_))⟩
      cases e with
      | returned u => exact hK _ _ he
      | panicked c => exact he.elim
      | outgrown => obtain ⟨_, _, hh⟩ := he; exact hh.elim
    case row row args =>
      exact ⟨fun h => by simp [Fence.wide] at h, fun c cs _ => let ⟨v, w2, r, s⟩ := h c cs; ⟨v, w2, hK _ _ r, stepsIn_wide.2 s⟩⟩
  | halt x w' =>
    cases x <;> simp only [Oper.upon, Oper.uponIn] at h ⊢
    case panic u => exact h.elim
theorem listIn_round {ops : Array Oper} {Q : Exit → Act → World → Prop} : ∀ (l : List Oper) (a : Act) (w : World), l.all noDefer = true → wpList P ops (Exit.then (fun a w => Q .normal a w) (fun _ _ _ => False)) l a w → wpListIn (Fence.wide.inRound r) n P ops Q l a w
  | [], _, _, _, h => h
  | o :: l, a, w, hn, h => by
    rw [List.all_cons, Bool.and_eq_true] at hn
    unfold wpList at h
    unfold wpListIn
    by_cases hw : Region.wanted o (yielded ops a.tmps) = true
    · rw [if_pos hw] at h ⊢
      rcases h with h | h
      · exact opIn_round2 hn.1 (fun a w hh => listIn_round l a w hn.2 hh) h
      · obtain ⟨_, _, hh⟩ := h.2
        exact hh.elim
    · rw [if_neg hw] at h ⊢
      exact ⟨fun _ _ => trivial, listIn_round l _ w hn.2 h⟩
theorem wl_round {id : Nat} {l : List Oper} {Q : Exit → Act → World → Prop} {a : Act} {w : World} (hn : l.all noDefer = true) (h : WL P l.toArray (Exit.then (fun a w => Q .normal a w) (fun _ _ _ => False)) l a w) :
    (Code.region id l.toArray false).wpIn (Fence.wide.inRound r) n P Q a w := wpIn_region_lit (listIn_round l a w hn h.out)
theorem anyIn_round {md : Region.Mode} {ops : Array Oper} {Q : Exit → Act → World → Prop} (hn : ops.all noDefer = true) :
    ∀ (fuel : Nat) (listed : Array Bool) (a : Act) (w : World), wpAny P md ops (Exit.then (fun a w => Q .normal a w) (fun _ _ _ => False)) fuel listed a w → wpAnyIn (Fence.wide.inRound r) n P md ops Q fuel listed a w := by
  intro fuel
  induction fuel with
  | zero => exact fun _ _ _ h => h
  | succ f ih =>
    intro listed a w h
    refine ⟨h.1, fun i hi => ?_⟩
    have h2 := h.2 i hi
    unfold wpOp at h2
    unfold wpOpIn
    cases ho : ops[i]? with
    | none => rw [ho] at h2; exact ih _ _ _ h2
    | some o =>
      rw [ho] at h2
      simp only at h2 ⊢
      have hno : noDefer o = true := by
        have := Array.all_eq_true_iff_forall_mem.1 hn o (Array.mem_of_getElem? ho)
        exact this
      by_cases hw : Region.wanted o (yielded ops a.tmps) = true
      · rw [if_pos hw] at h2 ⊢
        rcases h2 with h2 | h2
        · exact opIn_round2 hno (fun a w hh => ih _ a w hh) h2
        · obtain ⟨_, _, hh⟩ := h2.2
          exact hh.elim
      · rw [if_neg hw] at h2 ⊢
        exact ⟨fun _ _ => trivial, ih _ _ _ h2⟩
theorem wl_anyRound {ops : Array Oper} {Q : Exit → Act → World → Prop} {S : World → Prop} {id : Nat} {a : Act} {w : World} (hn : ops.all noDefer = true) (hm : P.follows .mixedOrders = true) (hS : S w.drew)
    (h : S w.drew → wpAnyH P .any ops (Exit.then (fun a w => Q .normal a w) (fun _ _ _ => False)) S ops.size (Array.replicate ops.size false) a w.drew) : (Code.region id ops true).wpIn (Fence.wide.inRound r) n P Q a w :=
  wpIn_region_any hm (anyIn_round hn _ _ _ _ (wpAny_of_held _ _ _ _ (h hS)))
/-- what is left out by a round's body is never 'outgrown' -/
theorem notOut_end {lo : Nat} {I Ix : World → Prop} {W : World} : ¬ LetsOut (endPost lo I Ix W) := fun ⟨_, _, h⟩ => h
theorem notOut_then {K : Act → World → Prop} {Q : Exit → Act → World → Prop} (h : ¬ LetsOut Q) : ¬ LetsOut (Exit.then K Q) := fun ⟨a, w, hh⟩ => h ⟨a, w, hh⟩
theorem notOut_block {i : Nat} {Q : Exit → Act → World → Prop} (h : ¬ LetsOut Q) : ¬ LetsOut (Exit.inBlock i Q) := fun ⟨a, w, hh⟩ => h ⟨a, w, hh⟩
theorem notOut_false {K : Act → World → Prop} : ¬ LetsOut (Exit.then K (fun _ _ _ => False)) := fun ⟨_, _, h⟩ => h
end
end Go.Proofs.YtcdmbknmmnaocaaDoor
