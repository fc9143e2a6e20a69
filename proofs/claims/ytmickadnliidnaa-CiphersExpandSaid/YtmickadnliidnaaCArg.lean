/-
  Arguments that are blocks of 16 bytes, opened.
-/
import Derived.Test.YtmickadnliidnaaCPlain
import Derived.Test.YtmickadnliidnaaArr
import Derived.Test.YtmickadnliidnaaRow
namespace Go.Proofs.Ytmickadnliidnaa
open Go.RowKit Go.WideShapes Go.ChangeShapes Go.Joins

theorem va_ints (l : List Nat) : ((l.map (fun x : Nat => (x : Int))).map (Value.int .u8)).toArray = va .u8 l := by
  simp [va, nv, Function.comp_def]
section
variable {H : Type} {enc : TypeId × Value → H} {W : World}
/-- a block, opened -/
theorem open_blk {r0 : Reach} {b0 base : Nat} {sp : Nat → Bool} {held : Bool} {v : Value} {d : DataW H} {ps : List MemPlace} (hval : Value.okWide Try.prog W r0 b0 22 v) (hd : DataW.Trod enc Try.prog W base sp held 22 v d ps) :
    ∃ l : List Nat, v = .agg (va .u8 l) ∧ l.length = 16 ∧ Ci.Byt l := by
  obtain ⟨zs, rfl, hl, hw, _, _⟩ := open_numarr (e := 5) (n := 16) (q := .u8) (by kernel_rfl) Try.underlying5 (by kernel_rfl) (by kernel_rfl) hval hd
  obtain ⟨l, rfl, hb⟩ := nats_of .u8 256 u8_wf zs hw
  exact ⟨l, by rw [va_ints], by simpa using hl, hb⟩
end
end Go.Proofs.Ytmickadnliidnaa
