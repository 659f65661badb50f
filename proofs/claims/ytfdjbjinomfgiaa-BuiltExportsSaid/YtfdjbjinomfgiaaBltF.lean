/- What export and unset leave: the plain law of BuiltExports. -/
import Derived.Test.YtfdjbjinomfgiaaBltE
import Derived.Test.YtfdjbjinomfgiaaFullP
namespace Go.Proofs.Ytfdjbjinomfgiaa
open Go.RowKit Go.Maps Go.Proofs.YtfdjbjinomfgiaaW.PrintWords Go.Proofs.YtfdjbjinomfgiaaW.PrintLast Go.Proofs.YtfdjbjinomfgiaaW.PrintMore
set_option linter.unusedSimpArgs false
set_option linter.unusedVariables false

abbrev doneZ : DoneT := (0, ⟨#[]⟩, 0, 0, 0)
def vnm (a : Nat) : ByteArray := ⟨#[118]⟩ ++ dgs a
def vvl (b : Nat) : ByteArray := dgs b ++ ⟨#[61]⟩
def vword (a b : Nat) : ByteArray := vnm a ++ ⟨#[61]⟩ ++ dgs b ++ ⟨#[61]⟩
def badW : Nat → ByteArray
  | 0 => ⟨#[49, 97]⟩
  | 1 => ⟨#[]⟩
  | 2 => ⟨#[97, 32, 98, 61, 49]⟩
  | _ => ⟨#[61, 120]⟩
theorem vword_all : ∀ a : Fin 8, ∀ b : Fin 256, assignF (vword a.val b.val) = (vnm a.val, vvl b.val, true) := by decide +kernel
theorem vnm_all : ∀ a : Fin 8, numF (vnm a.val) = none ∧ (assignF (vnm a.val)).2.2 = false ∧ nameB (vnm a.val) = true ∧ ltB ifsB (vnm a.val) = true ∧ (vnm a.val).size ≤ 1000 := by decide +kernel
theorem vvl_all : ∀ b : Fin 256, valB (vvl b.val) = true ∧ (vvl b.val).size ≤ 1000 := by decide +kernel
theorem badW_all : ∀ j : Fin 4, (assignF (badW j.val)).2.2 = false ∧ nameB (badW j.val) = false ∧ (badW j.val).size ≤ 1000 := by decide +kernel
end Go.Proofs.Ytfdjbjinomfgiaa
