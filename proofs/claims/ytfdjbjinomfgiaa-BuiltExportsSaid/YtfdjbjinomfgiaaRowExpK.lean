/- Numbers in a row among the arguments of BuiltExports. -/
import Derived.Test.YtfdjbjinomfgiaaRowKit2
import Derived.Test.YtfdjbjinomfgiaaBltH
namespace Go.Proofs.Ytfdjbjinomfgiaa
open Go.ChangeShapes Go.WideShapes Go.RowKit Go.Proofs.YtfdjbjinomfgiaaW.PrintWords
set_option maxRecDepth 100000 in
theorem int_elem {H : Type} {enc : TypeId × Value → H} {W : World} (fuel : Nat) (cs : List Value) (x : DataW H × List MemPlace)
    (h : DataW.trod enc Try.prog W 0 (fun _ => true) true fuel 3 cs = some x) : ∃ y, (Kd.int .i64).K W y cs ∧ True := by
  obtain ⟨s, hs, _, hm⟩ := DataW.trod_int Try.underlying3 h
  exact ⟨s, hs, trivial⟩
theorem ints_in {H : Type} {enc : TypeId × Value → H} {W : World} {a : Option Addr} {len cap : Nat} {d : DataW H} {p : List MemPlace}
    (h : DataW.Trod enc Try.prog W 0 (fun _ => true) true 99 (.slice a len cap) d p) :
    ∃ xs : List Int, len = xs.length ∧ Kd.C (Kd.int .i64) W a xs.length xs ∧ (∀ y ∈ xs, True) ∧ xs.length ≤ cap := by
  obtain ⟨fuel, hf⟩ := h
  obtain ⟨A, c, xs, hcs, hC, hp, hc, _⟩ := rows_in (Kd.int .i64) (fun y : Int => True) Try.underlying99 (by kernel_rfl) int_elem hf
  simp [Value.cells] at hcs
  obtain ⟨rfl, rfl, rfl⟩ := hcs
  exact ⟨xs, rfl, hC, hp, hc⟩
end Go.Proofs.Ytfdjbjinomfgiaa
