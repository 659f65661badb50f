/- A row of strings among a call's arguments, as a walk wants it. -/
import Derived.Test.YtfdjbjinomfgiaaKit
import Derived.WalkKit
import Derived.ProofKit
import Derived.SliceStrings
namespace Go.Proofs.Ytfdjbjinomfgiaa
open Go.ChangeShapes Go.WideShapes Go.RowKit Go.Proofs.YtfdjbjinomfgiaaW.PrintWords

theorem strs_in {H : Type} {enc : TypeId × Value → H} {W : World} {a : Option Addr} {len cap : Nat} {d : DataW H} {p : List MemPlace}
    (h : DataW.Trod enc Try.prog W 0 (fun _ => true) true 22 (.slice a len cap) d p) :
    ∃ xs : List ByteArray, len = xs.length ∧ Kd.C Kd.string W a xs.length xs ∧ (∀ s ∈ xs, s.size ≤ maxLen) ∧ xs.length ≤ cap ∧ xs.length ≤ maxLen := by
  obtain ⟨fuel, hf⟩ := h
  rcases open_strings Try.underlying22 Try.underlying9 (by kernel_rfl) hf with ⟨hcs, _⟩ | ⟨x, l, c, ss, hcs, _, hl, hm, hlen, _, hcell, hsz⟩
  · simp [Value.cells] at hcs
    obtain ⟨rfl, rfl, rfl⟩ := hcs
    exact ⟨[], rfl, Kd.C_nil _ _, by simp, by simp, by simp⟩
  · simp [Value.cells] at hcs
    obtain ⟨rfl, rfl, rfl⟩ := hcs
    have hlen' : ss.length = cap := by simpa using hlen
    have h1 : len = (ss.take len).length := by rw [List.length_take]; omega
    have hmx : maxLen ≤ 9223372036854775807 := by decide
    refine ⟨ss.take len, h1, ?_, fun s hs => hsz s (List.mem_of_mem_take hs), by omega, by omega⟩
    refine Kd.C_of_reads (d := ByteArray.empty) ⟨rfl, by omega, fun _ => ⟨_, rfl, fun j hj => ?_⟩⟩
    rw [hcell j (by omega)]
    have hj1 : j < len := by omega
    have hj2 : j < ss.length := by omega
    simp [List.getD_eq_getElem?_getD, hj1]
end Go.Proofs.Ytfdjbjinomfgiaa
