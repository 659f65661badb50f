/- A row of strings among a call's arguments, as a walk wants it. -/
import Derived.Test.YtfdjbjinomfgiaaKit
import Derived.WalkKit
import Derived.ProofKit
import Derived.SliceStrings
import Derived.ChangeSame
namespace Go.Proofs.Ytfdjbjinomfgiaa
open Go.ChangeShapes Go.WideShapes Go.RowKit Go.Proofs.YtfdjbjinomfgiaaW.PrintWords

theorem strs_in {H : Type} {enc : TypeId × Value → H} {W : World} {a : Option Addr} {len cap : Nat} {d : DataW H} {p : List MemPlace}
    (h : DataW.Trod enc Try.prog W 0 (fun _ => true) true 22 (.slice a len cap) d p) :
    ∃ xs : List ByteArray, len = xs.length ∧ Kd.C Kd.string W a xs.length xs ∧ (∀ s ∈ xs, s.size ≤ maxLen) ∧ xs.length ≤ cap ∧ xs.length ≤ maxLen := by
  obtain ⟨fuel, hf⟩ := h
  rcases open_strings Try.underlying22 Try.underlying9 (by kernel_rfl) hf with ⟨hcs, _⟩ | ⟨x, l, c, ss, hcs, _, hl, hm, hlen, _, hcell, hsz⟩
  · simp [Value.cells] at hcs
    obtain ⟨rfl, rfl, rfl⟩ := hcs
    exact ⟨[], rfl, Kd.C_nil _ _, by simp, by simp, by simp⟩
  · simp [Value.cells] at hcs
    obtain ⟨rfl, rfl, rfl⟩ := hcs
    have hlen' : ss.length = cap := by simpa using hlen
    have h1 : len = (ss.take len).length := by rw [List.length_take]; omega
    have hmx : maxLen ≤ 9223372036854775807 := by decide
    refine ⟨ss.take len, h1, ?_, fun s hs => hsz s (List.mem_of_mem_take hs), by omega, by omega⟩
    refine Kd.C_of_reads (d := ByteArray.empty) ⟨rfl, by omega, fun _ => ⟨_, rfl, fun j hj => ?_⟩⟩
    rw [hcell j (by omega)]
    have hj1 : j < len := by omega
    have hj2 : j < ss.length := by omega
    simp [List.getD_eq_getElem?_getD, hj1]

def boolOf {H : Type} (y : DataW H × List MemPlace) : Bool := match y.1 with | .lit (.bool b) => b | _ => false
theorem bools_in {H : Type} {enc : TypeId × Value → H} {W : World} {fuel : Nat} {cs : List Value} {x : DataW H × List MemPlace}
    (h : DataW.trod enc Try.prog W 0 (fun _ => true) true fuel 58 cs = some x) :
    ∃ (A : Option Addr) (n c : Nat) (l : List Bool), cs = [.slice A n c] ∧ n = l.length ∧ Kd.C Kd.bool W A l.length l ∧ l.length ≤ c := by
  rcases DataW.trod_slice Try.underlying58 h with ⟨hcs, _⟩ | ⟨a, len, cap, elems, rest, n, _, rfl, rfl, hb, hl, hm, hlen, hel, hsp, hns⟩
  · exact ⟨none, 0, 0, [], hcs, rfl, Kd.C_nil _ _, Nat.le_refl _⟩
  · have hmx : maxLen ≤ 9223372036854775807 := by decide
    have e1 : (elems.map boolOf).length = len := by rw [List.length_map, hlen]
    refine ⟨some a, len, cap, elems.map boolOf, rfl, e1.symm, ?_, by omega⟩
    refine Kd.C_of_reads (d := false) ⟨rfl, by omega, fun _ => ⟨_, rfl, fun j hj => ?_⟩⟩
    have hj1 : j < elems.length := by simpa using hj
    have h1 := hel j (by omega)
    rw [List.getElem?_eq_getElem hj1, show Try.prog.cellsOf 4 = 1 from by kernel_rfl, Nat.mul_one, Option.bind_eq_some_iff] at h1
    obtain ⟨cs', hcs, hy'⟩ := h1
    obtain ⟨b, rfl, hx⟩ := DataW.trod_bool Try.underlying4 hy'
    rw [cell_of_cells?_one hcs]
    simp [List.getD_eq_getElem?_getD, List.getElem?_eq_getElem hj1, hx, boolOf]
set_option maxRecDepth 100000 in
theorem pat_in {H : Type} {enc : TypeId × Value → H} {W : World} {base : Nat} {v : Value} {d : DataW H} {p : List MemPlace} (hv : Value.okWide Try.prog W .any base 60 v)
    (h : DataW.Trod enc Try.prog W 0 (fun _ => true) true 60 v d p) :
    ∃ (pt : ByteArray) (A : Option Addr) (n c : Nat) (l : List Bool), v = .agg #[.string pt, .slice A n c] ∧ n = l.length ∧ Kd.C Kd.bool W A l.length l ∧ l.length ≤ c := by
  have hu := Try.underlying60
  simp only [Value.okWide, hu] at hv
  obtain ⟨cs, rfl, hsz, _⟩ := hv
  obtain ⟨fuel, hf⟩ := h
  obtain ⟨y0, y1, n, _, hl, h0, h1⟩ := trod_struct2 hu hf
  obtain ⟨cl⟩ := cs
  have hlen : cl.length = 2 := hsz
  match cl, hlen with
  | [u, w], _ =>
    obtain ⟨s, hs, _⟩ := DataW.trod_string Try.underlying9 h0
    obtain ⟨A, k, c, l, h2, rfl, hC, hc⟩ := bools_in h1
    have c0 : Try.prog.cellsOf 9 = 1 := by kernel_rfl
    have c1 : Try.prog.cellsOf 58 = 1 := by kernel_rfl
    have e0 : u = .string s := by simpa [Value.cells, c0] using hs
    have e1 : w = .slice A l.length c := by simpa [Value.cells, c1] using h2
    subst e0 e1
    exact ⟨s, A, _, c, l, rfl, rfl, hC, hc⟩
end Go.Proofs.Ytfdjbjinomfgiaa
