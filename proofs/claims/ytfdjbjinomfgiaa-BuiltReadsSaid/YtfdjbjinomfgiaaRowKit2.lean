/- Rows of structs among a call's arguments, as a walk wants them. -/
import Derived.Test.YtfdjbjinomfgiaaKit
import Derived.WalkKit
import Derived.ProofKit
import Derived.SliceStrings
import Derived.ChangeSame
namespace Go.Proofs.Ytfdjbjinomfgiaa
open Go.ChangeShapes Go.WideShapes Go.RowKit Go.Proofs.YtfdjbjinomfgiaaW.PrintWords

theorem rows_in {α H : Type} {enc : TypeId × Value → H} {W : World} (d : Kd α) (P : α → Prop) {t e : TypeId} (hu : Try.prog.underlying t = some (.slice e)) (hsz : Try.prog.cellsOf e = d.sz)
    (helem : ∀ fuel cs x, DataW.trod enc Try.prog W 0 (fun _ => true) true fuel e cs = some x → ∃ y, d.K W y cs ∧ P y) {cs : List Value} {fuel : Nat} {x : DataW H × List MemPlace}
    (h : DataW.trod enc Try.prog W 0 (fun _ => true) true fuel t cs = some x) :
    ∃ (A : Option Addr) (c : Nat) (xs : List α), cs = [.slice A xs.length c] ∧ Kd.C d W A xs.length xs ∧ (∀ y ∈ xs, P y) ∧ xs.length ≤ c ∧ xs.length ≤ maxLen := by
  rcases DataW.trod_slice hu h with ⟨hcs, _⟩ | ⟨a, len, cap, elems, rest, n, _, rfl, rfl, hb, hl, hm, hlen, hel, hsp, hns⟩
  · exact ⟨none, 0, [], hcs, Kd.C_nil _ _, by simp, Nat.le_refl _, by simp⟩
  · have each : ∀ i : Fin len, ∃ y : α, ∃ cs, W.cells? 0 (a.add (i.1 * d.sz)) d.sz = some cs ∧ d.K W y cs ∧ P y := by
      intro i
      have h1 := hel i.1 i.2
      rw [List.getElem?_eq_getElem (by omega), hsz, Option.bind_eq_some_iff] at h1
      obtain ⟨cs', hcs, hy'⟩ := h1
      obtain ⟨y, hy, hp⟩ := helem _ _ _ hy'
      exact ⟨y, cs', hcs, hy, hp⟩
    have hmx : maxLen ≤ 9223372036854775807 := by decide
    let f := fun i => (each i).choose
    have hf := fun i => (each i).choose_spec
    have e1 : (List.ofFn f).length = len := by simp
    refine ⟨some a, cap, List.ofFn f, by rw [e1], ⟨rfl, by omega, fun _ => ⟨a, rfl, fun j p hj => ?_⟩⟩, fun y hy => ?_, by omega, by omega⟩
    · have hj1 : j < len := by have := (List.getElem?_eq_some_iff.1 hj).1; omega
      have hp : f ⟨j, hj1⟩ = p := by simpa [hj1] using hj
      obtain ⟨cs', hc1, hc2, _⟩ := hf ⟨j, hj1⟩
      rw [show (each ⟨j, hj1⟩).choose = p from hp] at hc2
      obtain ⟨_, hk1, hk2⟩ := World.cells?_some hc1
      refine ⟨cs', hk1, hc2, fun i u hiu => ?_⟩
      have hi : i < d.sz := by have := (List.getElem?_eq_some_iff.1 hiu).1; omega
      have h3 := hk2 i hi
      rw [hiu] at h3
      rw [← h3, add_add]
    · obtain ⟨i, hi, rfl⟩ := List.mem_iff_getElem.1 hy
      obtain ⟨_, _, _, hp⟩ := hf ⟨i, by simpa using hi⟩
      simpa using hp
theorem str_elem {H : Type} {enc : TypeId × Value → H} {W : World} (fuel : Nat) (cs : List Value) (x : DataW H × List MemPlace)
    (h : DataW.trod enc Try.prog W 0 (fun _ => true) true fuel 9 cs = some x) : ∃ y, Kd.string.K W y cs ∧ y.size ≤ maxLen := by
  obtain ⟨s, hs, _, hm⟩ := DataW.trod_string Try.underlying9 h
  exact ⟨s, hs, hm⟩
theorem strs_in2 {H : Type} {enc : TypeId × Value → H} {W : World} {a : Option Addr} {len cap : Nat} {d : DataW H} {p : List MemPlace}
    (h : DataW.Trod enc Try.prog W 0 (fun _ => true) true 22 (.slice a len cap) d p) :
    ∃ xs : List ByteArray, len = xs.length ∧ Kd.C Kd.string W a xs.length xs ∧ (∀ s ∈ xs, s.size ≤ maxLen) ∧ xs.length ≤ cap := by
  obtain ⟨fuel, hf⟩ := h
  obtain ⟨A, c, xs, hcs, hC, hp, hc, _⟩ := rows_in Kd.string (fun s : ByteArray => s.size ≤ maxLen) Try.underlying22 (by kernel_rfl) str_elem hf
  simp [Value.cells] at hcs
  obtain ⟨rfl, rfl, rfl⟩ := hcs
  exact ⟨xs, rfl, hC, hp, hc⟩
theorem var_elem {H : Type} {enc : TypeId × Value → H} {W : World} (fuel : Nat) (cs : List Value) (x : DataW H × List MemPlace)
    (h : DataW.trod enc Try.prog W 0 (fun _ => true) true fuel 108 cs = some x) : ∃ y, (Kd.pair Kd.string Kd.string).K W y cs ∧ (y.1.size ≤ maxLen ∧ y.2.size ≤ maxLen) := by
  obtain ⟨y0, y1, n, _, hl, h0, h1⟩ := trod_struct2 Try.underlying108 h
  have c0 : Try.prog.cellsOf 9 = 1 := by kernel_rfl
  have c1 : Try.prog.cellsOf 108 = 2 := by kernel_rfl
  rw [c1] at hl
  rw [c0] at h0 h1
  match cs, hl with
  | [u, w], _ =>
    obtain ⟨s, hs, _, hm⟩ := DataW.trod_string Try.underlying9 h0
    obtain ⟨s', hs', _, hm'⟩ := DataW.trod_string Try.underlying9 h1
    simp at hs hs'
    subst hs hs'
    exact ⟨(s, s'), ⟨[.string s], [.string s'], rfl, rfl, rfl⟩, hm, hm'⟩
theorem vars_in {H : Type} {enc : TypeId × Value → H} {W : World} {a : Option Addr} {len cap : Nat} {d : DataW H} {p : List MemPlace}
    (h : DataW.Trod enc Try.prog W 0 (fun _ => true) true 29 (.slice a len cap) d p) :
    ∃ xs : List (ByteArray × ByteArray), len = xs.length ∧ Kd.C (Kd.pair Kd.string Kd.string) W a xs.length xs ∧ (∀ s ∈ xs, s.1.size ≤ maxLen ∧ s.2.size ≤ maxLen) ∧ xs.length ≤ cap := by
  obtain ⟨fuel, hf⟩ := h
  obtain ⟨A, c, xs, hcs, hC, hp, hc, _⟩ := rows_in (Kd.pair Kd.string Kd.string) (fun s : ByteArray × ByteArray => s.1.size ≤ maxLen ∧ s.2.size ≤ maxLen) Try.underlying29 (by kernel_rfl) var_elem hf
  simp [Value.cells] at hcs
  obtain ⟨rfl, rfl, rfl⟩ := hcs
  exact ⟨xs, rfl, hC, hp, hc⟩
end Go.Proofs.Ytfdjbjinomfgiaa
