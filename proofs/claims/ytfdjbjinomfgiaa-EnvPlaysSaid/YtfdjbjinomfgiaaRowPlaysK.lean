/- The calls of the law of variables among its arguments. -/
import Derived.Test.YtfdjbjinomfgiaaRowKit2
import Derived.Test.YtfdjbjinomfgiaaPlaysD
namespace Go.Proofs.Ytfdjbjinomfgiaa
open Go.ChangeShapes Go.WideShapes Go.RowKit Go.Proofs.YtfdjbjinomfgiaaW.PrintWords
set_option maxRecDepth 100000 in
theorem op_elem {H : Type} {enc : TypeId × Value → H} {W : World} (fuel : Nat) (cs : List Value) (x : DataW H × List MemPlace)
    (h : DataW.trod enc Try.prog W 0 (fun _ => true) true fuel 46 cs = some x) : ∃ y, OpK.K W y cs ∧ (0 ≤ y.2.2.2.2.1 ∧ y.2.2.2.2.1 ≤ 255) := by
  obtain ⟨xs, n, _, _, hl, hlen, hf⟩ := DataW.trod_struct Try.underlying46 h
  have c6 : Try.prog.cellsOf 46 = 6 := by kernel_rfl
  have cs_ : Try.prog.cellsOf 9 = 1 := by kernel_rfl
  have ci : Try.prog.cellsOf 3 = 1 := by kernel_rfl
  have cr : Try.prog.cellsOf 22 = 1 := by kernel_rfl
  have c8 : Try.prog.cellsOf 5 = 1 := by kernel_rfl
  have cb : Try.prog.cellsOf 4 = 1 := by kernel_rfl
  rw [c6] at hl
  match cs, hl, xs, hlen with
  | [u0, u1, u2, u3, u4, u5], _, [y0, y1, y2, y3, y4, y5], _ =>
    have h0 : DataW.trod enc Try.prog W 0 (fun _ => true) true n 3 ((List.drop 0 [u0, u1, u2, u3, u4, u5]).take (Try.prog.cellsOf 3)) = some y0 := hf 0 _ rfl
    have h1 : DataW.trod enc Try.prog W 0 (fun _ => true) true n 9 ((List.drop 1 [u0, u1, u2, u3, u4, u5]).take (Try.prog.cellsOf 9)) = some y1 := hf 1 _ rfl
    have h2 : DataW.trod enc Try.prog W 0 (fun _ => true) true n 9 ((List.drop 2 [u0, u1, u2, u3, u4, u5]).take (Try.prog.cellsOf 9)) = some y2 := hf 2 _ rfl
    have h3 : DataW.trod enc Try.prog W 0 (fun _ => true) true n 22 ((List.drop 3 [u0, u1, u2, u3, u4, u5]).take (Try.prog.cellsOf 22)) = some y3 := hf 3 _ rfl
    have h4 : DataW.trod enc Try.prog W 0 (fun _ => true) true n 5 ((List.drop 4 [u0, u1, u2, u3, u4, u5]).take (Try.prog.cellsOf 5)) = some y4 := hf 4 _ rfl
    have h5 : DataW.trod enc Try.prog W 0 (fun _ => true) true n 4 ((List.drop 5 [u0, u1, u2, u3, u4, u5]).take (Try.prog.cellsOf 4)) = some y5 := hf 5 _ rfl
    rw [ci] at h0
    rw [cs_] at h1 h2
    rw [cr] at h3
    rw [c8] at h4
    rw [cb] at h5
    obtain ⟨a0, e0, _, _⟩ := DataW.trod_int Try.underlying3 h0
    obtain ⟨a1, e1, _, _⟩ := DataW.trod_string Try.underlying9 h1
    obtain ⟨a2, e2, _, _⟩ := DataW.trod_string Try.underlying9 h2
    obtain ⟨A, c, l, e3, hC, _, hc, _⟩ := rows_in Kd.string (fun s : ByteArray => s.size ≤ maxLen) Try.underlying22 (by kernel_rfl) str_elem h3
    obtain ⟨a4, e4, _, w4⟩ := DataW.trod_int Try.underlying5 h4
    obtain ⟨a5, e5, _⟩ := DataW.trod_bool Try.underlying4 h5
    simp at e0 e1 e2 e3 e4 e5
    subst e0 e1 e2 e3 e4 e5
    have hr : 0 ≤ a4 ∧ a4 ≤ 255 := by
      have q1 : IntKind.u8.min = 0 := rfl
      have q2 : IntKind.u8.max = 255 := rfl
      simp [Lit.wf, q1, q2] at w4
      exact w4
    exact ⟨(a0, a1, a2, l, a4, a5), ⟨[.int .i64 a0], _, rfl, rfl, [.string a1], _, rfl, rfl, [.string a2], _, rfl, rfl, [.slice A l.length c], _, rfl, ⟨A, c, rfl, hc, hC⟩, [.int .u8 a4], [.bool a5], rfl, rfl, rfl⟩, hr⟩
theorem ops_in {H : Type} {enc : TypeId × Value → H} {W : World} {a : Option Addr} {len cap : Nat} {d : DataW H} {p : List MemPlace}
    (h : DataW.Trod enc Try.prog W 0 (fun _ => true) true 40 (.slice a len cap) d p) :
    ∃ xs : List OpR, len = xs.length ∧ Kd.C OpK W a xs.length xs ∧ (∀ y ∈ xs, 0 ≤ y.2.2.2.2.1 ∧ y.2.2.2.2.1 ≤ 255) ∧ xs.length ≤ cap := by
  obtain ⟨fuel, hf⟩ := h
  obtain ⟨A, c, xs, hcs, hC, hp, hc, _⟩ := rows_in OpK (fun y : OpR => 0 ≤ y.2.2.2.2.1 ∧ y.2.2.2.2.1 ≤ 255) Try.underlying40 (by kernel_rfl) op_elem hf
  simp [Value.cells] at hcs
  obtain ⟨rfl, rfl, rfl⟩ := hcs
  exact ⟨xs, rfl, hC, hp, hc⟩
end Go.Proofs.Ytfdjbjinomfgiaa
