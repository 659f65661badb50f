/- Environments side by side: what each leaves of the other. -/
import Derived.Test.YtfdjbjinomfgiaaEnvF
namespace Go.Proofs.Ytfdjbjinomfgiaa
open Go.RowKit Go.Maps Go.Proofs.YtfdjbjinomfgiaaW.PrintWords Go.Proofs.YtfdjbjinomfgiaaW.PrintLast Go.Proofs.YtfdjbjinomfgiaaW.PrintMore
set_option linter.unusedSimpArgs false
set_option linter.unusedVariables false

theorem EnvIs.notG {w : World} {g m1 m2 : Nat} {S : EnvS} (h : EnvIs w g m1 m2 S) {e : Nat} (he : 106 ≠ e) : NotRow w e g := by
  obtain ⟨⟨v, hb, _⟩, _⟩ := h
  exact cells_notRow hb he
theorem EnvIs.lt {w : World} {g m1 m2 : Nat} {S : EnvS} (h : EnvIs w g m1 m2 S) : g < w.heap.size ∧ m1 < w.heap.size ∧ m2 < w.heap.size := by
  obtain ⟨⟨v, hb, _⟩, hv, hf, _⟩ := h
  exact ⟨blk_lt' hb, hv.lt, hf.lt⟩
/-- Another environment, all of it apart. -/
structure Apart (g m1 m2 g' n1 n2 : Nat) : Prop where
  h0 : g' ≠ g
  h1 : n1 ≠ m1
  h2 : n1 ≠ m2
  h3 : n2 ≠ m1
  h4 : n2 ≠ m2
theorem EnvIs.env1 {w W : World} {g m1 m2 g' n1 n2 : Nat} {S S2 : EnvS} (h : EnvIs w g m1 m2 S) (h2 : EnvIs w g' n1 n2 S2) (ha : Apart g m1 m2 g' n1 n2) (hc : Chg (fun k => k = n1) w W) : EnvIs W g m1 m2 S := by
  obtain ⟨⟨v, hb, _⟩, _⟩ := id h
  exact h.chg hc (fun e => by subst e; exact map_notRow h2.vars _ _ hb) (fun e => ha.h1 e.symm) (fun e => ha.h2 e.symm) (fun k hk => by rw [hk]; exact map_notRow h2.vars _)
theorem EnvIs.env2 {w W : World} {g m1 m2 g' n1 n2 : Nat} {S S2 : EnvS} (h : EnvIs w g m1 m2 S) (h2 : EnvIs w g' n1 n2 S2) (ha : Apart g m1 m2 g' n1 n2) (hc : Chg (fun k => k = n2) w W) : EnvIs W g m1 m2 S := by
  obtain ⟨⟨v, hb, _⟩, _⟩ := id h
  exact h.chg hc (fun e => by subst e; exact map_notRow h2.flags _ _ hb) (fun e => ha.h3 e.symm) (fun e => ha.h4 e.symm) (fun k hk => by rw [hk]; exact map_notRow h2.flags _)
theorem EnvIs.env0 {w W : World} {g m1 m2 g' n1 n2 : Nat} {S S2 : EnvS} (h : EnvIs w g m1 m2 S) (h2 : EnvIs w g' n1 n2 S2) (ha : Apart g m1 m2 g' n1 n2) (hc : Chg (fun k => k = g') w W) : EnvIs W g m1 m2 S := by
  obtain ⟨⟨v, hb, _⟩, _⟩ := id h2
  exact h.chg hc (fun e => ha.h0 e.symm) (fun e => by subst e; exact map_notRow h.vars _ _ hb) (fun e => by subst e; exact map_notRow h.flags _ _ hb) (fun k hk => by rw [hk]; exact h2.notG (by decide))
theorem below_chg {w W W2 : World} {T : Nat → Prop} (hb : Below w.heap.size w W) (hc : Chg T W W2) (hT : ∀ k, T k → w.heap.size ≤ k) : Below w.heap.size w W2 :=
  ((Chg.of_below hb none_).then_ hc (fun k hk => .inr (hT k hk))).toBelow
theorem C_block_lt {w : World} {ad : Addr} {n : Nat} {xs : List ByteArray} (h : Kd.C Kd.string w (some ad) n xs) (h0 : 0 < n) : ad.block < w.heap.size := by
  obtain ⟨ad', e', hx⟩ := str_at h h0
  injection e' with e'
  subst e'
  have := World.block_lt_of_cell? w _ hx
  have h2 : (ad.add 0).block = ad.block := by unfold Addr.add; split <;> rfl
  omega
theorem lit_rowC (w : World) (xs : List ByteArray) (T : TypeId) (hm : xs.length ≤ 1000000) : Kd.C Kd.string (w.alloc (.cells (xs.map Value.string).toArray T)) (some ⟨w.heap.size, 0, none⟩) xs.length xs := by
  refine Kd.C_of_reads (d := ByteArray.empty) ⟨rfl, by omega, fun _ => ⟨_, rfl, fun j hj => ?_⟩⟩
  have h := heap_alloc_new w (.cells (xs.map Value.string).toArray T)
  rw [add_plain]
  unfold World.cell?
  rw [h]
  simp [List.getD_eq_getElem?_getD, List.getElem?_eq_getElem hj]
theorem R_emptyH {α : Type} (d : Kd α) (e : Nat) (W : World) (base : Nat) (hb : base ≤ W.heap.size) : d.R e (W.alloc (.cells #[] e)) base (fun _ => True) (.slice (some ⟨W.heap.size, 0, none⟩) 0 0) [] := by
  refine ⟨fun _ _ => trivial, [], ?_, Reps.none _ _⟩
  have h2 := World.ownsRow_lit (base := base) (e := e) (size := d.sz) W #[] 0 hb (by unfold maxLen; omega) (by simp)
  simpa using h2
end Go.Proofs.Ytfdjbjinomfgiaa
