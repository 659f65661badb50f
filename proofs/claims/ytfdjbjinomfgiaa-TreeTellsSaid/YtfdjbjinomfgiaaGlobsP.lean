/- TreeGlobs, the plain part: what Glob tells, told one by one; a pattern with no live byte tells its own text. -/
import Derived.Test.YtfdjbjinomfgiaaGlob
namespace Go.Proofs.Ytfdjbjinomfgiaa
open Go.RowKit Go.Proofs.YtfdjbjinomfgiaaW.PrintWords Go.Proofs.YtfdjbjinomfgiaaW.PrintLast Go.Proofs.YtfdjbjinomfgiaaW.PrintMore
set_option linter.unusedSimpArgs false

theorem filter_at (p : ByteArray → Bool) (xs : List ByteArray) (i : Nat) (h : i < xs.length) (hp : p (xs.getD i ByteArray.empty) = true) :
    ((xs.take i).filter p).length < (xs.filter p).length ∧ (xs.filter p).getD ((xs.take i).filter p).length ByteArray.empty = xs.getD i ByteArray.empty := by
  have g : xs.getD i ByteArray.empty = xs[i] := by simp [List.getD_eq_getElem?_getD, List.getElem?_eq_getElem h]
  rw [g] at hp ⊢
  have e : xs.filter p = (xs.take i).filter p ++ xs[i] :: (xs.drop (i + 1)).filter p := by
    conv => lhs; rw [← List.take_append_drop i xs, List.drop_eq_getElem_cons h, List.filter_append, List.filter_cons_of_pos hp]
  rw [e]
  simp [List.getD_eq_getElem?_getD]
theorem keys_lt {L : Names} (h : Rising L) (i : Nat) (hi : i + 1 < (L.map Prod.fst).length) : ltB ((L.map Prod.fst).getD i ByteArray.empty) ((L.map Prod.fst).getD (i + 1) ByteArray.empty) = true := by
  have h2 : (L.map Prod.fst).Pairwise fun a b => ltB a b = true := by
    rw [List.pairwise_map]; exact h
  have := List.pairwise_iff_getElem.1 h2 i (i + 1) (by omega) hi (by omega)
  simpa [List.getD_eq_getElem?_getD, List.getElem?_eq_getElem hi, List.getElem?_eq_getElem (show i < (L.map Prod.fst).length by omega)] using this

section
variable (p s : ByteArray)
theorem isC_nil (i : Nat) (c : Int) : isC p [] i c = false := by simp [isC, lv]
theorem stp_nil (i : Nat) : stp p [] i = (.tst (fun c => decide (c = bt p i)), i + 1) := by
  unfold stp brk
  simp [isC_nil]
/-- The first i bytes are the same. -/
def sameTo (i : Nat) : Bool := (List.range i).all fun j => decide (bt s j = bt p j)
theorem goM_nil : ∀ (d i : Nat), i + d = p.size → goM p [] s d i (rowOf s.size fun j => decide (j = i) && sameTo p s i) = (decide (s.size = p.size) && sameTo p s p.size)
  | 0, i, h => by
    obtain rfl : i = p.size := by omega
    unfold goM
    exact rowOf_get _ _ (Nat.le_refl _)
  | d + 1, i, h => by
    unfold goM
    rw [if_pos (by omega), stp_nil]
    have e : app s (rowOf s.size fun j => decide (j = i) && sameTo p s i) (.tst (fun c => decide (c = bt p i))) = rowOf s.size fun j => decide (j = i + 1) && sameTo p s (i + 1) := by
      refine row_ext (app_length _ _ _) fun j hj => ?_
      unfold app
      rw [rowOf_get _ _ hj]
      cases j with
      | zero => simp [testF]
      | succ j =>
        show ((rowOf s.size fun j => decide (j = i) && sameTo p s i).getD j false && decide (bt s j = bt p i)) = _
        rw [rowOf_get _ _ (by omega)]
        unfold sameTo
        rw [List.range_succ, List.all_append]
        by_cases hji : j = i
        · subst hji; simp
        · have : ¬ (j + 1 = i + 1) := by omega
          simp [hji, this]
    show goM p [] s d (i + 1) (app s _ (.tst (fun c => decide (c = bt p i)))) = _
    rw [e]
    exact goM_nil d (i + 1) (by omega)
theorem bt_ext (h : s.size = p.size) (hb : ∀ j, j < p.size → bt s (j : Int) = bt p (j : Int)) : s = p := by
  refine data_inj (List.ext_getElem ?_ fun j h1 h2 => ?_)
  · exact h
  · have h1' : j < s.size := h1
    have h2' : j < p.size := h2
    have := hb j h2'
    have e1 : (s[j].toNat : Int) = bt s j := bt_at s (j : Int) h1'
    have e2 : (p[j].toNat : Int) = bt p j := bt_at p (j : Int) h2'
    have hx : s[j].toNat = p[j].toNat := by omega
    exact UInt8.toNat_inj.1 hx
theorem matchB_nil : matchB p [] s = decide (s = p) := by
  unfold matchB
  have e : (rowOf s.size fun j => j == 0) = rowOf s.size fun j => decide (j = 0) && sameTo p s 0 := by
    refine row_ext (rowOf_length _ _) fun j hj => ?_
    rw [rowOf_get _ _ hj]
    cases j <;> simp [sameTo]
  rw [e, goM_nil p s p.size 0 (by omega), Bool.eq_iff_iff]
  simp only [Bool.and_eq_true, decide_eq_true_iff, sameTo, List.all_eq_true, List.mem_range]
  exact ⟨fun h => bt_ext p s h.1 h.2, fun h => by subst h; exact ⟨rfl, fun _ _ => rfl⟩⟩
end
theorem noGlob_nil (p s : ByteArray) : (!noGlob p [] s) = decide (s = p) := by
  unfold noGlob
  rw [matchB_nil]
  by_cases h : s = p
  · subst h; simp
  · simp [h]
theorem keep_dot (p : ByteArray) (l : List Bool) (s : ByteArray) : (!noGlob p l s) = (matchB p l s && (!dotB s || dotB p)) := by
  unfold noGlob
  cases matchB p l s <;> cases dotB s <;> cases dotB p <;> rfl
theorem plain_some : ∀ (L : Names) (raw : ByteArray), Rising L → (globF L raw [] = [raw] ∧ (tget L raw).isSome = true) ∨ (globF L raw [] = [] ∧ (tget L raw).isSome = false)
  | [], _, _ => .inr ⟨rfl, rfl⟩
  | q :: r, raw, h => by
    obtain ⟨hq, hr⟩ := List.pairwise_cons.1 h
    have hg : globF (q :: r) raw [] = if q.1 = raw then q.1 :: globF r raw [] else globF r raw [] := by
      unfold globF
      rw [List.map_cons, List.filter_cons, noGlob_nil]
      simp
    have ht : tget (q :: r) raw = if q.1 = raw then some q.2 else tget r raw := rfl
    rw [hg, ht]
    by_cases he : q.1 = raw
    · rw [if_pos he, if_pos he]
      refine .inl ⟨?_, rfl⟩
      rw [he]
      congr 1
      unfold globF
      rw [List.filter_eq_nil_iff]
      intro a ha
      rw [noGlob_nil]
      obtain ⟨q2, h2, rfl⟩ := List.mem_map.1 ha
      have := ltB_ne (hq q2 h2)
      rw [he] at this
      simpa using fun h => this h.symm
    · rw [if_neg he, if_neg he]
      exact plain_some r raw hr
end Go.Proofs.Ytfdjbjinomfgiaa
