/- The sorted keys of a table. -/
import Derived.Test.YtfdjbjinomfgiaaTab
import Derived.Sort.KeysCollected
namespace Go.Proofs.Ytfdjbjinomfgiaa
open Go.RowKit Go.Maps

theorem tab_keys {V H : Type} (enc : V → DataW H) (L : List (ByteArray × V)) : strKeys (tab enc L) = L.map fun p => p.1.data.toList := by
  show (L.map _).map _ = _
  rw [List.map_map]
  rfl


/-- The keys, sorted: the rising list's own. -/
theorem leB_of_lt : ∀ {x y : List UInt8}, bytesBefore x y = true → leB x y = true
  | [], [], h => by simp [bytesBefore] at h
  | [], _ :: _, _ => by simp [leB]
  | _ :: _, [], h => by simp [bytesBefore] at h
  | a :: x, b :: y, h => by
    simp only [bytesBefore, Bool.or_eq_true, decide_eq_true_eq, Bool.and_eq_true, beq_iff_eq] at h
    simp only [leB, decide_eq_true_eq]
    rcases h with h | ⟨rfl, h⟩
    · exact List.cons_le_cons_iff.2 (.inl h)
    · exact List.cons_le_cons_iff.2 (.inr ⟨rfl, by simpa [leB] using leB_of_lt h⟩)
theorem sorted_keys {V : Type} {L : List (ByteArray × V)} (h : Rising L) {ss : List (List UInt8)} (hp : ss.Perm (L.map fun p => p.1.data.toList)) : ss.mergeSort leB = L.map fun p => p.1.data.toList := by
  rw [mergeSort_of_perm hp]
  refine List.mergeSort_of_pairwise ?_
  rw [List.pairwise_map]
  exact List.Pairwise.imp (fun {p q} hpq => leB_of_lt hpq) h

end Go.Proofs.Ytfdjbjinomfgiaa
