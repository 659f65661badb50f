/- Sorted tables keyed by strings: what a map read as a datum is, as a rising list of pairs. Plain Lean; no program. -/
import Derived.Maps.OwnSet
namespace Go.Proofs.Ytfdjbjinomfgiaa
open Go.RowKit Go.Maps

/-- Go's '<' on strings. -/
def ltB (s t : ByteArray) : Bool := bytesBefore s.data.toList t.data.toList

theorem toList_data (s : ByteArray) : s.toList = s.data.toList := ByteArray.toList_eq s
theorem bytesLess_before : ∀ x y : List UInt8, Op.bytesLess x y = bytesBefore x y
  | [], [] => rfl
  | [], _ :: _ => rfl
  | _ :: _, [] => rfl
  | a :: x, b :: y => by simp only [Op.bytesLess, bytesBefore]; rw [bytesLess_before x y]
theorem bytesLess_ltB (s t : ByteArray) : Op.bytesLess s.toList t.toList = ltB s t := by rw [bytesLess_before, toList_data, toList_data]; rfl
theorem data_inj {s t : ByteArray} (h : s.data.toList = t.data.toList) : s = t := by
  exact WideShapes.bytes_inj h
theorem toList_inj {s t : ByteArray} : s.toList = t.toList ↔ s = t := ⟨fun h => data_inj (by rw [← toList_data, ← toList_data]; exact h), fun h => by rw [h]⟩
theorem ltB_irrefl (s : ByteArray) : ltB s s = false := WideShapes.before_irrefl (.string s.data.toList)
theorem ltB_trans {s t u : ByteArray} (h : ltB s t = true) (k : ltB t u = true) : ltB s u = true :=
  WideShapes.before_trans (a := .string s.data.toList) (b := .string t.data.toList) (c := .string u.data.toList) h k
theorem ltB_total {s t : ByteArray} (h : s ≠ t) : ltB s t = true ∨ ltB t s = true :=
  ChangeMaps.before_total (a := .string s.data.toList) (b := .string t.data.toList) ⟨_, rfl⟩ ⟨_, rfl⟩ (fun e => h (data_inj (by injection e)))
theorem ltB_ne {s t : ByteArray} (h : ltB s t = true) : s ≠ t := by rintro rfl; rw [ltB_irrefl] at h; cases h
theorem ltB_asymm {s t : ByteArray} (h : ltB s t = true) : ltB t s = false := by
  cases hh : ltB t s with
  | false => rfl
  | true => have := ltB_trans h hh; rw [ltB_irrefl] at this; cases this

section
variable {V : Type} {H : Type}

def tab (enc : V → DataW H) (L : List (ByteArray × V)) : DataW H := .map (L.map fun p => (.string p.1.data.toList, enc p.2))
def Rising (L : List (ByteArray × V)) : Prop := L.Pairwise fun p q => ltB p.1 q.1 = true
def tins (x : ByteArray × V) : List (ByteArray × V) → List (ByteArray × V)
  | [] => [x]
  | y :: r => if ltB x.1 y.1 then x :: y :: r else y :: tins x r
def tdel (L : List (ByteArray × V)) (s : ByteArray) : List (ByteArray × V) := L.filter fun p => !decide (p.1 = s)
def tput (L : List (ByteArray × V)) (s : ByteArray) (v : V) : List (ByteArray × V) := tins (s, v) (tdel L s)
def tget : List (ByteArray × V) → ByteArray → Option V
  | [], _ => none
  | p :: r, s => if p.1 = s then some p.2 else tget r s

theorem same_key (s t : ByteArray) : (Lit.string s.data.toList).sameKey (.string t.data.toList) = decide (s = t) := by
  show (s.data.toList == t.data.toList) = decide (s = t)
  rw [Bool.eq_iff_iff, beq_iff_eq, decide_eq_true_iff]
  exact ⟨data_inj, fun h => by rw [h]⟩

variable (enc : V → DataW H)
theorem tab_tins (x : ByteArray × V) : ∀ L : List (ByteArray × V), (tins x L).map (fun p => (Lit.string p.1.data.toList, enc p.2)) = DataW.insert (.string x.1.data.toList, enc x.2) (L.map fun p => (.string p.1.data.toList, enc p.2))
  | [] => rfl
  | y :: r => by
    show List.map _ (if ltB x.1 y.1 then x :: y :: r else y :: tins x r) = (if ltB x.1 y.1 then _ else _)
    split
    · rfl
    · rw [List.map_cons, tab_tins x r]
theorem tab_filter (s : ByteArray) : ∀ L : List (ByteArray × V), (tdel L s).map (fun p => (Lit.string p.1.data.toList, enc p.2)) = (L.map fun p => (Lit.string p.1.data.toList, enc p.2)).filter fun p => !p.1.sameKey (.string s.data.toList)
  | [] => rfl
  | y :: r => by
    have ih := tab_filter s r
    unfold tdel at ih ⊢
    rw [List.map_cons, List.filter_cons, List.filter_cons]
    show List.map _ (if (!decide (y.1 = s)) = true then _ else _) = if (!(Lit.string y.1.data.toList).sameKey (.string s.data.toList)) = true then _ else _
    rw [same_key]
    split
    · rw [List.map_cons, ih]
    · exact ih
theorem tab_put (L : List (ByteArray × V)) (s : ByteArray) (v : V) : (tab enc L).put (.string s.data.toList) (enc v) = tab enc (tput L s v) := by
  show DataW.map (DataW.insert (.string s.data.toList, enc v) _) = DataW.map _
  unfold tput
  rw [tab_tins, tab_filter]
theorem tab_del (L : List (ByteArray × V)) (s : ByteArray) : (tab enc L).del (.string s.data.toList) = tab enc (tdel L s) := by
  show DataW.map _ = DataW.map _
  rw [tab_filter]
theorem tab_has (s : ByteArray) : ∀ L : List (ByteArray × V), has (tab enc L) (.string s.data.toList) = (tget L s).isSome
  | [] => rfl
  | y :: r => by
    have ih := tab_has s r
    show ((Lit.string y.1.data.toList).sameKey (.string s.data.toList) || has (tab enc r) (.string s.data.toList)) = (if y.1 = s then some y.2 else tget r s).isSome
    rw [same_key, ih]
    by_cases hy : y.1 = s <;> simp [hy]
theorem tab_atKey (s : ByteArray) (z : DataW H) : ∀ L : List (ByteArray × V), (tab enc L).atKey (.string s.data.toList) z = ((tget L s).map enc).getD z
  | [] => rfl
  | y :: r => by
    have ih := tab_atKey s z r
    show (match (List.find? (fun p : Lit × DataW H => p.1.sameKey (.string s.data.toList)) ((Lit.string y.1.data.toList, enc y.2) :: r.map fun p => (.string p.1.data.toList, enc p.2))) with | some p => p.2 | none => z) = ((if y.1 = s then some y.2 else tget r s).map enc).getD z
    rw [List.find?_cons]
    simp only [same_key]
    by_cases hy : y.1 = s
    · simp [hy]
    · simp only [hy, decide_false, if_false]
      exact ih
theorem tab_size (L : List (ByteArray × V)) : size (tab enc L) = L.length := by simp [size, tab]
theorem tins_mem (x : ByteArray × V) : ∀ (L : List (ByteArray × V)) (q : ByteArray × V), q ∈ tins x L ↔ q = x ∨ q ∈ L
  | [], q => by simp [tins]
  | y :: r, q => by
    unfold tins
    split
    · simp
    · rw [List.mem_cons, tins_mem x r, List.mem_cons]
      constructor
      · rintro (h | h | h)
        · exact .inr (.inl h)
        · exact .inl h
        · exact .inr (.inr h)
      · rintro (h | h | h)
        · exact .inr (.inl h)
        · exact .inl h
        · exact .inr (.inr h)
theorem tins_rising (x : ByteArray × V) : ∀ L : List (ByteArray × V), Rising L → (∀ p ∈ L, p.1 ≠ x.1) → Rising (tins x L)
  | [], _, _ => by simp [tins, Rising]
  | y :: r, h, hne => by
    obtain ⟨h1, h2⟩ := List.pairwise_cons.1 h
    unfold tins
    split
    · rename_i hb
      refine List.pairwise_cons.2 ⟨fun q hq => ?_, h⟩
      rcases List.mem_cons.1 hq with rfl | hq
      · exact hb
      · exact ltB_trans hb (h1 q hq)
    · rename_i hb
      have hyx : ltB y.1 x.1 = true := by
        rcases ltB_total (hne y (by simp)) with h' | h'
        · exact h'
        · exact absurd h' hb
      refine List.pairwise_cons.2 ⟨fun q hq => ?_, tins_rising x r h2 (fun p hp => hne p (by simp [hp]))⟩
      rcases (tins_mem x r q).1 hq with rfl | hq
      · exact hyx
      · exact h1 q hq
theorem tdel_rising {L : List (ByteArray × V)} (h : Rising L) (s : ByteArray) : Rising (tdel L s) := List.Pairwise.filter _ h
theorem tdel_ne {L : List (ByteArray × V)} {s : ByteArray} : ∀ p ∈ tdel L s, p.1 ≠ s := fun p hp => by
  have := (List.mem_filter.1 hp).2
  simpa using this
theorem tput_rising {L : List (ByteArray × V)} (h : Rising L) (s : ByteArray) (v : V) : Rising (tput L s v) := tins_rising _ _ (tdel_rising h s) (fun p hp => tdel_ne p hp)
theorem tget_none {s : ByteArray} : ∀ {L : List (ByteArray × V)}, tget L s = none ↔ ∀ p ∈ L, p.1 ≠ s
  | [] => by simp [tget]
  | y :: r => by
    have ih := tget_none (s := s) (L := r)
    unfold tget
    by_cases hy : y.1 = s
    · subst hy; simp
    · rw [if_neg hy, ih]
      simp [hy]
theorem tdel_none {L : List (ByteArray × V)} {s : ByteArray} (h : tget L s = none) : tdel L s = L :=
  List.filter_eq_self.2 fun p hp => by have := tget_none.1 h p hp; simpa using this
/-- Where a name is, or would be. -/
def tat (L : List (ByteArray × V)) (s : ByteArray) : Nat := (L.takeWhile fun p => ltB p.1 s).length
theorem tat_le (L : List (ByteArray × V)) (s : ByteArray) : tat L s ≤ L.length := (List.takeWhile_sublist _).length_le
/-- The list parted where a name is, or would be. -/
theorem tsplit : ∀ (L : List (ByteArray × V)) (s : ByteArray), Rising L →
    (∀ p ∈ L.take (tat L s), ltB p.1 s = true) ∧ (∀ p ∈ L.drop (tat L s), ltB p.1 s = false)
  | [], s, _ => by simp [tat]
  | y :: r, s, h => by
    obtain ⟨h1, h2⟩ := List.pairwise_cons.1 h
    unfold tat
    rw [List.takeWhile_cons]
    split
    · rename_i hb
      have ih := tsplit r s h2
      refine ⟨fun p hp => ?_, fun p hp => ?_⟩
      · rw [List.length_cons, List.take_succ_cons] at hp
        rcases List.mem_cons.1 hp with rfl | hp
        · exact hb
        · exact ih.1 p hp
      · rw [List.length_cons, List.drop_succ_cons] at hp
        exact ih.2 p hp
    · rename_i hb
      refine ⟨by simp, fun p hp => ?_⟩
      rw [List.length_nil, List.drop_zero] at hp
      rcases List.mem_cons.1 hp with rfl | hp
      · simpa using hb
      · cases hh : ltB p.1 s with
        | false => rfl
        | true => exact absurd (ltB_trans (h1 p hp) hh) hb
theorem tins_split (x : ByteArray × V) : ∀ (a b : List (ByteArray × V)), (∀ p ∈ a, ltB p.1 x.1 = true) → (∀ p ∈ b, ltB x.1 p.1 = true) → tins x (a ++ b) = a ++ x :: b
  | [], [], _, _ => rfl
  | [], y :: r, _, h => by show (if ltB x.1 y.1 then _ else _) = _; rw [if_pos (h y (by simp))]; rfl
  | y :: a, b, h1, h2 => by
    show (if ltB x.1 y.1 then _ else _) = _
    rw [if_neg (by rw [ltB_asymm (h1 y (by simp))]; simp), show tins x (List.append a b) = a ++ x :: b from tins_split x a b (fun p hp => h1 p (by simp [hp])) h2]
    rfl
/-- The name is there: it stands at its place. -/
theorem there_at {L : List (ByteArray × V)} {s : ByteArray} (h : Rising L) {v : V} (hg : tget L s = some v) : ∃ b, L.drop (tat L s) = (s, v) :: b ∧ ∀ p ∈ b, ltB s p.1 = true := by
  induction L with
  | nil => simp [tget] at hg
  | cons y r ih =>
    obtain ⟨h1, h2⟩ := List.pairwise_cons.1 h
    unfold tget at hg
    by_cases hy : y.1 = s
    · subst hy
      rw [if_pos rfl] at hg
      obtain rfl := Option.some.inj hg
      refine ⟨r, ?_, h1⟩
      simp [tat, ltB_irrefl]
    · rw [if_neg hy] at hg
      obtain ⟨b, hb1, hb2⟩ := ih h2 hg
      have hin : (s, v) ∈ r := List.mem_of_mem_drop (i := tat r s) (by rw [hb1]; simp)
      have hlt : ltB y.1 s = true := h1 _ hin
      refine ⟨b, ?_, hb2⟩
      have : tat (y :: r) s = tat r s + 1 := by simp [tat, hlt]
      rw [this, List.drop_succ_cons]
      exact hb1
theorem tput_there {L : List (ByteArray × V)} {s : ByteArray} (h : Rising L) {v0 : V} (hg : tget L s = some v0) (v : V) : tput L s v = L.take (tat L s) ++ (s, v) :: L.drop (tat L s + 1) := by
  obtain ⟨b, hb, hlt⟩ := there_at h hg
  have hb1 : L.drop (tat L s + 1) = b := by rw [← List.drop_drop, hb]; rfl
  have ht := (tsplit L s h).1
  rw [hb1]
  have hL : L = L.take (tat L s) ++ (s, v0) :: b := by rw [← hb, List.take_append_drop]
  unfold tput tdel
  rw [hL] 
  rw [List.filter_append, List.filter_cons, if_neg (by simp)]
  have ea : (List.take (tat L s) L).filter (fun p => !decide (p.1 = s)) = List.take (tat L s) L := List.filter_eq_self.2 fun p hp => by have := ltB_ne (ht p hp); simpa using this
  have eb : b.filter (fun p => !decide (p.1 = s)) = b := List.filter_eq_self.2 fun p hp => by have := (ltB_ne (hlt p hp)).symm; simpa using this
  rw [← hL, ea, eb, tins_split _ _ _ ht hlt]
theorem tput_new {L : List (ByteArray × V)} {s : ByteArray} (h : Rising L) (hg : tget L s = none) (v : V) : tput L s v = L.take (tat L s) ++ (s, v) :: L.drop (tat L s) := by
  obtain ⟨h1, h2⟩ := tsplit L s h
  unfold tput
  rw [tdel_none hg]
  have hL : tins (s, v) (L.take (tat L s) ++ L.drop (tat L s)) = L.take (tat L s) ++ (s, v) :: L.drop (tat L s) := tins_split _ _ _ h1 (fun p hp => by
    have hm : p ∈ L := List.mem_of_mem_drop hp
    rcases ltB_total (tget_none.1 hg p hm) with h' | h'
    · rw [h2 p hp] at h'; cases h'
    · exact h')
  rw [List.take_append_drop] at hL
  exact hL
theorem tdel_there {L : List (ByteArray × V)} {s : ByteArray} (h : Rising L) {v0 : V} (hg : tget L s = some v0) : tdel L s = L.take (tat L s) ++ L.drop (tat L s + 1) := by
  obtain ⟨b, hb, hlt⟩ := there_at h hg
  have hb1 : L.drop (tat L s + 1) = b := by rw [← List.drop_drop, hb]; rfl
  have ht := (tsplit L s h).1
  rw [hb1]
  have hL : L = L.take (tat L s) ++ (s, v0) :: b := by rw [← hb, List.take_append_drop]
  unfold tdel
  rw [hL]
  rw [List.filter_append, List.filter_cons, if_neg (by simp)]
  have ea : (List.take (tat L s) L).filter (fun p => !decide (p.1 = s)) = List.take (tat L s) L := List.filter_eq_self.2 fun p hp => by have := ltB_ne (ht p hp); simpa using this
  have eb : b.filter (fun p => !decide (p.1 = s)) = b := List.filter_eq_self.2 fun p hp => by have := (ltB_ne (hlt p hp)).symm; simpa using this
  rw [← hL, ea, eb]
theorem tget_tput (L : List (ByteArray × V)) (s : ByteArray) (v : V) : tget (tput L s v) s = some v := by
  have key : ∀ M : List (ByteArray × V), (∀ p ∈ M, p.1 ≠ s) → tget (tins (s, v) M) s = some v := by
    intro M
    induction M with
    | nil => intro _; simp [tins, tget]
    | cons y r ih =>
      intro h
      unfold tins
      split
      · simp [tget]
      · unfold tget
        rw [if_neg (h y (by simp))]
        exact ih (fun p hp => h p (by simp [hp]))
  exact key _ tdel_ne
theorem tget_tins_other {s t : ByteArray} (hne : s ≠ t) (v : V) : ∀ M : List (ByteArray × V), tget (tins (s, v) M) t = tget M t
  | [] => by simp [tins, tget, hne]
  | y :: r => by
    unfold tins
    split
    · show (if s = t then some v else tget (y :: r) t) = _; rw [if_neg hne]
    · unfold tget; rw [tget_tins_other hne v r]
theorem tget_tdel_other {s t : ByteArray} (hne : s ≠ t) : ∀ M : List (ByteArray × V), tget (tdel M s) t = tget M t
  | [] => rfl
  | y :: r => by
    have ih := tget_tdel_other hne r
    unfold tdel at ih ⊢
    rw [List.filter_cons]
    by_cases hy : y.1 = s
    · subst hy
      rw [if_neg (by simp), ih]
      show _ = if y.1 = t then _ else _
      rw [if_neg hne]
    · rw [if_pos (by simpa using hy)]
      unfold tget
      rw [ih]
theorem tget_tput_other {L : List (ByteArray × V)} {s t : ByteArray} (hne : s ≠ t) (v : V) : tget (tput L s v) t = tget L t := by
  unfold tput; rw [tget_tins_other hne, tget_tdel_other hne]
theorem tget_tdel (L : List (ByteArray × V)) (s : ByteArray) : tget (tdel L s) s = none := tget_none.2 tdel_ne
theorem tput_length {L : List (ByteArray × V)} {s : ByteArray} (h : Rising L) (v : V) : (tput L s v).length = if (tget L s).isSome then L.length else L.length + 1 := by
  have hle := tat_le L s
  cases hg : tget L s with
  | none => rw [tput_new h hg]; simp; omega
  | some v0 =>
    rw [tput_there h hg]
    obtain ⟨b, hb, _⟩ := there_at h hg
    have := congrArg List.length hb
    simp at this
    simp; omega
end

end Go.Proofs.Ytfdjbjinomfgiaa
