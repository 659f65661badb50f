/- The plain law of BuiltExports: rows, and what is left of them. -/
import Derived.Test.YtfdjbjinomfgiaaBltF
namespace Go.Proofs.Ytfdjbjinomfgiaa
open Go.RowKit Go.Maps Go.Proofs.YtfdjbjinomfgiaaW.PrintWords Go.Proofs.YtfdjbjinomfgiaaW.PrintLast Go.Proofs.YtfdjbjinomfgiaaW.PrintMore
set_option linter.unusedSimpArgs false
set_option linter.unusedVariables false

/-- Variables that are IFS and a table's. -/
def SL (L : VTab) : EnvS := { env0 with vars := (ifsB, blanksB) :: L }
theorem SL_nil : SL [] = env0 := rfl
theorem expF_cons (S : EnvS) (x : ByteArray) (r : List ByteArray) : expF S (x :: r) = if (assignF x).2.2 then (if (setF S (assignF x).1 (assignF x).2.1).1 = 0 then expF (setF S (assignF x).1 (assignF x).2.1).2 r else ((0, ⟨#[]⟩, 0, 0, (setF S (assignF x).1 (assignF x).2.1).1), S)) else if nameB x then expF S r else ((2, ⟨#[]⟩, 0, 0, 0), S) := rfl
theorem expF_snoc (s : ByteArray) : ∀ (r : List ByteArray) (S : EnvS), expF S (r ++ [s]) = if (expF S r).1 = doneZ then expF (expF S r).2 [s] else expF S r
  | [], S => by rw [List.nil_append]; exact (if_pos rfl).symm
  | x :: r, S => by
    rw [List.cons_append, expF_cons S x (r ++ [s]), expF_cons S x r]
    by_cases h1 : (assignF x).2.2 = true
    · rw [if_pos h1, if_pos h1]
      by_cases h2 : (setF S (assignF x).1 (assignF x).2.1).1 = 0
      · rw [if_pos h2, if_pos h2]
        exact expF_snoc s r _
      · rw [if_neg h2, if_neg h2, if_neg (fun e => h2 (congrArg (fun d : DoneT => d.2.2.2.2) e))]
    · rw [if_neg h1, if_neg h1]
      by_cases h2 : nameB x = true
      · rw [if_pos h2, if_pos h2]
        exact expF_snoc s r _
      · rw [if_neg h2, if_neg h2, if_neg (fun e => by simp at e)]
/-- What the law has written after so many rounds. -/
structure RowOk (k : Nat) (row : List ByteArray) (L : VTab) (bad : Bool) : Prop where
  len : row.length ≤ k
  fits : ∀ s ∈ row, s.size ≤ 1000000
  run : expF env0 row = ((if bad then 2 else 0, ⟨#[]⟩, 0, 0, 0), SL L)
  rising : Rising L
  size : L.length ≤ k
  keys : ∀ p ∈ L, ∃ a b : Nat, a < 8 ∧ b < 256 ∧ p = (vnm a, vvl b)
theorem RowOk.start : RowOk 0 [] [] false := ⟨Nat.le_refl _, by simp, rfl, by simp [Rising], Nat.le_refl _, by simp⟩
theorem RowOk.step {k : Nat} {row : List ByteArray} {L : VTab} {bad : Bool} (h : RowOk k row L bad) {s : ByteArray} (hs : s.size ≤ 1000) {L' : VTab} {bad' : Bool} (hL : Rising L' ∧ L'.length ≤ k + 1 ∧ ∀ p ∈ L', ∃ a b : Nat, a < 8 ∧ b < 256 ∧ p = (vnm a, vvl b))
    (h1 : bad = true → bad' = true ∧ L' = L) (h2 : bad = false → expF (SL L) [s] = ((if bad' then 2 else 0, ⟨#[]⟩, 0, 0, 0), SL L')) : RowOk (k + 1) (row ++ [s]) L' bad' := by
  refine ⟨by have := h.len; simp; omega, fun t ht => ?_, ?_, hL.1, hL.2.1, hL.2.2⟩
  · rcases List.mem_append.1 ht with ht | ht
    · exact h.fits t ht
    · rw [List.mem_singleton] at ht
      subst ht
      omega
  · rw [expF_snoc, h.run]
    cases bad with
    | true =>
      obtain ⟨rfl, rfl⟩ := h1 rfl
      rw [if_neg (by simp)]
    | false =>
      rw [if_pos (by rfl)]
      exact h2 rfl
theorem RowOk.badT {k : Nat} {row : List ByteArray} {L : VTab} {bad : Bool} (h : RowOk k row L bad) {j : Nat} (hj : j < 4) : RowOk (k + 1) (row ++ [badW j]) L true := by
  obtain ⟨w1, w2, w3⟩ := badW_all ⟨j, hj⟩
  refine h.step w3 ⟨h.rising, by have := h.size; omega, h.keys⟩ (fun _ => ⟨rfl, rfl⟩) (fun _ => ?_)
  unfold expF
  rw [if_neg (by rw [w1]; simp), if_neg (by rw [w2]; simp)]
  rfl
theorem RowOk.name {k : Nat} {row : List ByteArray} {L : VTab} {bad : Bool} (h : RowOk k row L bad) {a : Nat} (ha : a < 8) : RowOk (k + 1) (row ++ [vnm a]) L bad := by
  obtain ⟨w0', w1, w2, w3, w4⟩ := vnm_all ⟨a, ha⟩
  refine h.step w4 ⟨h.rising, by have := h.size; omega, h.keys⟩ (fun hb => ⟨hb, rfl⟩) (fun hb => ?_)
  subst hb
  unfold expF
  rw [if_neg (by rw [w1]; simp), if_pos w2]
  rfl
theorem tput_head {x : ByteArray × ByteArray} {L : VTab} {s v : ByteArray} (h : ltB x.1 s = true) : tput (x :: L) s v = x :: tput L s v := by
  unfold tput tdel
  rw [List.filter_cons, if_pos (by simpa using ltB_ne h)]
  show (if ltB s x.1 then _ else _) = _
  rw [ltB_asymm h]
  rfl
theorem tput_len_le {L : VTab} (h : Rising L) (s v : ByteArray) : (tput L s v).length ≤ L.length + 1 := by
  rw [tput_length h]
  split <;> omega
theorem RowOk.set {k : Nat} {row : List ByteArray} {L : VTab} {bad : Bool} (h : RowOk k row L bad) (hk : k ≤ 20) {a b : Nat} (ha : a < 8) (hb : b < 256) : RowOk (k + 1) (row ++ [vword a b]) (if bad then L else tput L (vnm a) (vvl b)) bad := by
  have w0 := vword_all ⟨a, ha⟩ ⟨b, hb⟩
  obtain ⟨w0', w1, w2, w3, w4⟩ := vnm_all ⟨a, ha⟩
  obtain ⟨w5, w6⟩ := vvl_all ⟨b, hb⟩
  have hsz : (vword a b).size ≤ 1000 := by
    have e : vword a b = vnm a ++ ⟨#[61]⟩ ++ (dgs b ++ ⟨#[61]⟩) := by unfold vword; rw [ByteArray.append_assoc]
    have h1 := dgA_size 20 a ⟨#[]⟩
    have h2 := dgA_size 20 b ⟨#[]⟩
    unfold vword vnm dgs
    simp only [ByteArray.size_append]
    have e1 : (⟨#[]⟩ : ByteArray).size = 0 := rfl
    have e2 : (⟨#[61]⟩ : ByteArray).size = 1 := rfl
    have e3 : (⟨#[118]⟩ : ByteArray).size = 1 := rfl
    omega
  refine h.step hsz ?_ (fun hb => ⟨hb, by rw [hb]; rfl⟩) (fun hb => ?_)
  · cases bad with
    | true => exact ⟨h.rising, by have := h.size; show L.length ≤ _; omega, h.keys⟩
    | false =>
      refine ⟨tput_rising h.rising _ _, ?_, fun p hp => ?_⟩
      · have := tput_len_le h.rising (vnm a) (vvl b)
        have := h.size
        show (tput L (vnm a) (vvl b)).length ≤ _
        omega
      · rcases (tins_mem _ _ _).1 hp with rfl | hp
        · exact ⟨a, b, ha, hb, rfl⟩
        · exact h.keys p (List.mem_filter.1 hp).1
  · subst hb
    have hset : setF (SL L) (vnm a) (vvl b) = (0, SL (tput L (vnm a) (vvl b))) := by
      unfold setF
      rw [w2, w5, if_neg (by simp), if_neg (by have := h.size; simp [SL]; omega)]
      have e : tput (SL L).vars (vnm a) (vvl b) = (SL (tput L (vnm a) (vvl b))).vars := tput_head (x := (ifsB, blanksB)) w3
      rw [e]
      rfl
    unfold expF
    rw [w0, if_pos rfl]
    show (if (setF (SL L) (vnm a) (vvl b)).1 = 0 then expF (setF (SL L) (vnm a) (vvl b)).2 [] else _) = _
    rw [hset, if_pos rfl]
    rfl
/-- What is left while the names are unset one by one. -/
def leftOn (left : Lit → Bool) (L : VTab) : VTab := L.filter fun p => left (.string p.1.data.toList)
theorem leftOn_start {L : VTab} {left : Lit → Bool} (h : ∀ p ∈ L, left (.string p.1.data.toList) = true) : leftOn left L = L := List.filter_eq_self.2 h
theorem leftOn_end {L : VTab} {left : Lit → Bool} (h : ∀ kl, left kl = false) : leftOn left L = [] := List.filter_eq_nil_iff.2 fun p _ => by simp [h]
theorem leftOn_del (left : Lit → Bool) (L : VTab) (s : ByteArray) : tdel (leftOn left L) s = leftOn (fun z => left z && !z.sameKey (.string s.data.toList)) L := by
  unfold tdel leftOn
  rw [List.filter_filter]
  refine List.filter_congr fun p _ => ?_
  show (!decide (p.1 = s) && left (.string p.1.data.toList)) = (left (.string p.1.data.toList) && !(Lit.string p.1.data.toList).sameKey (.string s.data.toList))
  rw [same_key, Bool.and_comm]
theorem mem_of_tget {L : VTab} {s v : ByteArray} : tget L s = some v → (s, v) ∈ L := by
  induction L with
  | nil => simp [tget]
  | cons p r ih =>
    unfold tget
    split
    · rename_i h
      intro e
      injection e with e
      subst h e
      simp
    · intro e
      exact List.mem_cons_of_mem _ (ih e)
theorem leftOn_get {left : Lit → Bool} {L : VTab} {s v : ByteArray} (hr : Rising L) (h : (s, v) ∈ L) (hl : left (.string s.data.toList) = true) : tget (leftOn left L) s = some v := 
  tget_mem (p := (s, v)) (List.Pairwise.filter _ hr) (List.mem_filter.2 ⟨h, hl⟩)
theorem SL_get {L : VTab} {s v : ByteArray} (hs : ltB ifsB s = true) (hn : numF s = none) (h : tget L s = some v) : getF (SL L) s = (v, true) := by
  have h1 : tget (SL L).vars s = some v := by
    show (if ifsB = s then some blanksB else tget L s) = _
    rw [if_neg (ltB_ne hs), h]
  unfold getF
  rw [hn, h1]
  rfl
theorem SL_unset {L : VTab} {s : ByteArray} (hs : ltB ifsB s = true) (hn : nameB s = true) : remF (SL L) [s] = (doneZ, SL (tdel L s)) := by
  have e : unsetF (SL L) s = SL (tdel L s) := by
    unfold unsetF SL tdel
    rw [List.filter_cons, if_pos (by simpa using ltB_ne hs)]
  show (if nameB s then remF (unsetF (SL L) s) [] else _) = _
  rw [if_pos hn, e]
  rfl
/-- An entry that the range meets. -/
theorem entry_of {L : VTab} {s c : ByteArray} (h : ∀ zd, (tab (H := Unit) encS L).atKey (.string s.data.toList) zd = encS c) : (s, c) ∈ L := by
  apply mem_of_tget
  cases hg : tget L s with
  | none =>
    have := h (.lit (.int .i64 0))
    rw [tab_atKey, hg] at this
    cases this
  | some v =>
    have := h (.lit (.int .i64 0))
    rw [tab_atKey, hg] at this
    have e : v.data.toList = c.data.toList := by
      have : encS (H := Unit) v = encS c := this
      unfold encS at this
      injection this with this
      injection this
    rw [data_inj e]
end Go.Proofs.Ytfdjbjinomfgiaa
