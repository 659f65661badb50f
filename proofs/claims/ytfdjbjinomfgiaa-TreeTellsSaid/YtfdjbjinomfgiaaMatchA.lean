/- Patterns: what a match is, in plain words; the document's own match comes to it. -/
import Derived.Test.YtfdjbjinomfgiaaGrTree
import Derived.Test.YtfdjbjinomfgiaaKit
namespace Go.Proofs.Ytfdjbjinomfgiaa
open Go.RowKit Go.Proofs.YtfdjbjinomfgiaaW.PrintWords Go.Proofs.YtfdjbjinomfgiaaW.PrintLast Go.Proofs.YtfdjbjinomfgiaaW.PrintMore GrTree

theorem w64 (x : Nat) (c : Nat) (hx : x ≤ 1000000000) (hc : c ≤ 100) : wrap64 ((x : Int) + (c : Int)) = ((x + c : Nat) : Int) := by unfold wrap64; omega
theorem w64_1 (x : Nat) (hx : x ≤ 1000000000) : wrap64 ((x : Int) + 1) = ((x + 1 : Nat) : Int) := by unfold wrap64; omega
theorem w64_2 (x : Nat) (hx : x ≤ 1000000000) : wrap64 ((x : Int) + 2) = ((x + 2 : Nat) : Int) := by unfold wrap64; omega
theorem w64_3 (x : Nat) (hx : x ≤ 1000000000) : wrap64 ((x : Int) + 3) = ((x + 3 : Nat) : Int) := by unfold wrap64; omega

section
variable (p : ByteArray) (l : List Bool)

def lv (i : Nat) : Bool := l.getD i false
/-- A live byte c stands at i. -/
def isC (i : Nat) (c : Int) : Bool := decide (i < p.size) && (lv l i && decide (bt p i = c))
/-- The first live closing bracket from k on. -/
def fe : Nat → Nat → Option Nat
  | 0, _ => none
  | d + 1, k => if isC p l k 93 then some k else fe d (k + 1)
def from1 (i : Nat) : Nat := if isC p l (i + 1) 33 then i + 2 else i + 1
def brk (i : Nat) : Option Nat := if isC p l i 91 then fe p l (p.size - (from1 p l i + 1)) (from1 p l i + 1) else none
/-- Is a byte among those from k to e? -/
def am (e : Nat) (c : Int) : Nat → Nat → Bool
  | 0, _ => false
  | d + 1, k => if k < e then (if decide (k + 2 < e) && isC p l (k + 1) 45 then (decide (bt p k ≤ c) && decide (c ≤ bt p (k + 2 : Nat))) || am e c d (k + 3) else decide (bt p k = c) || am e c d (k + 1)) else false
inductive Kn
  | star
  | tst (f : Int → Bool)
def stp (i : Nat) : Kn × Nat :=
  if isC p l i 42 then (.star, i + 1)
  else if isC p l i 63 then (.tst (fun _ => true), i + 1)
  else match brk p l i with
    | some e => (.tst (fun c => am p l e c e (from1 p l i) != isC p l (i + 1) 33), e + 1)
    | none => (.tst (fun c => decide (c = bt p i)), i + 1)
def rowOf (n : Nat) (f : Nat → Bool) : List Bool := (List.range (n + 1)).map f
def starF (R : List Bool) (j : Nat) : Bool := (List.range (j + 1)).any fun i => R.getD i false
def testF (s : ByteArray) (R : List Bool) (f : Int → Bool) : Nat → Bool
  | 0 => false
  | j + 1 => R.getD j false && f (bt s j)
def app (s : ByteArray) (R : List Bool) : Kn → List Bool
  | .star => rowOf s.size (starF R)
  | .tst f => rowOf s.size (testF s R f)
def goM (s : ByteArray) : Nat → Nat → List Bool → Bool
  | 0, _, R => R.getD s.size false
  | d + 1, i, R => if i < p.size then goM s d (stp p l i).2 (app s R (stp p l i).1) else R.getD s.size false
def matchB (s : ByteArray) : Bool := goM p l s p.size 0 (rowOf s.size fun j => j == 0)

theorem rowOf_length (n : Nat) (f : Nat → Bool) : (rowOf n f).length = n + 1 := by simp [rowOf]
theorem rowOf_get (n : Nat) (f : Nat → Bool) {j : Nat} (h : j ≤ n) : (rowOf n f).getD j false = f j := by
  simp [rowOf, List.getD_eq_getElem?_getD, List.getElem?_map, List.getElem?_range (show j < n + 1 by omega)]
theorem app_length (s : ByteArray) (R : List Bool) (k : Kn) : (app s R k).length = s.size + 1 := by cases k <;> exact rowOf_length _ _
/-- A row is what it is at each place. -/
theorem row_ext {n : Nat} {R : List Bool} {f : Nat → Bool} (hl : R.length = n + 1) (h : ∀ j, j ≤ n → R.getD j false = f j) : R = rowOf n f := by
  apply List.ext_getElem
  · rw [hl, rowOf_length]
  · intro j h1 h2
    have h3 := h j (by omega)
    have h4 := rowOf_get n f (j := j) (by omega)
    rw [List.getD_eq_getElem?_getD, List.getElem?_eq_getElem h1] at h3
    rw [List.getD_eq_getElem?_getD, List.getElem?_eq_getElem h2] at h4
    simp at h3 h4
    rw [h3, h4]
theorem fe_some : ∀ (d k e : Nat), fe p l d k = some e → k ≤ e ∧ e < k + d
  | 0, _, _, h => by simp [fe] at h
  | d + 1, k, e, h => by
    unfold fe at h
    split at h
    · injection h with h; omega
    · have := fe_some d (k + 1) e h; omega
theorem brk_lt {i e : Nat} (h : brk p l i = some e) : i < e ∧ e < p.size ∧ from1 p l i < e := by
  unfold brk at h
  split at h
  · have h1 := fe_some p l _ _ _ h
    have : i + 1 ≤ from1 p l i := by unfold from1; split <;> omega
    omega
  · cases h
theorem stp_lt (i : Nat) : i < (stp p l i).2 := by
  unfold stp
  split
  · simp
  · split
    · simp
    · split
      · rename_i e he
        have := (brk_lt p l he).1
        simp; omega
      · simp

/-! ### the document's own -/
theorem ref_live (i : Nat) : conchref1_live.f p l i = some (lv l i) := by
  unfold conchref1_live.f lv
  by_cases h : (i : Int) < (l.length : Int)
  · rw [if_pos h, if_pos (by omega)]; simp [rdOf]
  · rw [if_neg h, List.getD_eq_getElem?_getD, List.getElem?_eq_none (by omega)]; rfl
theorem ref_is (i : Nat) (c : Int) : conchref1_is.f p l i c = some (isC p l i c) := by
  unfold conchref1_is.f isC
  by_cases h : (i : Int) < (p.size : Int)
  · rw [if_pos h, ref_live]
    have h' : i < p.size := by omega
    simp only [Option.bind_some]
    cases lv l i with
    | false => simp
    | true => rw [if_pos rfl, if_pos (by omega)]; simp [h']; rfl
  · rw [if_neg h]
    have h' : ¬ i < p.size := by omega
    simp [h']
def optI : Option Nat → Int
  | some e => e
  | none => -1
theorem ref_fe (hp : p.size ≤ 1000000) : ∀ (d k : Nat), k + d = p.size ∨ (p.size ≤ k ∧ d = 0 ∧ k ≤ 1000000000) → Ev (fun n => conchref1_bracket.l0 n k p l) (optI (fe p l d k))
  | 0, k, h => by
    refine Ev.step (f := fun _ => some (-1)) (fun n => ?_) (Ev.now _)
    simp only [conchref1_bracket.l0]
    rw [if_neg (by omega)]
  | d + 1, k, h => by
    have hk : k < p.size := by omega
    by_cases hc : isC p l k 93 = true
    · refine Ev.step (f := fun _ => some (k : Int)) (fun n => ?_) ?_
      · simp only [conchref1_bracket.l0]
        rw [if_pos (by omega), ref_is]
        simp only [Option.bind_some]
        rw [if_pos hc]
      · unfold fe; rw [if_pos hc]; exact Ev.now _
    · refine Ev.step (f := fun n => conchref1_bracket.l0 n ((k + 1 : Nat) : Int) p l) (fun n => ?_) ?_
      · simp only [conchref1_bracket.l0]
        rw [if_pos (by omega), ref_is]
        simp only [Option.bind_some]
        rw [if_neg hc, w64_1 _ (by omega)]
      · unfold fe; rw [if_neg hc]; exact ref_fe hp d (k + 1) (by omega)
theorem ref_brk (hp : p.size ≤ 1000000) (i : Nat) (hi : i < p.size) : Ev (fun n => conchref1_bracket.f n p l i) (optI (brk p l i)) := by
  unfold conchref1_bracket.f brk
  rw [ref_is]
  simp only [Option.bind_some]
  by_cases h1 : isC p l i 91 = true
  · simp only [h1, if_true]
    rw [w64_1 _ (by omega), ref_is]
    simp only [Option.bind_some]
    by_cases h2 : isC p l (i + 1) 33 = true
    · have hf : from1 p l i = i + 2 := by unfold from1; rw [if_pos h2]
      simp only [h2, if_true]
      rw [w64_1 _ (by omega), hf]
      refine Ev.step (f := fun n => conchref1_bracket.l0 n ((i + 2 + 1 : Nat) : Int) p l) (fun n => ?_) (ref_fe p l hp _ _ (by omega))
      simp only [conchref1_bracket.j0]
      rw [w64_1 _ (by omega)]
    · have hf : from1 p l i = i + 1 := by unfold from1; rw [if_neg h2]
      rw [hf]
      have h2' : isC p l (i + 1) 33 = false := by simpa using h2
      simp only [h2', Bool.false_eq_true, if_false]
      refine Ev.step (f := fun n => conchref1_bracket.l0 n ((i + 1 + 1 : Nat) : Int) p l) (fun n => ?_) (ref_fe p l hp _ _ (by omega))
      simp only [conchref1_bracket.j0]
      rw [w64_1 _ (by omega)]
  · have h1' : isC p l i 91 = false := by simpa using h1
    simp only [h1', Bool.false_eq_true, if_false]
    exact Ev.now _
theorem ref_am (hp : p.size ≤ 1000000) (e : Nat) (c : Int) (he : e < p.size) (nt : Bool) : ∀ (d k : Nat) (found : Bool), e ≤ k + d → k ≤ e + 3 → Ev (fun n => conchref1_among.l0 n e c k nt found p l) ((found || am p l e c d k) != nt)
  | 0, k, found, h, _ => by
    refine Ev.step (f := fun _ => some (found != nt)) (fun n => ?_) (by simp only [am, Bool.or_false]; exact Ev.now _)
    simp only [conchref1_among.l0]
    rw [if_neg (by omega)]
  | d + 1, k, found, h, hk3 => by
    by_cases hk : k < e
    · by_cases hr : (decide (k + 2 < e) && isC p l (k + 1) 45) = true
      · have hr1 : k + 2 < e ∧ isC p l (k + 1) 45 = true := by simpa using hr
        have ham : am p l e c (d + 1) k = ((decide (bt p k ≤ c) && decide (c ≤ bt p (k + 2 : Nat))) || am p l e c d (k + 3)) := by
          conv => lhs; unfold am
          rw [if_pos hk, if_pos hr]
        refine Ev.step (f := fun n => conchref1_among.l0 n e c ((k + 3 : Nat) : Int) nt (found || (decide (bt p k ≤ c) && decide (c ≤ bt p (k + 2 : Nat)))) p l) (fun n => ?_) ?_
        · simp only [conchref1_among.l0]
          rw [if_pos (by omega), w64_2 _ (by omega), if_pos (by omega), w64_1 _ (by omega), ref_is, w64_3 _ (by omega)]
          simp only [Option.bind_some, hr1.2, if_true]
          cases found with
          | true => simp
          | false =>
            simp only [Bool.false_eq_true, if_false, Bool.false_or]
            rw [if_pos (by omega), if_pos (by omega)]
            by_cases hc : bt p k ≤ c
            · rw [if_pos hc, if_pos (by omega), if_pos (by omega)]; simp [hc]
            · rw [if_neg hc]; simp [hc]
        · rw [ham, ← Bool.or_assoc]
          exact ref_am hp e c he nt d (k + 3) _ (by omega) (by omega)
      · have ham : am p l e c (d + 1) k = (decide (bt p k = c) || am p l e c d (k + 1)) := by
          conv => lhs; unfold am
          rw [if_pos hk, if_neg hr]
        refine Ev.step (f := fun n => conchref1_among.l0 n e c ((k + 1 : Nat) : Int) nt (found || decide (bt p k = c)) p l) (fun n => ?_) ?_
        · have body : (if found = true then conchref1_among.l0 n e c ((k + 1 : Nat) : Int) nt true p l else (if 0 ≤ (k : Int) then (if (k : Int) < (p.size : Int) then conchref1_among.l0 n e c ((k + 1 : Nat) : Int) nt (c == bt p k) p l else none) else none)) = conchref1_among.l0 n e c ((k + 1 : Nat) : Int) nt (found || decide (bt p k = c)) p l := by
            cases found with
            | true => simp
            | false =>
              rw [if_neg (by simp), if_pos (by omega), if_pos (by omega)]
              congr 1
              rw [Bool.false_or, Bool.eq_iff_iff, beq_iff_eq, decide_eq_true_iff]
              exact eq_comm
          simp only [conchref1_among.l0]
          rw [if_pos (by omega), w64_2 _ (by omega), w64_1 _ (by omega)]
          by_cases hk2 : k + 2 < e
          · have h45 : isC p l (k + 1) 45 = false := by
              cases hh : isC p l (k + 1) 45 with
              | false => rfl
              | true => exact absurd (by simp [hk2, hh]) hr
            rw [if_pos (by omega), ref_is]
            simp only [Option.bind_some, h45, Bool.false_eq_true, if_false]
            exact body
          · rw [if_neg (by omega)]
            exact body
        · rw [ham, ← Bool.or_assoc]
          exact ref_am hp e c he nt d (k + 1) _ (by omega) (by omega)
    · have ham : am p l e c (d + 1) k = false := by
        conv => lhs; unfold am
        rw [if_neg hk]
      refine Ev.step (f := fun _ => some (found != nt)) (fun n => ?_) (by rw [ham, Bool.or_false]; exact Ev.now _)
      simp only [conchref1_among.l0]
      rw [if_neg (by omega)]
theorem ref_among (hp : p.size ≤ 1000000) (i e : Nat) (c : Int) (he : brk p l i = some e) : Ev (fun n => conchref1_among.f n p l i e c) (am p l e c e (from1 p l i) != isC p l (i + 1) 33) := by
  have hlt := brk_lt p l he
  unfold conchref1_among.f
  rw [w64_1 _ (by omega), ref_is]
  simp only [Option.bind_some]
  cases h2 : isC p l (i + 1) 33 with
  | true =>
    have hf : from1 p l i = i + 2 := by unfold from1; rw [if_pos h2]
    rw [hf] at hlt ⊢
    simp only [if_true]
    rw [w64_1 _ (by omega)]
    refine Ev.step (f := fun n => conchref1_among.l0 n e c ((i + 2 : Nat) : Int) true false p l) (fun n => by simp only [conchref1_among.j0]) ?_
    have := ref_am p l hp e c hlt.2.1 true e (i + 2) false (by omega) (by omega)
    simpa using this
  | false =>
    have hf : from1 p l i = i + 1 := by unfold from1; rw [if_neg (by simp [h2])]
    rw [hf] at hlt ⊢
    simp only [Bool.false_eq_true, if_false]
    refine Ev.step (f := fun n => conchref1_among.l0 n e c ((i + 1 : Nat) : Int) false false p l) (fun n => by simp only [conchref1_among.j0]) ?_
    have := ref_am p l hp e c hlt.2.1 false e (i + 1) false (by omega) (by omega)
    simpa using this
end
end Go.Proofs.Ytfdjbjinomfgiaa
