/- Names, numbers and values of texts: what both programs reckon, as plain functions of bytes; the contracts that say so. Bounds: texts of a million bytes at most. -/
import Derived.Test.YtfdjbjinomfgiaaKit
import Derived.Test.YtfdjbjinomfgiaaGrEnv
namespace Go.Proofs.Ytfdjbjinomfgiaa
open Go.RowKit Go.Proofs.YtfdjbjinomfgiaaW.PrintWords Go.Proofs.YtfdjbjinomfgiaaW.PrintLast Go.Proofs.YtfdjbjinomfgiaaW.PrintMore GrEnv

def letB (c : Int) : Bool := (decide (97 ≤ c) && decide (c ≤ 122)) || (decide (65 ≤ c) && decide (c ≤ 90)) || decide (c = 95)
def digB (c : Int) : Bool := decide (48 ≤ c) && decide (c ≤ 57)
def wordB (c : Int) : Bool := letB c || digB c
theorem e_w0 (x : Nat) (hx : x ≤ 1000000000) : wrap64 ((0 : Int) + (x : Int)) = (x : Int) := by unfold wrap64; omega
theorem e_w1 (x : Nat) (hx : x ≤ 1000000000) : wrap64 ((x : Int) + 1) = ((x + 1 : Nat) : Int) := by unfold wrap64; omega
theorem text_letter_f (c : Int) : text_letter.f c = some (letB c) := by
  unfold text_letter.f letB
  rw [show (c == 95) = decide (c = 95) from rfl]
  repeat' split
  all_goals (congr 1; simp; omega)
theorem text_digit_f (c : Int) : text_digit.f c = some (digB c) := by
  unfold text_digit.f digB
  repeat' split
  all_goals (congr 1; simp; omega)
theorem ref_letter_f (c : Int) (b : Bool) : conchref1_letter.f c b = some (letB c || (!b && digB c)) := by
  unfold conchref1_letter.f letB digB
  cases b with
  | true => (repeat' split) <;> first | contradiction | (congr 1; simp; omega)
  | false => (repeat' split) <;> first | contradiction | (congr 1; rw [Bool.eq_iff_iff]; simp only [Bool.or_eq_true, Bool.and_eq_true, decide_eq_true_eq, Bool.not_false, Bool.false_eq_true, true_and, true_iff, false_iff]; omega)

/-- How many bytes of a list of bytes are a name. -/
def wrun (l : List UInt8) : Nat := (l.takeWhile fun c => wordB c.toNat).length
def nlen : List UInt8 → Nat
  | [] => 0
  | c :: r => if letB c.toNat then wrun r + 1 else 0
def nameB (s : ByteArray) : Bool := decide (s.size ≠ 0) && decide (nlen s.data.toList = s.size)
theorem wrun_le (l : List UInt8) : wrun l ≤ l.length := (List.takeWhile_sublist _).length_le
theorem nlen_cons (c : UInt8) (r : List UInt8) : nlen (c :: r) = if letB c.toNat then wrun r + 1 else 0 := rfl
theorem nlen_le (l : List UInt8) : nlen l ≤ l.length := by
  cases l with
  | nil => exact Nat.le_refl _
  | cons c r =>
    have := wrun_le r
    rw [nlen_cons]
    split <;> simp <;> omega
theorem at_list {s : ByteArray} {i : Nat} (hi : i < s.size) : ∃ c r, s.data.toList.drop i = c :: r ∧ r = s.data.toList.drop (i + 1) ∧ (c.toNat : Int) = bt s i := by
  have hi2 : i < s.data.toList.length := hi
  exact ⟨_, _, List.drop_eq_getElem_cons hi2, rfl, bt_at s (i : Int) hi⟩
theorem at_end {s : ByteArray} {i : Nat} (hi : s.size ≤ i) : s.data.toList.drop i = [] := List.drop_eq_nil_of_le (by show s.data.toList.length ≤ i; have : s.data.toList.length = s.size := rfl; omega)
theorem wrun_cons (c : UInt8) (r : List UInt8) : wrun (c :: r) = if wordB c.toNat then wrun r + 1 else 0 := by
  unfold wrun; rw [List.takeWhile_cons]; split <;> rfl
theorem text_nl_ev (s : ByteArray) (hs : s.size ≤ 1000000) : ∀ (d i : Nat), i + d = s.size → Ev (fun n => text_NameLen.l0 n s 0 i) ((i + wrun (s.data.toList.drop i) : Nat) : Int)
  | 0, i, h => by
    rw [at_end (by omega)]
    refine Ev.step (fun n => ?_) (Ev.now _)
    simp only [text_NameLen.l0]
    rw [e_w0 _ (by omega), if_neg (by omega)]
    rfl
  | d + 1, i, h => by
    obtain ⟨c, r, h1, h2, h3⟩ := at_list (s := s) (i := i) (by omega)
    have ih := text_nl_ev s hs d (i + 1) (by omega)
    rw [h1, wrun_cons, h3, h2]
    by_cases hw : wordB (bt s i) = true
    · rw [if_pos hw, show i + (wrun (s.data.toList.drop (i + 1)) + 1) = i + 1 + wrun (s.data.toList.drop (i + 1)) from by omega]
      refine Ev.step (fun n => ?_) ih
      simp only [text_NameLen.l0, text_letter_f, text_digit_f]
      rw [e_w0 _ (by omega), if_pos (by omega), if_pos (by omega), e_w1 _ (by omega)]
      simp only [Option.bind_some]
      by_cases hl : letB (bt s i) = true
      · rw [if_pos hl]
      · rw [if_neg hl, if_pos (by unfold wordB at hw; simpa [hl] using hw)]
    · rw [if_neg hw]
      have hl : ¬ letB (bt s i) = true := fun h => hw (by unfold wordB; simp [h])
      have hd : ¬ digB (bt s i) = true := fun h => hw (by unfold wordB; simp [h])
      refine Ev.step (fun n => ?_) (Ev.now _)
      simp only [text_NameLen.l0, text_letter_f, text_digit_f]
      rw [e_w0 _ (by omega), if_pos (by omega), if_pos (by omega)]
      simp only [Option.bind_some]
      rw [if_neg hl, if_neg hd]
      rfl
theorem text_nlen_ev (s : ByteArray) (hs : s.size ≤ 1000000) : Ev (fun n => text_NameLen.f n s 0) (nlen s.data.toList : Int) := by
  unfold text_NameLen.f
  by_cases h0 : s.size = 0
  · have e : s.data.toList = [] := by simpa using at_end (s := s) (i := 0) (by omega)
    rw [e]
    refine Ev.congr (fun n => by rw [if_neg (by omega), if_pos (by omega)]) ?_
    refine Ev.step (fun n => ?_) (Ev.now _)
    simp only [text_NameLen.j0]
    rfl
  · obtain ⟨c, r, h1, h2, h3⟩ := at_list (s := s) (i := 0) (by omega)
    have ih := text_nl_ev s hs (s.size - 1) 1 (by omega)
    rw [List.drop_zero] at h1
    refine Ev.congr (fun n => by rw [if_neg (by omega), if_neg (by omega), if_pos (by omega), if_pos (by omega), text_letter_f, Option.bind_some]) ?_
    rw [h1, nlen_cons, h3]
    by_cases hl : letB (bt s 0) = true
    · rw [if_pos (show letB (bt s ((0 : Nat) : Int)) = true from hl)]
      refine Ev.step (fun n => ?_) (f := fun n => text_NameLen.l0 n s 0 ((1 : Nat) : Int)) ?_
      · simp only [text_NameLen.j0]; rw [if_neg (by simp [hl])]; rfl
      · rw [h2, show wrun (s.data.toList.drop (0 + 1)) + 1 = 1 + wrun (s.data.toList.drop 1) from by rw [Nat.zero_add]; omega]
        exact ih
    · rw [if_neg (show ¬ letB (bt s ((0 : Nat) : Int)) = true from hl)]
      refine Ev.step (fun n => ?_) (Ev.now _)
      simp only [text_NameLen.j0]
      rw [if_pos (by simp [hl])]
      rfl
theorem size_nil {s : ByteArray} : s.toList = ([] : List UInt8) ↔ s.size = 0 := by
  rw [toList_data]
  constructor
  · intro h; have : s.data.toList.length = 0 := by rw [h]; rfl
    exact this
  · intro h; exact List.eq_nil_of_length_eq_zero h
theorem text_Name_calls (s : ByteArray) (hs : s.size ≤ 1000000) (b : Bool) (hb : nameB s = b) (w : World) : Calls Try.prog 63 #[.string s] w fun e w' => e = .returned (.bool b) ∧ Drawn0 w w' := by
  have hev : Ev (fun n => text_Name.f n s) (nameB s) := by
    unfold text_Name.f nameB
    by_cases h0 : s.size = 0
    · refine Ev.congr (fun n => by rw [if_pos (size_nil.2 h0)]) ?_
      simpa [h0] using Ev.now false
    · refine Ev.congr (fun n => by rw [if_neg (fun h => h0 (size_nil.1 h))]) ?_
      refine Ev.bind (text_nlen_ev s hs) ?_
      refine Ev.congr (f := fun _ => some _) (fun n => ?_) (Ev.now _)
      congr 1
      rw [Bool.eq_iff_iff]
      simp [h0]
      omega
  obtain ⟨q, hq⟩ := hev.rounds
  rw [hb] at hq
  exact text_Name.calls q s b w hq
theorem text_NameLen_calls (s : ByteArray) (hs : s.size ≤ 1000000) (n : Nat) (hn : nlen s.data.toList = n) (w : World) : Calls Try.prog 122 #[.string s, .int .i64 0] w fun e w' => e = .returned (.int .i64 n) ∧ Drawn0 w w' := by
  obtain ⟨q, hq⟩ := (text_nlen_ev s hs).rounds
  rw [hn] at hq
  exact text_NameLen.calls q s 0 n w hq

theorem ref_nl_ev (s : ByteArray) (hs : s.size ≤ 1000000) : ∀ (d i : Nat), 1 ≤ i → i + d = s.size → Ev (fun n => conchref1_NameLen.l0 n s 0 i) ((i + wrun (s.data.toList.drop i) : Nat) : Int)
  | 0, i, h1, h => by
    rw [at_end (by omega)]
    refine Ev.step (fun n => ?_) (Ev.now _)
    simp only [conchref1_NameLen.l0]
    rw [show wrap64 ((s.size : Int) - 0) = (s.size : Int) from by unfold wrap64; omega, if_neg (by omega)]
    rfl
  | d + 1, i, hi1, h => by
    obtain ⟨c, r, h1, h2, h3⟩ := at_list (s := s) (i := i) (by omega)
    have ih := ref_nl_ev s hs d (i + 1) (by omega) (by omega)
    rw [h1, wrun_cons, h3, h2]
    have hz : ((i : Int) == 0) = false := beq_eq_false_iff_ne.2 (by omega)
    by_cases hw : wordB (bt s i) = true
    · rw [if_pos hw, show i + (wrun (s.data.toList.drop (i + 1)) + 1) = i + 1 + wrun (s.data.toList.drop (i + 1)) from by omega]
      refine Ev.step (fun n => ?_) ih
      simp only [conchref1_NameLen.l0, ref_letter_f]
      rw [show wrap64 ((s.size : Int) - 0) = (s.size : Int) from by unfold wrap64; omega, e_w0 _ (by omega), if_pos (by omega), if_pos (by omega), if_pos (by omega), e_w1 _ (by omega)]
      simp only [Option.bind_some, hz]
      rw [if_pos (by unfold wordB at hw; simpa using hw)]
    · rw [if_neg hw]
      refine Ev.step (fun n => ?_) (Ev.now _)
      simp only [conchref1_NameLen.l0, ref_letter_f]
      rw [show wrap64 ((s.size : Int) - 0) = (s.size : Int) from by unfold wrap64; omega, e_w0 _ (by omega), if_pos (by omega), if_pos (by omega), if_pos (by omega)]
      simp only [Option.bind_some, hz]
      rw [if_neg (by unfold wordB at hw; simpa using hw)]
      rfl
theorem ref_nlen_ev (s : ByteArray) (hs : s.size ≤ 1000000) : Ev (fun n => conchref1_NameLen.f n s 0) (nlen s.data.toList : Int) := by
  unfold conchref1_NameLen.f
  by_cases h0 : s.size = 0
  · have e : s.data.toList = [] := by simpa using at_end (s := s) (i := 0) (by omega)
    rw [e]
    refine Ev.congr (fun n => by rw [if_neg (by omega)]) ?_
    refine Ev.step (fun n => ?_) (Ev.now _)
    simp only [conchref1_NameLen.j0]
    rw [if_pos (by rw [decide_eq_true_eq]; omega)]
    rfl
  · obtain ⟨c, r, h1, h2, h3⟩ := at_list (s := s) (i := 0) (by omega)
    have ih := ref_nl_ev s hs (s.size - 1) 1 (by omega) (by omega)
    rw [List.drop_zero] at h1
    refine Ev.congr (fun n => by rw [if_neg (by omega)]) ?_
    rw [h1, nlen_cons, h3]
    have hz : wrap64 ((s.size : Int) - 0) = (s.size : Int) := by unfold wrap64; omega
    have hz0 : wrap64 ((0 : Int) + 0) = 0 := by unfold wrap64; omega
    have hz1 : wrap64 ((0 : Int) + 1) = ((1 : Nat) : Int) := by unfold wrap64; omega
    by_cases hl : letB (bt s 0) = true
    · rw [if_pos (show letB (bt s ((0 : Nat) : Int)) = true from hl)]
      refine Ev.step (fun n => ?_) (f := fun n => conchref1_NameLen.l0 n s 0 0) ?_
      · simp only [conchref1_NameLen.j0]; rw [if_neg (by rw [decide_eq_true_eq]; omega)]
      · rw [h2, show wrun (s.data.toList.drop (0 + 1)) + 1 = 1 + wrun (s.data.toList.drop 1) from by rw [Nat.zero_add]; omega]
        refine Ev.step (fun n => ?_) ih
        simp only [conchref1_NameLen.l0, ref_letter_f, hz, hz0, hz1]
        rw [if_pos (by omega), if_pos (by omega), if_pos (by omega)]
        simp only [Option.bind_some]
        rw [if_pos (by simp [hl])]
    · rw [if_neg (show ¬ letB (bt s ((0 : Nat) : Int)) = true from hl)]
      refine Ev.step (fun n => ?_) (f := fun n => conchref1_NameLen.l0 n s 0 0) ?_
      · simp only [conchref1_NameLen.j0]; rw [if_neg (by rw [decide_eq_true_eq]; omega)]
      · refine Ev.step (fun n => ?_) (Ev.now _)
        simp only [conchref1_NameLen.l0, ref_letter_f, hz, hz0, hz1]
        rw [if_pos (by omega), if_pos (by omega), if_pos (by omega)]
        simp only [Option.bind_some]
        rw [if_neg (by simp [hl])]
        rfl
theorem ref_Name_calls (s : ByteArray) (hs : s.size ≤ 1000000) (b : Bool) (hb : nameB s = b) (w : World) : Calls Try.prog 80 #[.string s] w fun e w' => e = .returned (.bool b) ∧ Drawn0 w w' := by
  have hev : Ev (fun n => conchref1_Name.f n s) (nameB s) := by
    unfold conchref1_Name.f nameB
    by_cases h0 : s.size = 0
    · refine Ev.congr (fun n => by rw [if_pos (size_nil.2 h0)]) ?_
      simpa [h0] using Ev.now false
    · refine Ev.congr (fun n => by rw [if_neg (fun h => h0 (size_nil.1 h))]) ?_
      refine Ev.bind (ref_nlen_ev s hs) ?_
      refine Ev.congr (f := fun _ => some _) (fun n => ?_) (Ev.now _)
      congr 1
      rw [Bool.eq_iff_iff]
      simp [h0]
      omega
  obtain ⟨q, hq⟩ := hev.rounds
  rw [hb] at hq
  exact conchref1_Name.calls q s b w hq
theorem ref_NameLen_calls (s : ByteArray) (hs : s.size ≤ 1000000) (n : Nat) (hn : nlen s.data.toList = n) (w : World) : Calls Try.prog 133 #[.string s, .int .i64 0] w fun e w' => e = .returned (.int .i64 n) ∧ Drawn0 w w' := by
  obtain ⟨q, hq⟩ := (ref_nlen_ev s hs).rounds
  rw [hn] at hq
  exact conchref1_NameLen.calls q s 0 n w hq

/-! numbers -/
def numGo : List UInt8 → Nat → Option Nat
  | [], n => some n
  | c :: r, n => if digB c.toNat && !decide (461168601842738790 < n) then (if 4611686018427387904 < n * 10 + (c.toNat - 48) then none else numGo r (n * 10 + (c.toNat - 48))) else none
def numF (s : ByteArray) : Option Nat := if s.size = 0 then none else numGo s.data.toList 0
def numR : Option Nat → Int × Bool
  | some n => (n, true)
  | none => (0, false)
theorem numGo_bound : ∀ (l : List UInt8) (n m : Nat), n ≤ 4611686018427387904 → numGo l n = some m → m ≤ 4611686018427387904
  | [], n, m, h, e => by simp only [numGo, Option.some.injEq] at e; omega
  | c :: r, n, m, h, e => by
    unfold numGo at e
    split at e
    · split at e
      · cases e
      · exact numGo_bound r _ m (by omega) e
    · cases e
theorem numF_bound {s : ByteArray} {n : Nat} (h : numF s = some n) : n ≤ 4611686018427387904 := by
  unfold numF at h
  split at h
  · cases h
  · exact numGo_bound _ 0 n (by omega) h
theorem dig_val {c : Int} (h0 : 48 ≤ c) (h1 : c ≤ 57) : (c - 48) % 256 = c - 48 := by omega
theorem dig_of {c : UInt8} {x : Int} (h3 : (c.toNat : Int) = x) (hd : digB x = true) : 48 ≤ x ∧ x ≤ 57 ∧ ((c.toNat - 48 : Nat) : Int) = x - 48 := by
  unfold digB at hd
  simp only [Bool.and_eq_true, decide_eq_true_eq] at hd
  omega
theorem text_num_ev (s : ByteArray) (hs : s.size ≤ 1000000) : ∀ (d i n : Nat), i + d = s.size → n ≤ 4611686018427387904 → Ev (fun q => text_Number.l0 q s n (s.size : Int) i) (numR (numGo (s.data.toList.drop i) n))
  | 0, i, n, h, _ => by
    rw [at_end (by omega)]
    refine Ev.step (fun q => ?_) (Ev.now _)
    simp only [text_Number.l0]
    rw [if_neg (by omega)]
    rfl
  | d + 1, i, n, h, hn => by
    obtain ⟨c, r, h1, h2, h3⟩ := at_list (s := s) (i := i) (by omega)
    rw [h1]
    unfold numGo
    rw [h3]
    by_cases hd : digB (bt s i) = true
    · obtain ⟨d0, d1, d2⟩ := dig_of h3 hd
      by_cases hb : 461168601842738790 < n
      · rw [if_neg (by simp [hb])]
        refine Ev.step (f := fun q => text_Number.j1 q s n i (s.size : Int) i true) (fun q => ?_) (Ev.step (fun q => ?_) (Ev.now _))
        · simp only [text_Number.l0, text_digit_f, Option.bind_some]
          rw [if_pos (by omega), if_pos (by omega), if_pos (by omega), if_pos hd, decide_eq_true (show (n : Int) > 461168601842738790 from by omega)]
        · simp only [text_Number.j1]
          rfl
      · rw [if_pos (by simp [hd, hb])]
        have hw : wrap64 ((wrap64 ((n : Int) * 10)) + ((bt s i - 48) % 256)) = ((n * 10 + (c.toNat - 48) : Nat) : Int) := by
          rw [dig_val d0 d1]; unfold wrap64; omega
        by_cases hc : 4611686018427387904 < n * 10 + (c.toNat - 48)
        · rw [if_pos hc]
          refine Ev.step (f := fun q => text_Number.j1 q s n i (s.size : Int) i false) (fun q => ?_) (Ev.step (fun q => ?_) (Ev.now _))
          · simp only [text_Number.l0, text_digit_f, Option.bind_some]
            rw [if_pos (by omega), if_pos (by omega), if_pos (by omega), if_pos hd, decide_eq_false (show ¬ (n : Int) > 461168601842738790 from by omega)]
          · simp only [text_Number.j1]
            rw [if_neg (by simp), if_pos (by omega), if_pos (by omega), hw, if_pos (by omega)]
            rfl
        · rw [if_neg hc, h2]
          have ih := text_num_ev s hs d (i + 1) (n * 10 + (c.toNat - 48)) (by omega) (by omega)
          refine Ev.step (f := fun q => text_Number.j1 q s n i (s.size : Int) i false) (fun q => ?_) (Ev.step (fun q => ?_) ih)
          · simp only [text_Number.l0, text_digit_f, Option.bind_some]
            rw [if_pos (by omega), if_pos (by omega), if_pos (by omega), if_pos hd, decide_eq_false (show ¬ (n : Int) > 461168601842738790 from by omega)]
          · simp only [text_Number.j1]
            rw [if_neg (by simp), if_pos (by omega), if_pos (by omega), hw, if_neg (by omega), e_w1 _ (by omega)]
    · rw [if_neg (by simp [hd])]
      refine Ev.step (f := fun q => text_Number.j1 q s n i (s.size : Int) i true) (fun q => ?_) (Ev.step (fun q => ?_) (Ev.now _))
      · simp only [text_Number.l0, text_digit_f, Option.bind_some]
        rw [if_pos (by omega), if_pos (by omega), if_pos (by omega), if_neg hd]
      · simp only [text_Number.j1]
        rfl
theorem text_Number_calls (s : ByteArray) (hs : s.size ≤ 1000000) (n : Int) (b : Bool) (hb : numR (numF s) = (n, b)) (w : World) : Calls Try.prog 75 #[.string s] w fun e w' => e = .returned (.tuple #[.int .i64 n, .bool b]) ∧ Drawn0 w w' := by
  have hev : Ev (fun q => text_Number.f q s) (numR (numF s)) := by
    unfold text_Number.f numF
    by_cases h0 : s.size = 0
    · refine Ev.congr (fun n => by rw [if_pos (size_nil.2 h0)]) ?_
      rw [if_pos h0]
      exact Ev.now _
    · refine Ev.congr (fun n => by rw [if_neg (fun h => h0 (size_nil.1 h))]) ?_
      rw [if_neg h0]
      simpa using text_num_ev s hs s.size 0 0 (by omega) (by omega)
  obtain ⟨q, hq⟩ := hev.rounds
  rw [hb] at hq
  exact text_Number.calls q s n b w hq

/-! values -/
def ebyteB (s : ByteArray) (c : UInt8) : Bool := decide (c ∈ s.data.toList)
def valB (s : ByteArray) : Bool := decide (s.size ≤ 4096) && !ebyteB s 0
theorem e_has_ev (s : ByteArray) (c : UInt8) (hs : s.size ≤ 1000000) : ∀ (d i : Nat), i + d = s.size → Ev (fun n => conchref12_has.l0 n s (c.toNat : Int) i) (decide (c ∈ s.data.toList.drop i))
  | 0, i, h => by
    rw [at_end (by omega)]
    refine Ev.step (fun n => ?_) (Ev.now _)
    simp only [conchref12_has.l0]
    rw [if_neg (by omega)]
    rfl
  | d + 1, i, h => by
    obtain ⟨x, r, h1, h2, h3⟩ := at_list (s := s) (i := i) (by omega)
    rw [h1]
    by_cases he : x = c
    · rw [show decide (c ∈ x :: r) = true from decide_eq_true (by rw [he]; simp)]
      refine Ev.step (fun n => ?_) (Ev.now _)
      simp only [conchref12_has.l0]
      rw [if_pos (by omega), if_pos (by omega), if_pos (by rw [← h3, he])]
    · rw [show decide (c ∈ x :: r) = decide (c ∈ s.data.toList.drop (i + 1)) from decide_eq_decide.2 (by rw [← h2]; exact ⟨fun h => (List.mem_cons.1 h).resolve_left (fun e => he e.symm), fun h => List.mem_cons_of_mem _ h⟩)]
      have := e_has_ev s c hs d (i + 1) (by omega)
      refine Ev.step (fun n => ?_) this
      simp only [conchref12_has.l0]
      rw [if_pos (by omega), if_pos (by omega), if_neg (fun h => he (UInt8.toNat_inj.1 (by omega))), e_w1 _ (by omega)]
theorem ref_valueOk_calls (s : ByteArray) (hs : s.size ≤ 1000000) (b : Bool) (hb : valB s = b) (w : World) : Calls Try.prog 82 #[.string s] w fun e w' => e = .returned (.bool b) ∧ Drawn0 w w' := by
  have h2 : Ev (fun n => conchref12_valueOk.f n s) (valB s) := by
    unfold conchref12_valueOk.f valB
    by_cases c1 : s.size ≤ 4096
    · refine Ev.congr (fun n => by rw [if_pos (by omega)]) ?_
      refine Ev.bind (e_has_ev s 0 hs s.size 0 (by omega)) ?_
      rw [List.drop_zero, show decide ((0 : UInt8) ∈ s.data.toList) = ebyteB s 0 from rfl]
      simpa [c1] using Ev.now _
    · refine Ev.congr (fun n => by rw [if_neg (by omega)]) ?_
      simpa [c1] using Ev.now _
  obtain ⟨q, hq⟩ := h2.rounds
  rw [hb] at hq
  exact conchref12_valueOk.calls q s b w hq
/-! rows of texts -/
theorem e_same_ev (xs ys : List ByteArray) (hl : xs.length = ys.length) (hm : xs.length ≤ 9223372036854775807) : ∀ (d i : Nat), i + d = xs.length → Ev (fun n => conchlaw1_SameTexts.l0 n xs ys i) (decide (xs.drop i = ys.drop i))
  | 0, i, h => by
    have e1 : xs.drop i = [] := List.drop_eq_nil_of_le (by omega)
    have e2 : ys.drop i = [] := List.drop_eq_nil_of_le (by omega)
    rw [e1, e2]
    refine Ev.step (fun n => ?_) (Ev.now _)
    simp only [conchlaw1_SameTexts.l0]
    rw [if_neg (by omega)]
    rfl
  | d + 1, i, h => by
    have hi : i < xs.length := by omega
    have hi2 : i < ys.length := by omega
    rw [List.drop_eq_getElem_cons hi, List.drop_eq_getElem_cons hi2]
    have r1 : rdOf ByteArray.empty xs (i : Int) = xs[i] := by simp [rdOf, List.getD_eq_getElem?_getD, List.getElem?_eq_getElem hi]
    have r2 : rdOf ByteArray.empty ys (i : Int) = ys[i] := by simp [rdOf, List.getD_eq_getElem?_getD, List.getElem?_eq_getElem hi2]
    by_cases he : xs[i] = ys[i]
    · have := e_same_ev xs ys hl hm d (i + 1) (by omega)
      rw [show decide (xs[i] :: xs.drop (i + 1) = ys[i] :: ys.drop (i + 1)) = decide (xs.drop (i + 1) = ys.drop (i + 1)) from decide_eq_decide.2 ⟨fun h => (List.cons.inj h).2, fun h => by rw [he, h]⟩]
      refine Ev.step (fun n => ?_) this
      simp only [conchlaw1_SameTexts.l0]
      rw [if_pos (by omega), if_pos (by omega), if_pos (by omega), r1, r2, if_pos (by rw [he])]
      have : wrap64 ((i : Int) + 1) = ((i + 1 : Nat) : Int) := by unfold wrap64; omega
      rw [this]
    · rw [show decide (xs[i] :: xs.drop (i + 1) = ys[i] :: ys.drop (i + 1)) = false from decide_eq_false (fun h => he (List.cons.inj h).1)]
      refine Ev.step (fun n => ?_) (Ev.now _)
      simp only [conchlaw1_SameTexts.l0]
      rw [if_pos (by omega), if_pos (by omega), if_pos (by omega), r1, r2, if_neg (fun h => he (toList_inj.1 h))]
theorem e_same_texts (A0 A1 : Option Addr) (c0 c1 : Nat) (xs ys : List ByteArray) (b : Bool) (hb : decide (xs = ys) = b) (w : World) (h0 : Kd.C Kd.string w A0 xs.length xs) (hc0 : xs.length ≤ c0) (h1 : Kd.C Kd.string w A1 ys.length ys) (hc1 : ys.length ≤ c1) :
    Calls Try.prog 41 #[.slice A0 xs.length c0, .slice A1 ys.length c1] w fun e w' => e = .returned (.bool b) ∧ Drawn0 w w' := by
  have hex : ∃ k, conchlaw1_SameTexts.f k xs ys = some b := by
    by_cases hl : xs.length = ys.length
    · obtain ⟨k, hk⟩ := (e_same_ev xs ys hl h0.2.1 xs.length 0 (by omega)).rounds
      refine ⟨k, ?_⟩
      unfold conchlaw1_SameTexts.f
      rw [if_pos (by omega), ← hb]
      simpa using hk
    · refine ⟨0, ?_⟩
      unfold conchlaw1_SameTexts.f
      rw [if_neg (by omega), ← hb]
      congr 1
      symm
      exact decide_eq_false (fun h => hl (by rw [h]))
  obtain ⟨k, hk⟩ := hex
  exact conchlaw1_SameTexts.calls k A0 c0 xs A1 c1 ys b w h0 hc0 h1 hc1 hk
theorem e_ret_bool {a b : Bool} (h : a = b) : Ending.returned (.bool a) = .returned (.bool b) := by rw [h]
theorem ret_nb {a b : Int} {x y : Bool} (h : a = b) (k : x = y) : Ending.returned (.tuple #[.int .i64 a, .bool x]) = .returned (.tuple #[.int .i64 b, .bool y]) := by rw [h, k]
/-! the document's Number, walked -/
set_option maxHeartbeats 1000000 in
set_option maxRecDepth 100000 in
theorem ref_Number_calls (s : ByteArray) (hs : s.size ≤ 1000000) (n : Int) (b : Bool) (hb : numR (numF s) = (n, b)) (w : World) : Calls Try.prog 84 #[.string s] w fun e w' => e = .returned (.tuple #[.int .i64 n, .bool b]) ∧ w' = w := by
  have HB := Aside0.mk hb
  have hs' : (s.size : Int) ≤ 1000000 := by omega
  clear hb
  go_enter Try.func84, Try.ntmps84
  go_wp2
  go_loop [4, 5] (fun v i => ∃ (k m : Nat), k ≤ s.size ∧ i = .int .i64 k ∧ v = .int .i64 m ∧ m ≤ 4611686018427387904 ∧ Aside0 (s.size ≠ 0 → numF s = numGo (s.data.toList.drop k) m) ∧ Aside0 (k = 0 → m = 0)) (fun _ i => s.size - (intOf i).toNat)
  case atStart => exact ⟨0, 0, Nat.zero_le _, rfl, rfl, by omega, ⟨fun h => by unfold numF; rw [if_neg h]; rfl⟩, ⟨fun _ => rfl⟩⟩
  case round =>
    obtain ⟨k, m, hk, rfl, rfl, hm, HF, HM⟩ := hrel
    by_cases hlt : k < s.size
    · obtain ⟨c, r, h1, h2, h3⟩ := at_list hlt
      have HF1 := Aside0.mk (show numF s = (if digB c.toNat && !decide (461168601842738790 < m) then (if 4611686018427387904 < m * 10 + (c.toNat - 48) then none else numGo (s.data.toList.drop (k + 1)) (m * 10 + (c.toNat - 48))) else none) from by rw [HF.out (by omega), h1, ← h2]; rfl)
      have hat : (s[k]'hlt).toNat = c.toNat := by
        have := bt_at s (k : Int) hlt
        rw [← h3] at this
        exact Int.ofNat.inj this
      have hc256 : c.toNat < 256 := c.toNat_lt
      clear h1 h2 h3 HF
      have hlt' : (k : Int) < (s.size : Int) := by omega
      have hnn : (0 : Int) ≤ (m : Int) := by omega
      rw [← hat] at HF1 hc256
      clear hat
      by_cases hd : 48 ≤ (s[k]'hlt).toNat ∧ (s[k]'hlt).toNat ≤ 57
      · obtain ⟨hd0, hd1⟩ := hd
        have hd0' : (48 : Int) ≤ ((s[k]'hlt).toNat : Int) := by omega
        have hd1' : ((s[k]'hlt).toNat : Int) ≤ 57 := by omega
        have hdb : digB (s[k]'hlt).toNat = true := by unfold digB; simp; omega
        by_cases hb : 461168601842738790 < m
        · have HE := Aside0.mk (show numF s = none from by rw [HF1.out, if_neg (by simp [hb])])
          have hb' : decide (461168601842738790 < (m : Int)) = true := decide_eq_true (by omega)
          clear hdb HF1
          go_wp2
          go_ret2
          have hb := HB.out
          rw [HE.out] at hb
          injection hb with h1 h2
          exact ⟨ret_nb h1 h2, rfl⟩
        · have hb' : decide (461168601842738790 < (m : Int)) = false := decide_eq_false (by omega)
          have hmb : (m : Int) ≤ 461168601842738790 := by omega
          have HF2 := Aside0.mk (show numF s = (if 4611686018427387904 < m * 10 + ((s[k]'hlt).toNat - 48) then none else numGo (s.data.toList.drop (k + 1)) (m * 10 + ((s[k]'hlt).toNat - 48))) from by rw [HF1.out, if_pos (by simp [hdb, hb])])
          clear hdb HF1
          by_cases hc : 4611686018427387904 < m * 10 + ((s[k]'hlt).toNat - 48)
          · have HE := Aside0.mk (show numF s = none from by rw [HF2.out, if_pos hc])
            have hc' : (4611686018427387904 : Int) < 10 * (m : Int) + (((s[k]'hlt).toNat : Int) - 48) := by omega
            clear hc HF2
            go_wp2
            go_ret2
            have hb := HB.out
            rw [HE.out] at hb
            injection hb with h1 h2
            exact ⟨ret_nb h1 h2, rfl⟩
          · have HE := Aside0.mk (show numF s = numGo (s.data.toList.drop (k + 1)) (m * 10 + ((s[k]'hlt).toNat - 48)) from by rw [HF2.out, if_neg hc])
            have hc' : 10 * (m : Int) + (((s[k]'hlt).toNat : Int) - 48) ≤ (4611686018427387904 : Int) := by omega
            have HC := Aside0.mk hc
            clear hc HF2
            go_wp2
            go_round
            case rel => exact ⟨k + 1, m * 10 + ((s[k]'hlt).toNat - 48), by omega, by go_num, by congr 1; omega, by omega, ⟨fun _ => HE.out⟩, ⟨fun h => by omega⟩⟩
            case measure => simp [intOf]; omega
      · have hdb : digB (s[k]'hlt).toNat = false := by unfold digB; simp; omega
        have HE := Aside0.mk (show numF s = none from by rw [HF1.out, if_neg (by simp [hdb])])
        clear hdb HF1
        by_cases h48 : ((s[k]'hlt).toNat : Int) < 48
        · clear hd
          go_wp2
          go_ret2
          have hb := HB.out
          rw [HE.out] at hb
          injection hb with h1 h2
          exact ⟨ret_nb h1 h2, rfl⟩
        · have h57 : (57 : Int) < ((s[k]'hlt).toNat : Int) := by omega
          have h48' : (48 : Int) ≤ ((s[k]'hlt).toNat : Int) := by omega
          clear hd h48
          go_wp2
          go_ret2
          have hb := HB.out
          rw [HE.out] at hb
          injection hb with h1 h2
          exact ⟨ret_nb h1 h2, rfl⟩
    · obtain rfl : k = s.size := by omega
      rw [at_end (Nat.le_refl _)] at HF
      by_cases h0 : s.size = 0
      · have h0' : s.toList.isEmpty = true := by rw [size_nil.2 h0]; rfl
        have HE := Aside0.mk (show numF s = none from by unfold numF; rw [if_pos h0])
        have HZ := Aside0.mk (HM.out h0)
        clear h0
        go_wp2
        go_ret2
        have hb := HB.out
        rw [HE.out] at hb
        injection hb with h1 h2
        exact ⟨ret_nb (by rw [HZ.out]; exact h1) h2, rfl⟩
      · have h0' : s.toList.isEmpty = false := by
          cases hx : s.toList with
          | nil => exact absurd (size_nil.1 hx) h0
          | cons _ _ => rfl
        have HE := Aside0.mk (show numF s = some m from HF.out h0)
        clear h0
        go_wp2
        go_ret2
        have hb := HB.out
        rw [HE.out] at hb
        injection hb with h1 h2
        exact ⟨ret_nb h1 h2, rfl⟩
end Go.Proofs.Ytfdjbjinomfgiaa
