/- Patterns: the document's own match comes to matchB. -/
import Derived.Test.YtfdjbjinomfgiaaMatchA
namespace Go.Proofs.Ytfdjbjinomfgiaa
open Go.RowKit Go.Proofs.YtfdjbjinomfgiaaW.PrintWords Go.Proofs.YtfdjbjinomfgiaaW.PrintLast Go.Proofs.YtfdjbjinomfgiaaW.PrintMore GrTree

theorem set_getD {R : List Bool} {i j : Nat} {b : Bool} (hi : i < R.length) : (R.set i b).getD j false = if j = i then b else R.getD j false := by
  simp only [List.getD_eq_getElem?_getD, List.getElem?_set]
  by_cases h : i = j
  · subst h; simp [hi]
  · rw [if_neg h, if_neg (fun e => h e.symm)]
theorem rep_getD (n j : Nat) : (List.replicate n false).getD j false = false := by
  simp only [List.getD_eq_getElem?_getD, List.getElem?_replicate]
  split <;> rfl
section
variable (p : ByteArray) (l : List Bool) (s : ByteArray)

theorem stp_star {i : Nat} (h : isC p l i 42 = true) : stp p l i = (.star, i + 1) := by unfold stp; rw [if_pos h]
theorem isC_ne {i : Nat} {a b : Int} (h : isC p l i a = true) (hab : a ≠ b) : isC p l i b = false := by
  unfold isC at h ⊢
  simp only [Bool.and_eq_true, decide_eq_true_eq] at h
  rw [h.2.2]
  simp [hab]
theorem brk_none {i : Nat} (h : isC p l i 91 = false) : brk p l i = none := by unfold brk; rw [if_neg (by simp [h])]
theorem mx_none (i : Nat) : mx (i : Int) (optI none) = i := by
  show mx (i : Int) (-1) = i
  unfold mx
  split <;> omega
theorem mx_some {i e : Nat} (h : i < e) : mx (i : Int) (optI (some e)) = e := by
  show mx (i : Int) (e : Int) = e
  unfold mx
  split <;> omega
/-- Where the next step begins. -/
theorem stp_next (hp : p.size ≤ 1000000) {i : Nat} (hi : i < p.size) : wrap64 (mx (i : Int) (optI (brk p l i)) + 1) = ((stp p l i).2 : Int) := by
  unfold stp
  by_cases h1 : isC p l i 42 = true
  · rw [if_pos h1, brk_none p l (isC_ne p l h1 (by decide)), mx_none, w64_1 _ (by omega)]
  · rw [if_neg h1]
    by_cases h2 : isC p l i 63 = true
    · rw [if_pos h2, brk_none p l (isC_ne p l h2 (by decide)), mx_none, w64_1 _ (by omega)]
    · rw [if_neg h2]
      cases hb : brk p l i with
      | none => rw [mx_none, w64_1 _ (by omega)]
      | some e =>
        have := brk_lt p l hb
        rw [mx_some this.1, w64_1 _ (by omega)]
theorem ref_j3 (hp : p.size ≤ 1000000) (hs : s.size ≤ 1000000) {i k nx : Nat} {f : Int → Bool} {E : Int} (hE : optI (brk p l i) = E) (hi : i < p.size) (h42 : isC p l i 42 = false) (hst : stp p l i = (.tst f, nx)) {R x7 : List Bool} {x9 : Bool} (hk : k < s.size) (h7 : x7.length = s.size + 1) {r : Bool}
    (H : Ev (fun q => conchref1_Match.l1 q s R i (x7.set (k + 1) (f (bt s k))) E x9 ((k + 1 : Nat) : Int) p l) r) : Ev (fun q => conchref1_Match.j3 q s R i x7 E x9 k false p l) r := by
  unfold stp at hst
  rw [if_neg (by simp [h42])] at hst
  by_cases h2 : isC p l i 63 = true
  · rw [if_pos h2] at hst
    have hf : (fun _ => true) = f := by injection hst with hf _; injection hf
    have hv : f (bt s k) = true := by rw [← hf]
    rw [hv] at H
    refine Ev.step (fun q => ?_) H
    simp only [conchref1_Match.j3]
    rw [if_neg (by simp), ref_is]
    simp only [Option.bind_some]
    rw [if_pos h2, w64_1 _ (by omega), if_pos (by omega), if_pos (by omega), Int.toNat_natCast]
  · have h2' : isC p l i 63 = false := by simpa using h2
    rw [if_neg h2] at hst
    cases hb : brk p l i with
    | none =>
      rw [hb] at hst hE
      have hf : (fun c => decide (c = bt p i)) = f := by injection hst with hf _; injection hf
      have hE1 : ¬ E ≥ 0 := by rw [← hE]; show ¬ (-1 : Int) ≥ 0; omega
      have hv : (bt s k == bt p i) = f (bt s k) := by rw [← hf, Bool.eq_iff_iff, beq_iff_eq, decide_eq_true_iff]
      refine Ev.step (fun q => ?_) H
      simp only [conchref1_Match.j3]
      rw [if_neg (by simp), ref_is]
      simp only [Option.bind_some, h2', Bool.false_eq_true, if_false]
      rw [if_neg hE1, if_pos (by omega), if_pos (by omega), if_pos (by omega), if_pos (by omega), w64_1 _ (by omega), if_pos (by omega), if_pos (by omega), Int.toNat_natCast, hv]
    | some e =>
      rw [hb] at hst hE
      have hf : (fun c => am p l e c e (from1 p l i) != isC p l (i + 1) 33) = f := by injection hst with hf _; injection hf
      have hE1 : E = e := by rw [← hE]; rfl
      subst hE1
      have hv : (am p l e (bt s k) e (from1 p l i) != isC p l (i + 1) 33) = f (bt s k) := by rw [← hf]
      have hlt := brk_lt p l hb
      rw [← hv] at H
      refine Ev.step (f := fun q => (conchref1_among.f q p l i e (bt s k)).bind fun t => conchref1_Match.l1 q s R i (x7.set (k + 1) t) (e : Int) x9 ((k + 1 : Nat) : Int) p l) (fun q => ?_) (Ev.bind (ref_among p l hp i e _ hb) H)
      simp only [conchref1_Match.j3]
      rw [if_neg (by simp), ref_is]
      simp only [Option.bind_some, h2', Bool.false_eq_true, if_false]
      rw [if_pos (by omega), if_pos (by omega), if_pos (by omega), w64_1 _ (by omega)]
      congr 1
      funext t
      rw [if_pos (by omega), if_pos (by omega), Int.toNat_natCast]
theorem ref_tst (hp : p.size ≤ 1000000) (hs : s.size ≤ 1000000) {i nx : Nat} {f : Int → Bool} {E : Int} (hE : optI (brk p l i) = E) (hi : i < p.size) (h42 : isC p l i 42 = false) (hst : stp p l i = (.tst f, nx)) {R : List Bool} (hR : R.length = s.size + 1) {r : Bool}
    (H : Ev (fun q => conchref1_Match.l0 q s (app s R (.tst f)) nx p l) r) : ∀ (d k : Nat) (x7 : List Bool) (x9 : Bool), k + d = s.size + 1 → x7.length = s.size + 1 → (∀ j, j ≤ s.size → x7.getD j false = if j ≤ k then testF s R f j else false) →
    Ev (fun q => conchref1_Match.l1 q s R i x7 E x9 k p l) r
  | 0, k, x7, x9, hd, h7, hx => by
    refine Ev.step (fun q => ?_) H
    simp only [conchref1_Match.l1]
    rw [if_neg (by omega), ← hE, stp_next p l hp hi, hst]
    have : x7 = app s R (.tst f) := row_ext h7 fun j hj => by rw [hx j hj, if_pos (by omega)]
    rw [this]
  | d + 1, k, x7, x9, hd, h7, hx => by
    have key : ∀ x9', Ev (fun q => conchref1_Match.j2 q s R i x7 E x9' k p l) r := by
      intro x9'
      by_cases hkn : k = s.size
      · refine Ev.step (f := fun q => conchref1_Match.j3 q s R i x7 E x9' k true p l) (fun q => ?_) ?_
        · simp only [conchref1_Match.j2]
          rw [ref_is]
          simp only [Option.bind_some, h42, Bool.false_eq_true, if_false]
          rw [if_pos (by omega)]
        · refine Ev.step (f := fun q => conchref1_Match.l1 q s R i x7 E x9' ((k + 1 : Nat) : Int) p l) (fun q => ?_) ?_
          · simp only [conchref1_Match.j3]
            rw [if_pos trivial, w64_1 _ (by omega)]
          · refine ref_tst hp hs hE hi h42 hst hR H d (k + 1) x7 x9' (by omega) h7 fun j hj => ?_
            rw [hx j hj, if_pos (by omega), if_pos (by omega)]
      · refine Ev.step (f := fun q => conchref1_Match.j3 q s R i x7 E x9' k (!(R.getD k false)) p l) (fun q => ?_) ?_
        · simp only [conchref1_Match.j2]
          rw [ref_is]
          simp only [Option.bind_some, h42, Bool.false_eq_true, if_false]
          rw [if_neg (by omega), if_pos (by omega), if_pos (by omega)]
          simp [rdOf]
        · cases hRk : R.getD k false with
          | false =>
            refine Ev.step (f := fun q => conchref1_Match.l1 q s R i x7 E x9' ((k + 1 : Nat) : Int) p l) (fun q => ?_) ?_
            · simp only [conchref1_Match.j3, Bool.not_false]
              rw [if_pos trivial, w64_1 _ (by omega)]
            · refine ref_tst hp hs hE hi h42 hst hR H d (k + 1) x7 x9' (by omega) h7 fun j hj => ?_
              rw [hx j hj]
              by_cases h1 : j ≤ k
              · rw [if_pos h1, if_pos (by omega)]
              · rw [if_neg h1]
                by_cases h2 : j ≤ k + 1
                · rw [if_pos h2]
                  obtain rfl : j = k + 1 := by omega
                  show false = (R.getD k false && f (bt s k))
                  rw [hRk]; rfl
                · rw [if_neg h2]
          | true =>
            rw [Bool.not_true]
            refine ref_j3 p l s hp hs hE hi h42 hst (by omega) h7 ?_
            refine ref_tst hp hs hE hi h42 hst hR H d (k + 1) _ x9' (by omega) (by simpa using h7) fun j hj => ?_
            rw [set_getD (by omega), hx j hj]
            by_cases h1 : j = k + 1
            · subst h1
              rw [if_pos rfl, if_pos (by omega)]
              show f (bt s k) = (R.getD k false && f (bt s k))
              rw [hRk]; simp
            · rw [if_neg h1]
              by_cases h2 : j ≤ k
              · rw [if_pos h2, if_pos (by omega)]
              · rw [if_neg h2, if_neg (by omega)]
    refine Ev.step (f := fun q => conchref1_Match.j2 q s R i x7 E (if x9 = true then true else rdOf false R k) k p l) (fun q => ?_) (key _)
    simp only [conchref1_Match.l1]
    rw [if_pos (by omega)]
    cases x9 with
    | true => simp
    | false => rw [if_neg (by simp), if_pos (by omega), if_pos (by omega)]; rfl
theorem starF_succ (R : List Bool) (k : Nat) : starF R (k + 1) = (starF R k || R.getD (k + 1) false) := by
  unfold starF
  rw [List.range_succ (n := k + 1), List.any_append]
  simp
theorem ref_star (hp : p.size ≤ 1000000) (hs : s.size ≤ 1000000) {i : Nat} {E : Int} (hE : optI (brk p l i) = E) (hi : i < p.size) (h42 : isC p l i 42 = true) {R : List Bool} (hR : R.length = s.size + 1) {r : Bool}
    (H : Ev (fun q => conchref1_Match.l0 q s (app s R .star) ((i + 1 : Nat) : Int) p l) r) : ∀ (d k : Nat) (x7 : List Bool) (x9 : Bool), k + d = s.size + 1 → x7.length = s.size + 1 → (∀ j, j < k → x7.getD j false = starF R j) → (x9 = match k with | 0 => false | k + 1 => starF R k) →
    Ev (fun q => conchref1_Match.l1 q s R i x7 E x9 k p l) r
  | 0, k, x7, x9, hd, h7, hx, h9 => by
    refine Ev.step (fun q => ?_) H
    simp only [conchref1_Match.l1]
    rw [if_neg (by omega), ← hE, stp_next p l hp hi, stp_star p l h42]
    have : x7 = app s R .star := row_ext h7 fun j hj => hx j (by omega)
    rw [this]
  | d + 1, k, x7, x9, hd, h7, hx, h9 => by
    have h9' : (if x9 = true then true else rdOf false R k) = starF R k := by
      cases k with
      | zero => subst h9; simp [rdOf, starF]
      | succ k =>
        subst h9
        rw [starF_succ]
        simp only [rdOf, Int.toNat_natCast]
        by_cases hst : starF R k = true <;> simp [hst]
    refine Ev.step (f := fun q => conchref1_Match.j2 q s R i x7 E (starF R k) k p l) (fun q => ?_) ?_
    · simp only [conchref1_Match.l1]
      rw [if_pos (by omega), ← h9']
      cases x9 with
      | true => simp
      | false => rw [if_neg (by simp), if_pos (by omega), if_pos (by omega)]; rfl
    · refine Ev.step (f := fun q => conchref1_Match.l1 q s R i (x7.set k (starF R k)) E (starF R k) ((k + 1 : Nat) : Int) p l) (fun q => ?_) ?_
      · simp only [conchref1_Match.j2]
        rw [ref_is]
        simp only [Option.bind_some, h42, if_true]
        rw [if_pos (by omega), if_pos (by omega), w64_1 _ (by omega), Int.toNat_natCast]
      · refine ref_star hp hs hE hi h42 hR H d (k + 1) _ _ (by omega) (by simpa using h7) (fun j hj => ?_) rfl
        rw [set_getD (by omega)]
        by_cases h1 : j = k
        · rw [if_pos h1, h1]
        · rw [if_neg h1]; exact hx j (by omega)
theorem ref_l0 (hp : p.size ≤ 1000000) (hs : s.size ≤ 1000000) : ∀ (d i : Nat) (R : List Bool), p.size ≤ i + d → i ≤ 1000000000 → R.length = s.size + 1 → Ev (fun q => conchref1_Match.l0 q s R i p l) (goM p l s d i R)
  | 0, i, R, hd, hi9, hR => by
    refine Ev.step (f := fun _ => some (R.getD s.size false)) (fun q => ?_) (Ev.now _)
    simp only [conchref1_Match.l0]
    rw [if_neg (by omega), if_pos (by omega), if_pos (by omega)]
    simp [rdOf]
  | d + 1, i, R, hd, hi9, hR => by
    by_cases hi : i < p.size
    · have hlt := stp_lt p l i
      have hnx : (stp p l i).2 ≤ 1000000000 := by
        unfold stp
        split
        · simp; omega
        · split
          · simp; omega
          · split
            · rename_i e he
              have := brk_lt p l he
              simp; omega
            · simp; omega
      have H := ref_l0 hp hs d (stp p l i).2 (app s R (stp p l i).1) (by omega) hnx (app_length s R _)
      have hgo : goM p l s (d + 1) i R = goM p l s d (stp p l i).2 (app s R (stp p l i).1) := by
        conv => lhs; unfold goM
        rw [if_pos hi]
      rw [hgo]
      refine Ev.step (f := fun q => (conchref1_bracket.f q p l i).bind fun t => conchref1_Match.l1 q s R i (List.replicate (s.size + 1) false) t false (0 : Nat) p l) (fun q => ?_) (Ev.bind (ref_brk p l hp i hi) ?_)
      · simp only [conchref1_Match.l0]
        rw [if_pos (by omega), w64_1 _ (by omega), if_pos (by omega), if_pos (by omega), Int.toNat_natCast]
        rfl
      · cases hk : (stp p l i).1 with
        | star =>
          have h42 : isC p l i 42 = true := by
            unfold stp at hk
            split at hk
            · assumption
            · split at hk
              · cases hk
              · split at hk <;> cases hk
          rw [stp_star p l h42] at H ⊢
          exact ref_star p l s hp hs rfl hi h42 hR H (s.size + 1) 0 _ _ (by omega) (by simp) (fun j hj => absurd hj (by omega)) rfl
        | tst f =>
          have h42 : isC p l i 42 = false := by
            cases h : isC p l i 42 with
            | false => rfl
            | true => rw [stp_star p l h] at hk; cases hk
          have hst : stp p l i = (.tst f, (stp p l i).2) := by rw [← hk]
          rw [hk] at H
          refine ref_tst p l s hp hs rfl hi h42 hst hR H (s.size + 1) 0 _ _ (by omega) (by simp) (fun j hj => ?_)
          rw [rep_getD]
          by_cases h0 : j ≤ 0
          · rw [if_pos h0]
            obtain rfl : j = 0 := by omega
            rfl
          · rw [if_neg h0]
    · have hgo : goM p l s (d + 1) i R = R.getD s.size false := by
        conv => lhs; unfold goM
        rw [if_neg hi]
      rw [hgo]
      refine Ev.step (f := fun _ => some (R.getD s.size false)) (fun q => ?_) (Ev.now _)
      simp only [conchref1_Match.l0]
      rw [if_neg (by omega), if_pos (by omega), if_pos (by omega)]
      simp [rdOf]
theorem ref_match (hp : p.size ≤ 1000000) (hs : s.size ≤ 1000000) : ∃ q, conchref1_Match.f q p l s = some (matchB p l s) := by
  have H := ref_l0 p l s hp hs p.size 0 (rowOf s.size fun j => j == 0) (by omega) (by omega) (rowOf_length _ _)
  obtain ⟨q, hq⟩ := H.rounds
  refine ⟨q, ?_⟩
  unfold conchref1_Match.f
  rw [w64_1 _ (by omega), if_pos (by omega), if_pos (by omega), Int.toNat_natCast]
  simp only [Option.bind_some]
  rw [if_pos (by simp), show (0 : Int).toNat = 0 from rfl]
  have : (List.replicate (s.size + 1) false).set 0 true = rowOf s.size fun j => j == 0 := row_ext (by simp) fun j hj => by
    rw [set_getD (by simp), rep_getD]
    by_cases h : j = 0 <;> simp [h]
  rw [this]
  exact hq
end
end Go.Proofs.Ytfdjbjinomfgiaa
