/- Patterns: the program's own match comes to matchB: a step's test, the rows. -/
import Derived.Test.YtfdjbjinomfgiaaMatchC
namespace Go.Proofs.Ytfdjbjinomfgiaa
open Go.RowKit Go.Proofs.YtfdjbjinomfgiaaW.PrintWords Go.Proofs.YtfdjbjinomfgiaaW.PrintLast Go.Proofs.YtfdjbjinomfgiaaW.PrintMore GrTree

section
variable (p : ByteArray) (l : List Bool)
/-- A byte among a row's. -/
theorem own_has (hp : p.size ≤ 1000000) (a e : Nat) (c x0 x1 : Int) (x4 x5 : Bool) (he : e < p.size) : ∀ (d j : Nat), e ≤ a + j + d → a + j ≤ e + 3 →
    Ev (fun n => pat_item_has.l0 n c j x0 x1 (p.extract a e) (dashes l a e) x4 x5) (am p l e c d (a + j))
  | 0, j, h, h3 => by
    refine Ev.step (fun n => ?_) (Ev.now _)
    simp only [pat_item_has.l0]
    rw [extract_size p a e (by omega), if_neg (by omega)]
    rfl
  | d + 1, j, h, h3 => by
    have hsz := extract_size p a e (by omega)
    by_cases hj : a + j < e
    · -- what is left when this byte is none
      have hone : Ev (fun n => pat_item_has.j1 n c j false x0 x1 (p.extract a e) (dashes l a e) x4 x5) (decide (bt p ((a + j : Nat) : Int) = c) || am p l e c d (a + j + 1)) := by
        have hb := bt_extract p a e j (by omega) hj
        by_cases hc : bt p ((a + j : Nat) : Int) = c
        · refine Ev.step (f := fun _ => some true) (fun n => ?_) (by simp only [hc, decide_true, Bool.true_or]; exact Ev.now _)
          simp only [pat_item_has.j1]
          rw [if_neg (by simp), if_pos (by omega), hsz, if_pos (by omega), hb, if_pos hc]
        · have ih := own_has hp a e c x0 x1 x4 x5 he d (j + 1) (by omega) (by omega)
          refine Ev.step (fun n => ?_) (by simp only [hc, decide_false, Bool.false_or]; exact ih)
          simp only [pat_item_has.j1]
          rw [if_neg (by simp), if_pos (by omega), hsz, if_pos (by omega), hb, if_neg hc, w64_1 _ (by omega)]
      by_cases h2 : a + j + 2 < e
      · have hb1 := bt_extract p a e (j + 1) (by omega) (by omega)
        have h45 := isC_at p l (i := a + j + 1) (c := 45) (by omega)
        by_cases hm : bt p ((a + (j + 1) : Nat) : Int) = 45
        · have h45' : isC p l (a + j + 1) 45 = lv l (a + j + 1) := by
            rw [h45]
            have : bt p ((a + j + 1 : Nat) : Int) = 45 := hm
            simp only [this, decide_true, Bool.and_true]
          have hd1 := dashes_get l a e (j + 1) (by omega)
          refine Ev.step (f := fun n => pat_item_has.j1 n c j (lv l (a + j + 1)) x0 x1 (p.extract a e) (dashes l a e) x4 x5) (fun n => ?_) ?_
          · simp only [pat_item_has.l0]
            rw [hsz, if_pos (by omega), w64_2 _ (by omega), if_pos (by omega), w64_1 _ (by omega), if_pos (by omega), if_pos (by omega), hb1, if_pos hm, dashes_len, if_pos (by omega), hd1]
            rfl
          · cases hl : lv l (a + j + 1) with
            | false =>
              have ham : am p l e c (d + 1) (a + j) = (decide (bt p ((a + j : Nat) : Int) = c) || am p l e c d (a + j + 1)) := by
                conv => lhs; unfold am
                rw [if_pos hj, if_neg (by rw [h45', hl]; simp)]
              rw [ham]
              exact hone
            | true =>
              have ham : am p l e c (d + 1) (a + j) = ((decide (bt p ((a + j : Nat) : Int) ≤ c) && decide (c ≤ bt p ((a + j + 2 : Nat) : Int))) || am p l e c d (a + j + 3)) := by
                conv => lhs; unfold am
                rw [if_pos hj, if_pos (by rw [h45', hl]; simp [h2])]
              rw [ham]
              have hb0 := bt_extract p a e j (by omega) hj
              have hb2 := bt_extract p a e (j + 2) (by omega) (by omega)
              have ih := own_has hp a e c x0 x1 x4 x5 he d (j + 3) (by omega) (by omega)
              have hj2 : ∀ b, Ev (fun n => pat_item_has.j2 n c j b x0 x1 (p.extract a e) (dashes l a e) x4 x5) (b || am p l e c d (a + j + 3)) := by
                intro b
                cases b with
                | true =>
                  refine Ev.step (fun n => ?_) (Ev.now _)
                  simp only [pat_item_has.j2]
                  rw [if_pos trivial, Bool.true_or]
                | false =>
                  rw [Bool.false_or]
                  refine Ev.step (fun n => ?_) ih
                  simp only [pat_item_has.j2]
                  rw [if_neg (by simp), w64_2 _ (by omega), w64_1 _ (by omega)]
              by_cases hle : bt p ((a + j : Nat) : Int) ≤ c
              · have := hj2 (decide (c ≤ bt p ((a + j + 2 : Nat) : Int)))
                rw [show (decide (bt p ((a + j : Nat) : Int) ≤ c) && decide (c ≤ bt p ((a + j + 2 : Nat) : Int))) = decide (c ≤ bt p ((a + j + 2 : Nat) : Int)) by simp only [hle, decide_true, Bool.true_and]]
                refine Ev.step (fun n => ?_) this
                simp only [pat_item_has.j1]
                rw [if_pos trivial, if_pos (by omega), hsz, if_pos (by omega), hb0, if_pos hle, w64_2 _ (by omega), if_pos (by omega), if_pos (by omega), hb2]
                rfl
              · have := hj2 false
                rw [show (decide (bt p ((a + j : Nat) : Int) ≤ c) && decide (c ≤ bt p ((a + j + 2 : Nat) : Int))) = false by simp only [hle, decide_false, Bool.false_and]]
                refine Ev.step (fun n => ?_) this
                simp only [pat_item_has.j1]
                rw [if_pos trivial, if_pos (by omega), hsz, if_pos (by omega), hb0, if_neg hle]
        · have h45' : isC p l (a + j + 1) 45 = false := by
            rw [h45]
            have : ¬ bt p ((a + j + 1 : Nat) : Int) = 45 := hm
            simp only [this, decide_false, Bool.and_false]
          have ham : am p l e c (d + 1) (a + j) = (decide (bt p ((a + j : Nat) : Int) = c) || am p l e c d (a + j + 1)) := by
            conv => lhs; unfold am
            rw [if_pos hj, if_neg (by rw [h45']; simp)]
          rw [ham]
          refine Ev.step (fun n => ?_) hone
          simp only [pat_item_has.l0]
          rw [hsz, if_pos (by omega), w64_2 _ (by omega), if_pos (by omega), w64_1 _ (by omega), if_pos (by omega), if_pos (by omega), hb1, if_neg hm]
      · have ham : am p l e c (d + 1) (a + j) = (decide (bt p ((a + j : Nat) : Int) = c) || am p l e c d (a + j + 1)) := by
          conv => lhs; unfold am
          rw [if_pos hj, if_neg (by simp; omega)]
        rw [ham]
        refine Ev.step (fun n => ?_) hone
        simp only [pat_item_has.l0]
        rw [hsz, if_pos (by omega), w64_2 _ (by omega), if_neg (by omega)]
    · have ham : am p l e c (d + 1) (a + j) = false := by
        conv => lhs; unfold am
        rw [if_neg hj]
      rw [ham]
      refine Ev.step (fun n => ?_) (Ev.now _)
      simp only [pat_item_has.l0]
      rw [hsz, if_neg (by omega)]

def oneF (n : Nat) (x : S199) (c : Int) : Option Bool := pat_item_one.f n x.f0 x.f1 x.f2 x.f3 x.f4 x.f5 c
theorem own_one (hp : p.size ≤ 1000000) {i nx : Nat} {f : Int → Bool} (hst : stp p l i = (.tst f, nx)) (c : Int) : Ev (fun n => oneF n (itm p l i) c) (f c) := by
  unfold stp at hst
  by_cases h42 : isC p l i 42 = true
  · rw [if_pos h42] at hst; cases hst
  · rw [if_neg h42] at hst
    by_cases h63 : isC p l i 63 = true
    · rw [if_pos h63] at hst
      have hf : (fun _ => true) = f := by injection hst with hf _; injection hf
      have hit : itm p l i = ⟨63, 0, ⟨#[]⟩, [], false, false⟩ := by unfold itm; rw [if_neg h42, if_pos h63]
      rw [hit, ← hf]
      refine Ev.congr (f := fun n => pat_item_one.j0 n c 63 true 63 0 ⟨#[]⟩ [] false false) (fun n => ?_) (Ev.step (fun n => ?_) (Ev.now _))
      · unfold oneF pat_item_one.f
        rw [if_neg (by simp)]
        rfl
      · simp only [pat_item_one.j0]
        rw [if_pos trivial]
    · rw [if_neg h63] at hst
      cases hb : brk p l i with
      | none =>
        rw [hb] at hst
        have hf : (fun c => decide (c = bt p i)) = f := by injection hst with hf _; injection hf
        have hit : itm p l i = litI p i := by unfold itm; rw [if_neg h42, if_neg h63, hb]
        have hv : (bt p i == c) = f c := by rw [← hf, Bool.eq_iff_iff, beq_iff_eq, decide_eq_true_iff]; exact eq_comm
        rw [hit, ← hv]
        refine Ev.congr (f := fun n => pat_item_one.j0 n c 0 false 0 (bt p i) ⟨#[]⟩ [] false true) (fun n => ?_) (Ev.step (fun n => ?_) (Ev.now _))
        · unfold oneF pat_item_one.f litI
          rw [if_neg (by simp)]
          rfl
        · simp only [pat_item_one.j0]
          rw [if_neg (by simp), if_neg (by simp)]
      | some e =>
        rw [hb] at hst
        have hf : (fun c => am p l e c e (from1 p l i) != isC p l (i + 1) 33) = f := by injection hst with hf _; injection hf
        have hlt := brk_lt p l hb
        have hit : itm p l i = ⟨91, 0, p.extract (from1 p l i) e, dashes l (from1 p l i) e, isC p l (i + 1) 33, false⟩ := by unfold itm; rw [if_neg h42, if_neg h63, hb]
        have hv : (am p l e c e (from1 p l i) != isC p l (i + 1) 33) = f c := by rw [← hf]
        rw [hit, ← hv]
        have hh := own_has p l hp (from1 p l i) e c 91 0 (isC p l (i + 1) 33) false hlt.2.1 e 0 (by omega) (by omega)
        rw [Nat.add_zero] at hh
        refine Ev.congr (f := fun n => pat_item_one.j0 n c 91 false 91 0 (p.extract (from1 p l i) e) (dashes l (from1 p l i) e) (isC p l (i + 1) 33) false) (fun n => ?_) (Ev.step (f := fun n => (pat_item_has.f n 91 0 (p.extract (from1 p l i) e) (dashes l (from1 p l i) e) (isC p l (i + 1) 33) false c).bind fun t => some (t != isC p l (i + 1) 33)) (fun n => ?_) (Ev.bind (a := am p l e c e (from1 p l i)) ?_ (Ev.now _)))
        · unfold oneF pat_item_one.f
          rw [if_neg (by simp)]
          rfl
        · simp only [pat_item_one.j0]
          rw [if_neg (by simp), if_pos trivial]
        · exact hh
theorem itm_kind (i : Nat) : (itm p l i).f0 = 42 ↔ isC p l i 42 = true := by
  unfold itm
  by_cases h42 : isC p l i 42 = true
  · rw [if_pos h42]; simp [h42]
  · rw [if_neg h42]
    split
    · simp [h42]
    · split
      · simp [h42]
      · simp [litI, h42]

/-! ### the rows -/
variable (s : ByteArray)
def rowF (n : Nat) (x8 : List Bool) (its : List S199) (idx : Int) (R : List Bool) (k : Int) (x : S199) : Option Bool :=
  pat_matched.l1 n s x8 its (its.length : Int) idx R (R.length : Int) k x.f0 x.f1 x.f2 x.f3 x.f4 x.f5
theorem own_tst (hs : s.size ≤ 1000000) {f : Int → Bool} {x : S199} (hx0 : x.f0 ≠ 42) (hone : ∀ c, Ev (fun n => oneF n x c) (f c)) {R : List Bool} (hR : R.length = s.size + 1) {its : List S199} {idx : Nat} (hidx : idx ≤ 1000000000) {r : Bool}
    (H : Ev (fun q => pat_matched.l0 q s (app s R (.tst f)) its (its.length : Int) ((idx + 1 : Nat) : Int)) r) : ∀ (d k : Nat) (x8 : List Bool), k + d = s.size + 1 → x8.length = s.size + 1 → (∀ j, j ≤ s.size → x8.getD j false = if j ≤ k then testF s R f j else false) →
    Ev (fun q => rowF s q x8 its idx R k x) r
  | 0, k, x8, hd, h8, hx => by
    refine Ev.step (fun q => ?_) H
    simp only [rowF, pat_matched.l1]
    rw [if_neg (by omega), w64_1 _ hidx]
    have : x8 = app s R (.tst f) := row_ext h8 fun j hj => by rw [hx j hj, if_pos (by omega)]
    rw [this]
  | d + 1, k, x8, hd, h8, hx => by
    cases hRk : R.getD k false with
    | false =>
      have ih := own_tst hs hx0 hone hR hidx H d (k + 1) x8 (by omega) h8 fun j hj => by
        rw [hx j hj]
        by_cases h1 : j ≤ k
        · rw [if_pos h1, if_pos (by omega)]
        · rw [if_neg h1]
          by_cases h2 : j ≤ k + 1
          · rw [if_pos h2]
            obtain rfl : j = k + 1 := by omega
            show false = (R.getD k false && f (bt s k))
            rw [hRk]; rfl
          · rw [if_neg h2]
      refine Ev.step (fun q => ?_) ih
      simp only [rowF, pat_matched.l1]
      have hRk' : rdOf false R (k : Int) = false := by simpa [rdOf] using hRk
      rw [if_pos (by omega), if_pos (by omega), if_pos (by omega), if_neg hx0, hRk', if_neg (by simp), w64_1 _ (by omega)]
    | true =>
      have hRk' : rdOf false R (k : Int) = true := by simpa [rdOf] using hRk
      by_cases hks : k < s.size
      · have ih : ∀ x8', x8'.length = s.size + 1 → (∀ j, j ≤ s.size → x8'.getD j false = if j ≤ k + 1 then testF s R f j else false) → Ev (fun q => rowF s q x8' its idx R ((k + 1 : Nat) : Int) x) r := fun x8' h h' => own_tst hs hx0 hone hR hidx H d (k + 1) x8' (by omega) h h'
        refine Ev.step (f := fun q => (oneF q x (bt s k)).bind fun t => if t = true then rowF s q (x8.set (k + 1) true) its idx R ((k + 1 : Nat) : Int) x else rowF s q x8 its idx R ((k + 1 : Nat) : Int) x) (fun q => ?_) (Ev.bind (hone _) ?_)
        · simp only [rowF, pat_matched.l1, oneF]
          rw [if_pos (by omega), if_pos (by omega), if_pos (by omega), if_neg hx0, if_pos hRk', if_pos (by omega), w64_1 _ (by omega)]
          congr 1
          funext t
          by_cases ht : t = true
          · rw [if_pos ht, if_pos ht, if_pos (by omega), if_pos (by omega), Int.toNat_natCast]
          · rw [if_neg ht, if_neg ht]
        · cases hf : f (bt s k) with
          | true =>
            refine Ev.congr (f := fun q => rowF s q (x8.set (k + 1) true) its idx R ((k + 1 : Nat) : Int) x) (fun q => if_pos rfl) (ih _ (by simpa using h8) fun j hj => ?_)
            rw [set_getD (by omega), hx j hj]
            by_cases h1 : j = k + 1
            · subst h1
              rw [if_pos rfl, if_pos (by omega)]
              show true = (R.getD k false && f (bt s k))
              rw [hRk, hf]; rfl
            · rw [if_neg h1]
              by_cases h2 : j ≤ k
              · rw [if_pos h2, if_pos (by omega)]
              · rw [if_neg h2, if_neg (by omega)]
          | false =>
            refine Ev.congr (f := fun q => rowF s q x8 its idx R ((k + 1 : Nat) : Int) x) (fun q => if_neg (by simp)) (ih _ h8 fun j hj => ?_)
            rw [hx j hj]
            by_cases h1 : j ≤ k
            · rw [if_pos h1, if_pos (by omega)]
            · rw [if_neg h1]
              by_cases h2 : j ≤ k + 1
              · rw [if_pos h2]
                obtain rfl : j = k + 1 := by omega
                show false = (R.getD k false && f (bt s k))
                rw [hf, Bool.and_false]
              · rw [if_neg h2]
      · have ih := own_tst hs hx0 hone hR hidx H d (k + 1) x8 (by omega) h8 fun j hj => by
          rw [hx j hj, if_pos (by omega), if_pos (by omega)]
        refine Ev.step (fun q => ?_) ih
        simp only [rowF, pat_matched.l1]
        rw [if_pos (by omega), if_pos (by omega), if_pos (by omega), if_neg hx0, if_pos hRk', if_neg (by omega), w64_1 _ (by omega)]
theorem own_star (hs : s.size ≤ 1000000) {x : S199} (hx0 : x.f0 = 42) {R : List Bool} (hR : R.length = s.size + 1) {its : List S199} {idx : Nat} (hidx : idx ≤ 1000000000) {r : Bool}
    (H : Ev (fun q => pat_matched.l0 q s (app s R .star) its (its.length : Int) ((idx + 1 : Nat) : Int)) r) : ∀ (d k : Nat) (x8 : List Bool), k + d = s.size + 1 → x8.length = s.size + 1 → (∀ j, j < k → x8.getD j false = starF R j) →
    Ev (fun q => rowF s q x8 its idx R k x) r
  | 0, k, x8, hd, h8, hx => by
    refine Ev.step (fun q => ?_) H
    simp only [rowF, pat_matched.l1]
    rw [if_neg (by omega), w64_1 _ hidx]
    have : x8 = app s R .star := row_ext h8 fun j hj => hx j (by omega)
    rw [this]
  | d + 1, k, x8, hd, h8, hx => by
    have ih := own_star hs hx0 hR hidx H d (k + 1) (x8.set k (starF R k)) (by omega) (by simpa using h8) fun j hj => by
      rw [set_getD (by omega)]
      by_cases h1 : j = k
      · rw [if_pos h1, h1]
      · rw [if_neg h1]; exact hx j (by omega)
    refine Ev.step (fun q => ?_) ih
    simp only [rowF, pat_matched.l1]
    rw [if_pos (by omega), if_pos (by omega), if_pos (by omega), if_pos hx0]
    by_cases hRk : rdOf false R (k : Int) = true
    · have hv : starF R k = true := by
        unfold starF
        rw [List.any_eq_true]
        exact ⟨k, by simp, by simpa [rdOf] using hRk⟩
      rw [if_pos hRk, if_pos (by omega), w64_1 _ (by omega), Int.toNat_natCast, hv]
    · rw [if_neg hRk]
      have hRk' : R.getD k false = false := by simpa [rdOf] using hRk
      cases k with
      | zero =>
        have hv : starF R 0 = false := by simp only [starF]; simpa using hRk'
        rw [if_neg (by omega), if_pos (by omega), hv]
        rw [w64_1 0 (by omega)]
        rfl
      | succ k =>
        have hv : starF R (k + 1) = rdOf false x8 (k : Int) := by
          rw [starF_succ, hRk', Bool.or_false, ← hx k (by omega)]
          simp [rdOf]
        have hw : wrap64 (((k + 1 : Nat) : Int) - 1) = (k : Int) := by unfold wrap64; omega
        rw [if_pos (by omega), hw, if_pos (by omega), if_pos (by omega), if_pos (by omega), w64_1 _ (by omega), Int.toNat_natCast, hv]
theorem own_l0 (hp : p.size ≤ 1000000) (hs : s.size ≤ 1000000) : ∀ (d i : Nat) (R : List Bool) (done : List S199), p.size ≤ i + d → R.length = s.size + 1 → done.length + (itemsS p l d i).length ≤ 1000000 →
    Ev (fun q => pat_matched.l0 q s R (done ++ itemsS p l d i) ((done ++ itemsS p l d i).length : Int) done.length) (goM p l s d i R)
  | 0, i, R, done, hd, hR, hl => by
    refine Ev.step (f := fun _ => some (R.getD s.size false)) (fun q => ?_) (Ev.now _)
    simp only [pat_matched.l0, itemsS, List.append_nil]
    rw [if_neg (by omega), if_pos (by omega), if_pos (by omega)]
    simp [rdOf]
  | d + 1, i, R, done, hd, hR, hl => by
    by_cases hi : i < p.size
    · have hlt := stp_lt p l i
      have hgo : goM p l s (d + 1) i R = goM p l s d (stp p l i).2 (app s R (stp p l i).1) := by
        conv => lhs; unfold goM
        rw [if_pos hi]
      have his : itemsS p l (d + 1) i = itm p l i :: itemsS p l d (stp p l i).2 := by
        conv => lhs; unfold itemsS
        rw [if_pos hi]
      rw [his] at hl ⊢
      rw [List.length_cons] at hl
      rw [hgo]
      have H := own_l0 hp hs d (stp p l i).2 (app s R (stp p l i).1) (done ++ [itm p l i]) (by omega) (app_length s R _) (by simp; omega)
      rw [List.append_assoc, List.singleton_append, show (done ++ [itm p l i]).length = done.length + 1 by simp] at H
      generalize hits : done ++ itm p l i :: itemsS p l d (stp p l i).2 = its at H ⊢
      have hget : rd_T199 its (done.length : Int) = itm p l i := by rw [← hits]; simp [rd_T199, List.getD_eq_getElem?_getD]
      have hlen : done.length < its.length := by rw [← hits]; simp
      refine Ev.step (f := fun q => rowF s q (List.replicate (s.size + 1) false) its done.length R (0 : Nat) (itm p l i)) (fun q => ?_) ?_
      · simp only [pat_matched.l0, rowF]
        rw [if_pos (by omega), if_pos (by omega), if_pos (by omega), w64_1 _ (by omega), if_pos (by omega), if_pos (by omega), Int.toNat_natCast, hget]
        rfl
      · cases hk : (stp p l i).1 with
        | star =>
          have h42 : isC p l i 42 = true := by
            unfold stp at hk
            split at hk
            · assumption
            · split at hk
              · cases hk
              · split at hk <;> cases hk
          rw [hk] at H
          exact own_star s hs ((itm_kind p l i).2 h42) hR (by omega) H (s.size + 1) 0 _ (by omega) (by simp) (fun j hj => absurd hj (by omega))
        | tst f =>
          have h42 : isC p l i 42 = false := by
            cases h : isC p l i 42 with
            | false => rfl
            | true => rw [stp_star p l h] at hk; cases hk
          have hst : stp p l i = (.tst f, (stp p l i).2) := by rw [← hk]
          rw [hk] at H
          refine own_tst s hs (fun h => by rw [(itm_kind p l i).1 h] at h42; cases h42) (fun c => own_one p l hp hst c) hR (by omega) H (s.size + 1) 0 _ (by omega) (by simp) (fun j hj => ?_)
          rw [rep_getD]
          by_cases h0 : j ≤ 0
          · rw [if_pos h0]
            obtain rfl : j = 0 := by omega
            rfl
          · rw [if_neg h0]
    · have hgo : goM p l s (d + 1) i R = R.getD s.size false := by
        conv => lhs; unfold goM
        rw [if_neg hi]
      have his : itemsS p l (d + 1) i = [] := by
        conv => lhs; unfold itemsS
        rw [if_neg hi]
      rw [hgo, his, List.append_nil]
      refine Ev.step (f := fun _ => some (R.getD s.size false)) (fun q => ?_) (Ev.now _)
      simp only [pat_matched.l0]
      rw [if_neg (by omega), if_pos (by omega), if_pos (by omega)]
      simp [rdOf]
theorem itemsS_len : ∀ (d i : Nat), (itemsS p l d i).length ≤ d
  | 0, _ => by simp [itemsS]
  | d + 1, i => by
    unfold itemsS
    split
    · have := itemsS_len d (stp p l i).2
      simp; omega
    · simp
theorem own_match (hp : p.size ≤ 1000000) (hs : s.size ≤ 1000000) : ∃ q, pat_Match.f q p l s = some (matchB p l s) := by
  have H1 := own_items p l hp p.size 0 [] (by omega) (by omega) (by simp)
  have hlen := itemsS_len p l p.size 0
  have H2 := own_l0 p l s hp hs p.size 0 (rowOf s.size fun j => j == 0) [] (by omega) (rowOf_length _ _) (by simp; omega)
  rw [List.nil_append] at H1 H2
  have H3 : Ev (fun q => pat_matched.f q (itemsS p l p.size 0) s) (matchB p l s) := by
    refine Ev.congr (fun q => ?_) H2
    unfold pat_matched.f
    rw [w64_1 _ (by omega), if_pos (by omega), if_pos (by omega), Int.toNat_natCast]
    simp only [Option.bind_some]
    rw [if_pos (by simp), show (0 : Int).toNat = 0 from rfl]
    have : (List.replicate (s.size + 1) false).set 0 true = rowOf s.size fun j => j == 0 := row_ext (by simp) fun j hj => by
      rw [set_getD (by simp), rep_getD]
      by_cases h : j = 0 <;> simp [h]
    rw [this]
    rfl
  have H4 : Ev (fun q => pat_Match.f q p l s) (matchB p l s) := by
    unfold pat_Match.f
    refine Ev.bind (g := fun q => pat_items.f q p l) (a := itemsS p l p.size 0) H1 ?_
    exact Ev.bind (f := fun _ t => some t) H3 (Ev.now _)
  exact H4.rounds
end
end Go.Proofs.Ytfdjbjinomfgiaa
