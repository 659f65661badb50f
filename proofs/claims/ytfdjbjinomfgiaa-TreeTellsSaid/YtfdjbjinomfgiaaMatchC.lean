/- Patterns: the program's own match comes to matchB. -/
import Derived.Test.YtfdjbjinomfgiaaMatchB
namespace Go.Proofs.Ytfdjbjinomfgiaa
open Go.RowKit Go.Proofs.YtfdjbjinomfgiaaW.PrintWords Go.Proofs.YtfdjbjinomfgiaaW.PrintLast Go.Proofs.YtfdjbjinomfgiaaW.PrintMore GrTree

theorem bt_extract (p : ByteArray) (a b j : Nat) (hb : b ≤ p.size) (hj : a + j < b) : bt (p.extract a b) (j : Int) = bt p ((a + j : Nat) : Int) := by
  unfold bt
  have h1 : (j : Int).toNat < (p.extract a b).size := by simp; omega
  have h2 : ((a + j : Nat) : Int).toNat < p.size := by omega
  rw [dif_pos h1, dif_pos h2]
  congr 2
  rw [ByteArray.getElem_extract]
  simp only [Int.toNat_natCast]
theorem extract_size (p : ByteArray) (a b : Nat) (hb : b ≤ p.size) : (p.extract a b).size = b - a := by simp; omega
section
variable (p : ByteArray) (l : List Bool)
theorem own_live (i : Nat) : pat_live.f p l i = some (lv l i) := by
  unfold pat_live.f lv
  by_cases h : (i : Int) < (l.length : Int)
  · rw [if_pos h, if_pos (by omega)]; simp [rdOf]
  · rw [if_neg h, List.getD_eq_getElem?_getD, List.getElem?_eq_none (by omega)]; rfl
def dashes (a e : Nat) : List Bool := (List.range (e - a)).map fun k => lv l (a + k)
theorem dashes_len (a e : Nat) : (dashes l a e).length = e - a := by simp [dashes]
theorem dashes_get (a e j : Nat) (hj : a + j < e) : rdOf false (dashes l a e) (j : Int) = lv l (a + j) := by
  simp [rdOf, dashes, List.getD_eq_getElem?_getD, List.getElem?_map, List.getElem?_range (show j < e - a by omega)]
theorem isC_at {i : Nat} {c : Int} (hi : i < p.size) : isC p l i c = (lv l i && decide (bt p i = c)) := by unfold isC; simp [hi]

/-! ### a row in brackets -/
theorem own_dashes (hp : p.size ≤ 1000000) (at_ a e : Nat) (x0 x1 : Int) (x2 : ByteArray) (x4 x5 : Bool) (he : e < p.size) (hae : a ≤ e) : ∀ (d k : Nat), k + d = e → a ≤ k →
    Ev (fun n => pat_set.l1 n at_ e k p l x0 x1 x2 (dashes l a k) x4 x5) (x0, x1, x2, dashes l a e, x4, x5, wrap64 (wrap64 ((e : Int) + 1) - at_))
  | 0, k, h, hak => by
    obtain rfl : k = e := by omega
    refine Ev.step (fun n => ?_) (Ev.now _)
    simp only [pat_set.l1]
    rw [if_neg (by omega)]
  | d + 1, k, h, hak => by
    refine Ev.step (f := fun n => pat_set.l1 n at_ e ((k + 1 : Nat) : Int) p l x0 x1 x2 (dashes l a (k + 1)) x4 x5) (fun n => ?_) (own_dashes hp at_ a e x0 x1 x2 x4 x5 he hae d (k + 1) (by omega) (by omega))
    simp only [pat_set.l1]
    rw [if_pos (by omega), own_live]
    simp only [Option.bind_some]
    rw [if_pos (by rw [dashes_len]; omega), w64_1 _ (by omega)]
    have : dashes l a k ++ [lv l k] = dashes l a (k + 1) := by
      unfold dashes
      rw [show k + 1 - a = (k - a) + 1 by omega, List.range_succ, List.map_append]
      simp
      congr 1
      omega
    rw [this]
abbrev SetR := Int × Int × ByteArray × List Bool × Bool × Bool × Int
def setOut (at_ a : Nat) (nt : Bool) : Option Nat → SetR
  | some e => (91, 0, p.extract a e, dashes l a e, nt, false, ((e + 1 - at_ : Nat) : Int))
  | none => (0, 0, ⟨#[]⟩, [], false, false, 0)
theorem own_scan (hp : p.size ≤ 1000000) (at_ a : Nat) (nt : Bool) (hat : at_ < a) : ∀ (d k : Nat), k + d = p.size ∨ (p.size ≤ k ∧ d = 0 ∧ k ≤ 1000000000) → a < k →
    Ev (fun n => pat_set.l0 n at_ k a p l 91 0 ⟨#[]⟩ [] nt false) (setOut p l at_ a nt (fe p l d k))
  | 0, k, h, hk => by
    refine Ev.step (fun n => ?_) (Ev.now _)
    simp only [pat_set.l0]
    rw [if_neg (by omega)]
    rfl
  | d + 1, k, h, hk => by
    have hks : k < p.size := by omega
    have h93 := isC_at p l (c := 93) hks
    cases hc : isC p l k 93 with
    | true =>
      rw [hc] at h93
      have h1 : lv l k = true ∧ bt p k = 93 := by simpa using h93.symm
      have hfe : fe p l (d + 1) k = some k := by unfold fe; rw [if_pos hc]
      rw [hfe]
      refine Ev.step (f := fun n => pat_set.j3 n at_ k a true p l 91 0 ⟨#[]⟩ [] nt false) (fun n => ?_) ?_
      · simp only [pat_set.l0]
        rw [if_pos (by omega), if_pos (by omega), if_pos (by omega), if_pos h1.2, own_live]
        simp only [Option.bind_some, h1.1]
      · refine Ev.step (f := fun n => pat_set.l1 n at_ k a p l 91 0 (p.extract a k) [] nt false) (fun n => ?_) ?_
        · simp only [pat_set.j3]
          rw [if_pos trivial, if_pos (by omega), if_pos (by omega), if_pos (by omega), Int.toNat_natCast, Int.toNat_natCast]
        · have := own_dashes p l hp at_ a k 91 0 (p.extract a k) nt false hks (by omega) (k - a) a (by omega) (Nat.le_refl _)
          rw [show dashes l a a = [] by simp [dashes], w64_1 _ (by omega)] at this
          have hw : wrap64 (((k + 1 : Nat) : Int) - at_) = ((k + 1 - at_ : Nat) : Int) := by unfold wrap64; omega
          rw [hw] at this
          exact this
    | false =>
      have hfe : fe p l (d + 1) k = fe p l d (k + 1) := by
        conv => lhs; unfold fe
        rw [if_neg (by simp [hc])]
      rw [hfe]
      refine Ev.step (f := fun n => pat_set.j3 n at_ k a false p l 91 0 ⟨#[]⟩ [] nt false) (fun n => ?_) ?_
      · simp only [pat_set.l0]
        rw [if_pos (by omega), if_pos (by omega), if_pos (by omega)]
        by_cases hb : bt p k = 93
        · rw [if_pos hb, own_live]
          rw [hc] at h93
          have : lv l k = false := by simpa [hb] using h93.symm
          simp only [Option.bind_some, this]
        · rw [if_neg hb]
      · refine Ev.step (f := fun n => pat_set.l0 n at_ ((k + 1 : Nat) : Int) a p l 91 0 ⟨#[]⟩ [] nt false) (fun n => ?_) (own_scan hp at_ a nt hat d (k + 1) (by omega) (by omega))
        simp only [pat_set.j3]
        rw [if_neg (by simp), w64_1 _ (by omega)]
theorem own_set (hp : p.size ≤ 1000000) (i : Nat) (hi : isC p l i 91 = true) : Ev (fun n => pat_set.f n p l i) (setOut p l i (from1 p l i) (isC p l (i + 1) 33) (brk p l i)) := by
  have his : i < p.size := by
    unfold isC at hi
    simp only [Bool.and_eq_true, decide_eq_true_eq] at hi
    exact hi.1
  have hbk : brk p l i = fe p l (p.size - (from1 p l i + 1)) (from1 p l i + 1) := by unfold brk; rw [if_pos hi]
  -- from the first byte of the row on
  have hrow : ∀ a nt, i < a → a ≤ i + 2 → Ev (fun n => pat_set.j1 n i a p l 91 0 ⟨#[]⟩ nt false) (setOut p l i a nt (fe p l (p.size - (a + 1)) (a + 1))) := by
    intro a nt ha ha2
    refine Ev.step (f := fun n => pat_set.l0 n i a a p l 91 0 ⟨#[]⟩ [] nt false) (fun n => by simp only [pat_set.j1]) ?_
    by_cases has : a < p.size
    · refine Ev.step (f := fun n => pat_set.j3 n i a a false p l 91 0 ⟨#[]⟩ [] nt false) (fun n => ?_) ?_
      · simp only [pat_set.l0]
        rw [if_pos (by omega), if_neg (by omega)]
      · refine Ev.step (f := fun n => pat_set.l0 n i ((a + 1 : Nat) : Int) a p l 91 0 ⟨#[]⟩ [] nt false) (fun n => ?_) (own_scan p l hp i a nt ha _ _ (by omega) (by omega))
        simp only [pat_set.j3]
        rw [if_neg (by simp), w64_1 _ (by omega)]
    · have hfe : fe p l (p.size - (a + 1)) (a + 1) = none := by rw [show p.size - (a + 1) = 0 by omega]; rfl
      rw [hfe]
      refine Ev.step (fun n => ?_) (Ev.now _)
      simp only [pat_set.l0]
      rw [if_neg (by omega)]
      rfl
  have hj0 : Ev (fun n => pat_set.j0 n i ((i + 1 : Nat) : Int) (isC p l (i + 1) 33) p l 91 0 ⟨#[]⟩ false false) (setOut p l i (from1 p l i) (isC p l (i + 1) 33) (brk p l i)) := by
    rw [hbk]
    cases h3 : isC p l (i + 1) 33 with
    | true =>
      have hf : from1 p l i = i + 2 := by unfold from1; rw [if_pos h3]
      rw [hf]
      refine Ev.step (f := fun n => pat_set.j1 n i ((i + 2 : Nat) : Int) p l 91 0 ⟨#[]⟩ true false) (fun n => ?_) (hrow (i + 2) true (by omega) (by omega))
      simp only [pat_set.j0]
      rw [if_pos trivial, w64_1 _ (by omega)]
    | false =>
      have hf : from1 p l i = i + 1 := by unfold from1; rw [if_neg (by simp [h3])]
      rw [hf]
      refine Ev.step (f := fun n => pat_set.j1 n i ((i + 1 : Nat) : Int) p l 91 0 ⟨#[]⟩ false false) (fun n => ?_) (hrow (i + 1) false (by omega) (by omega))
      simp only [pat_set.j0]
      rw [if_neg (by simp)]
  refine Ev.congr (fun n => ?_) hj0
  unfold pat_set.f
  rw [w64_1 _ (by omega)]
  by_cases h1 : i + 1 < p.size
  · rw [if_pos (by omega), if_pos (by omega)]
    have h33 := isC_at p l (c := 33) h1
    by_cases hb : bt p ((i + 1 : Nat) : Int) = 33
    · rw [if_pos hb, own_live]
      have : lv l (i + 1) = isC p l (i + 1) 33 := by rw [h33]; simp only [hb, decide_true, Bool.and_true]
      simp only [Option.bind_some, this]
    · rw [if_neg hb]
      have : isC p l (i + 1) 33 = false := by rw [h33]; simp only [hb, decide_false, Bool.and_false]
      rw [this]
  · rw [if_neg (by omega)]
    have : isC p l (i + 1) 33 = false := by unfold isC; simp [h1]
    rw [this]

/-! ### the steps -/
def litI (i : Nat) : S199 := ⟨0, bt p i, ⟨#[]⟩, [], false, true⟩
def itm (i : Nat) : S199 :=
  if isC p l i 42 then ⟨42, 0, ⟨#[]⟩, [], false, false⟩
  else if isC p l i 63 then ⟨63, 0, ⟨#[]⟩, [], false, false⟩
  else match brk p l i with
    | some e => ⟨91, 0, p.extract (from1 p l i) e, dashes l (from1 p l i) e, isC p l (i + 1) 33, false⟩
    | none => litI p i
def itemsS : Nat → Nat → List S199
  | 0, _ => []
  | d + 1, i => if i < p.size then itm p l i :: itemsS d (stp p l i).2 else []
theorem own_items (hp : p.size ≤ 1000000) : ∀ (d i : Nat) (acc : List S199), p.size ≤ i + d → i ≤ 1000000000 → acc.length ≤ i → Ev (fun n => pat_items.l0 n acc i p l) (acc ++ itemsS p l d i)
  | 0, i, acc, hd, _, _ => by
    refine Ev.step (f := fun _ => some acc) (fun n => ?_) (by simp only [itemsS, List.append_nil]; exact Ev.now _)
    simp only [pat_items.l0]
    rw [if_neg (by omega)]
  | d + 1, i, acc, hd, hi9, ha => by
    by_cases hi : i < p.size
    · have hlt := stp_lt p l i
      have hgo : itemsS p l (d + 1) i = itm p l i :: itemsS p l d (stp p l i).2 := by
        conv => lhs; unfold itemsS
        rw [if_pos hi]
      have hnx : (stp p l i).2 ≤ 1000000000 := by
        unfold stp
        split
        · simp; omega
        · split
          · simp; omega
          · split
            · rename_i e he
              have := brk_lt p l he
              simp; omega
            · simp; omega
      have H := own_items hp d (stp p l i).2 (acc ++ [itm p l i]) (by omega) hnx (by simp; omega)
      rw [List.append_assoc, List.singleton_append, ← hgo] at H
      have hlen : acc.length < 2513169434916 := by omega
      by_cases hlv : lv l i = true
      · -- a live byte
        have h42 := isC_at p l (c := 42) hi
        have h63 := isC_at p l (c := 63) hi
        have h91 := isC_at p l (c := 91) hi
        rw [hlv, Bool.true_and] at h42 h63 h91
        have hj : Ev (fun n => pat_items.j1 n acc i (bt p i) 1 (bt p i) (if bt p i = 42 then bt p i == 42 else bt p i == 63) p l 0 (bt p i) ⟨#[]⟩ false true) (acc ++ itemsS p l (d + 1) i) := by
          by_cases c42 : bt p i = 42
          · have h := h42; rw [c42] at h; simp only [decide_true] at h
            have hs : (stp p l i).2 = i + 1 := by rw [stp_star p l h]
            have hit : itm p l i = ⟨42, 0, ⟨#[]⟩, [], false, false⟩ := by unfold itm; rw [if_pos h]
            rw [hs, hit] at H
            refine Ev.step (fun n => ?_) H
            simp only [pat_items.j1, c42, if_true]
            rw [if_pos (by rfl), if_pos hlen]
            have := w64_1 i (by omega)
            rw [this]
          · rw [if_neg c42]
            have n42 : isC p l i 42 = false := by rw [h42]; simp [c42]
            by_cases c63 : bt p i = 63
            · have h := h63; rw [c63] at h; simp only [decide_true] at h
              have hs : (stp p l i).2 = i + 1 := by unfold stp; rw [if_neg (by simp [n42]), if_pos h]
              have hit : itm p l i = ⟨63, 0, ⟨#[]⟩, [], false, false⟩ := by unfold itm; rw [if_neg (by simp [n42]), if_pos h]
              rw [hs, hit] at H
              refine Ev.step (fun n => ?_) H
              simp only [pat_items.j1, c63]
              rw [if_pos (by rfl), if_pos hlen]
              have := w64_1 i (by omega)
              rw [this]
            · have n63 : isC p l i 63 = false := by rw [h63]; simp [c63]
              have hb63 : (bt p i == 63) = false := beq_eq_false_iff_ne.2 c63
              rw [hb63]
              by_cases c91 : bt p i = 91
              · have h := h91; rw [c91] at h; simp only [decide_true] at h
                refine Ev.step (f := fun n => (pat_set.f n p l i).bind fun r => if r.2.2.2.2.2.2 > 0 then (if acc.length < 2513169434916 then pat_items.l0 n (acc ++ [(⟨r.1, r.2.1, r.2.2.1, r.2.2.2.1, r.2.2.2.2.1, r.2.2.2.2.2.1⟩ : S199)]) (wrap64 (i + r.2.2.2.2.2.2)) p l else none) else (if acc.length < 2513169434916 then pat_items.l0 n (acc ++ [(⟨0, bt p i, ⟨#[]⟩, [], false, true⟩ : S199)]) (wrap64 ((i : Int) + 1)) p l else none)) (fun n => ?_) (Ev.bind (own_set p l hp i h) ?_)
                · simp only [pat_items.j1]
                  rw [if_neg (by simp), if_pos c91]
                · cases hb : brk p l i with
                  | none =>
                    have hs : (stp p l i).2 = i + 1 := by unfold stp; rw [if_neg (by simp [n42]), if_neg (by simp [n63]), hb]
                    have hit : itm p l i = litI p i := by unfold itm; rw [if_neg (by simp [n42]), if_neg (by simp [n63]), hb]
                    rw [hs, hit] at H
                    refine Ev.congr (fun n => ?_) H
                    show (if (0 : Int) > 0 then _ else (if acc.length < 2513169434916 then pat_items.l0 n (acc ++ [(⟨0, bt p i, ⟨#[]⟩, [], false, true⟩ : S199)]) (wrap64 ((i : Int) + 1)) p l else none)) = _
                    rw [if_neg (by omega), if_pos hlen, w64_1 _ (by omega)]
                    rfl
                  | some e =>
                    have hlt2 := brk_lt p l hb
                    have hs : (stp p l i).2 = e + 1 := by unfold stp; rw [if_neg (by simp [n42]), if_neg (by simp [n63]), hb]
                    have hit : itm p l i = ⟨91, 0, p.extract (from1 p l i) e, dashes l (from1 p l i) e, isC p l (i + 1) 33, false⟩ := by unfold itm; rw [if_neg (by simp [n42]), if_neg (by simp [n63]), hb]
                    rw [hs, hit] at H
                    have hw : wrap64 ((i : Int) + ((e + 1 - i : Nat) : Int)) = ((e + 1 : Nat) : Int) := by unfold wrap64; omega
                    refine Ev.congr (fun n => ?_) H
                    show (if ((e + 1 - i : Nat) : Int) > 0 then (if acc.length < 2513169434916 then pat_items.l0 n (acc ++ [(⟨91, 0, p.extract (from1 p l i) e, dashes l (from1 p l i) e, isC p l (i + 1) 33, false⟩ : S199)]) (wrap64 ((i : Int) + ((e + 1 - i : Nat) : Int))) p l else none) else _) = _
                    rw [if_pos (by omega), if_pos hlen, hw]
              · have n91 : isC p l i 91 = false := by rw [h91]; simp [c91]
                have hb := brk_none p l n91
                have hs : (stp p l i).2 = i + 1 := by unfold stp; rw [if_neg (by simp [n42]), if_neg (by simp [n63]), hb]
                have hit : itm p l i = litI p i := by unfold itm; rw [if_neg (by simp [n42]), if_neg (by simp [n63]), hb]
                rw [hs, hit] at H
                refine Ev.step (fun n => ?_) H
                simp only [pat_items.j1]
                rw [if_neg (by simp), if_neg c91, if_pos hlen, w64_1 _ (by omega)]
                rfl
        refine Ev.step (fun n => ?_) hj
        simp only [pat_items.l0]
        rw [if_pos (by omega), if_pos (by omega), own_live]
        simp only [Option.bind_some, hlv, if_true]
        by_cases c42 : bt p i = 42
        · rw [if_pos c42, if_pos c42]
        · rw [if_neg c42, if_neg c42]
      · have hlv' : lv l i = false := by simpa using hlv
        have n (c : Int) : isC p l i c = false := by rw [isC_at p l hi, hlv']; rfl
        have hb := brk_none p l (n 91)
        have hs : (stp p l i).2 = i + 1 := by unfold stp; rw [if_neg (by simp [n]), if_neg (by simp [n]), hb]
        have hit : itm p l i = litI p i := by unfold itm; rw [if_neg (by simp [n]), if_neg (by simp [n]), hb]
        rw [hs, hit] at H
        refine Ev.step (fun n => ?_) H
        simp only [pat_items.l0]
        rw [if_pos (by omega), if_pos (by omega), own_live]
        simp only [Option.bind_some, hlv', Bool.false_eq_true, if_false]
        rw [if_pos hlen, w64_1 _ (by omega)]
        rfl
    · have hgo : itemsS p l (d + 1) i = [] := by
        conv => lhs; unfold itemsS
        rw [if_neg hi]
      rw [hgo, List.append_nil]
      refine Ev.step (fun n => ?_) (Ev.now _)
      simp only [pat_items.l0]
      rw [if_neg (by omega)]
end
end Go.Proofs.Ytfdjbjinomfgiaa
