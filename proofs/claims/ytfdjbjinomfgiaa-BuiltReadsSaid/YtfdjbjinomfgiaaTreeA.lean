/- Files: what a tree is in memory; ok, Has, Make. -/
import Derived.Test.YtfdjbjinomfgiaaKit
import Derived.Test.YtfdjbjinomfgiaaShelf
import Derived.Test.YtfdjbjinomfgiaaKeys
namespace Go.Proofs.Ytfdjbjinomfgiaa
open Go.RowKit Go.Proofs.YtfdjbjinomfgiaaW.PrintWords Go.Proofs.YtfdjbjinomfgiaaW.PrintLast Go.Proofs.YtfdjbjinomfgiaaW.PrintMore

def encOne {H : Type} : Unit → DataW H := fun _ => .lit (.int .i64 1)
abbrev Names := List (ByteArray × Unit)
theorem law9 : Maps.Keyed Try.prog 9 := Maps.string_keyed Try.underlying9
theorem zero_int (w : World) : (zeroValue 3).run Try.prog w = .ok (.int .i64 0) w := by kernel_rfl

theorem owns_exact {H : Type} {P : Program} {k : TypeId} {R : Value → Option (DataW H × List MemPlace)} {w : World} {b n : Nat} {D : DataW H} (h : w.ownsMap P k R b n D) : w.ownsMap P k R b (Maps.size D) D := by
  obtain ⟨es, clock, hb, F, _, rfl⟩ := h
  exact ⟨es, clock, hb, F, by simp [Maps.size, length_sorted], rfl⟩
/-- What a tree is in memory. -/
structure TreeIs (w : World) (g m : Nat) (L : Names) : Prop where
  box : w.heap[g]? = some (.cells #[.map (some m)] 129 (0, 0))
  map : w.ownsMap Try.prog 9 (plainElem (H := Unit) Try.prog 3) m L.length (tab encOne L)
  rising : Rising L

/-- May a text be a file's name? -/
def hasB (s : ByteArray) (c : UInt8) : Bool := decide (c ∈ s.data.toList)
def fileOkB (s : ByteArray) : Bool := decide (1 ≤ s.size) && decide (s.size ≤ 100) && !hasB s 0 && !hasB s 47
theorem indexByte_neg (c : UInt8) : ∀ l : List UInt8, decide (Lib.indexByte l c < 0) = !decide (c ∈ l)
  | [] => by simp [Lib.indexByte]
  | b :: l => by
    have ih := indexByte_neg c l
    have hge := Lib.indexByte_ge l c
    unfold Lib.indexByte
    by_cases hb : b = c
    · subst hb; simp
    · have hb' : (b == c) = false := by simpa using hb
      rw [hb', if_neg (by simp)]
      have hm : decide (c ∈ b :: l) = decide (c ∈ l) := by simp [Ne.symm hb]
      rw [hm, ← ih]
      by_cases h1 : Lib.indexByte l c = -1
      · rw [h1]; simp
      · rw [if_neg (by simpa using h1)]
        simp; omega
theorem fileOkB_eq (s : ByteArray) : fileOkB s = (decide (1 ≤ (s.size : Int)) && decide ((s.size : Int) ≤ 100) && decide (Lib.indexByte s.data.toList 0 < 0) && decide (Lib.indexByte s.data.toList 47 < 0)) := by
  unfold fileOkB hasB
  rw [indexByte_neg, indexByte_neg]
  congr 3
  · simp; omega
  · simp; omega
theorem ret_bool {a b : Bool} (h : a = b) : Ending.returned (.bool a) = .returned (.bool b) := by rw [h]
set_option maxHeartbeats 400000 in
theorem tree_ok (s : ByteArray) (b : Bool) (hb : fileOkB s = b) (w : World) :
    Calls Try.prog 96 #[.string s] w fun e w' => e = .returned (.bool b) ∧ w' = w := by
  subst hb
  have K := Aside0.mk (fileOkB_eq s)
  go_enter Try.func96, Try.ntmps96
  go_wp2_with (go_at_call 83; refine (Try.strings_IndexByte _ _ _).mono ?_; rintro e w' ⟨rfl, rfl⟩)
  all_goals
    go_ret
    refine ⟨ret_bool ?_, rfl⟩
    rw [K.out]
    simp [*] <;> omega

-- Is the name there?
set_option maxHeartbeats 400000 in
theorem tree_Has (g m : Nat) (L : Names) (s : ByteArray) (b : Bool) (w : World) (hs : s.size ≤ maxLen) (ht : TreeIs w g m L) (hb : (tget L s).isSome = b) :
    Calls Try.prog 35 #[.pointer (some ⟨g, 0, none⟩), .string s] w fun e w' => e = .returned (.bool b) ∧ w' = w := by
  subst hb
  obtain ⟨hbox, hm, hr⟩ := ht
  have hg : w.cell? ⟨g, 0, none⟩ = some (.map (some m)) := by simp [World.cell?, hbox]
  have hb := Aside0.mk hbox
  clear hbox
  go_enter Try.func35, Try.ntmps35
  go_wp2_with (at_lookup; refine wpList_lookup_own_int _ rfl _ _ 127 rfl 9 3 .i64 law9 Try.underlying127 Try.underlying3 (zero_int _) m _ (tab encOne L) rfl hm _ _ rfl (WideMaps.keyOf_string_mk Try.underlying9 hs) ?_; intro c hat hwc)
  go_ret
  refine ⟨ret_bool ?_, rfl⟩
  rw [tab_atKey] at hat
  cases hx : tget L s with
  | none => rw [hx] at hat; simp at hat; subst hat; rfl
  | some u => rw [hx] at hat; simp [encOne] at hat; subst hat; rfl

/-- What Make leaves. -/
def makeF (L : Names) (s : ByteArray) : Bool × Names :=
  if !fileOkB s || (!(tget L s).isSome && decide (200 ≤ L.length)) then (false, L) else (true, tput L s ())
set_option maxHeartbeats 400000 in
set_option maxRecDepth 100000 in
theorem tree_Make (g m : Nat) (L : Names) (s : ByteArray) (w : World) (hs : s.size ≤ maxLen) (hL : L.length ≤ 100000) (ht : TreeIs w g m L) :
    Calls Try.prog 37 #[.pointer (some ⟨g, 0, none⟩), .string s] w fun e w' => e = .returned (.bool (makeF L s).1) ∧ TreeIs w' g m (makeF L s).2 ∧ Chg (fun k => k = m) w w' := by
  have ht0 := Aside0.mk ht
  obtain ⟨hbox, hm, hr⟩ := ht
  have hg : w.cell? ⟨g, 0, none⟩ = some (.map (some m)) := by simp [World.cell?, hbox]
  have hb := Aside0.mk hbox
  clear hbox
  have hn0 : Aside0 (L.length < maxLen) := ⟨by unfold maxLen; omega⟩
  have hs0 := Aside0.mk hs
  have hL0 := Aside0.mk hL
  clear hs hL
  have hlen := fun ty => hm.len Try.underlying127 ty
  rw [tab_size] at hlen
  obtain ⟨b1, hb1⟩ : ∃ b, fileOkB s = b := ⟨_, rfl⟩
  obtain ⟨b2, hb2⟩ : ∃ b, (tget L s).isSome = b := ⟨_, rfl⟩
  have H1 := Aside0.mk hb1
  have H2 := Aside0.mk hb2
  obtain ⟨R, hR⟩ : ∃ R, makeF L s = R := ⟨_, rfl⟩
  have HR := Aside0.mk hR
  rw [hR]
  clear hb1 hb2 hR
  cases b1 with
  | false =>
    go_enter Try.func37, Try.ntmps37
    go_wp2_with (go_at_call 96; refine (tree_ok s false H1.out _).mono ?_; rintro e w' ⟨rfl, rfl⟩)
    go_ret
    have := HR.out
    simp [makeF, H1.out] at this
    subst this
    exact ⟨rfl, ht0.out, Chg.refl _ _⟩
  | true =>
    cases b2 with
    | true =>
      go_enter Try.func37, Try.ntmps37
      go_wp2_with (first
        | (go_at_call 96; refine (tree_ok s true H1.out _).mono ?_; rintro e w' ⟨rfl, rfl⟩)
        | (go_at_call 35; refine (tree_Has g m L s true _ hs0.out ht0.out H2.out).mono ?_; rintro e w' ⟨rfl, rfl⟩)
        | (at_mapUpdate; refine wpList_mapUpdate_in _ rfl _ _ _ 127 rfl 9 3 law9 Try.underlying127 (plainElem (H := Unit) Try.prog 3) m _ (tab encOne L) rfl hm hn0.out _ _ (.string s.data.toList) rfl rfl (WideMaps.keyOf_string_mk Try.underlying9 hs0.out) (.lit (.int .i64 1)) [] (plainElem_int Try.underlying3 (by decide)) ?_; intro w1 hown1 hturn1))
      have hbm : g ≠ m := fun e => by
        subst e
        obtain ⟨es, clock, hx, _⟩ := hm
        rw [hb.out] at hx
        cases hx
      have hturn1_box := (Chg.turned (Chg.refl (fun k => k = m) _) hturn1 (.inl rfl)).blk hb.out hbm
      go_ret
      have := HR.out
      simp [makeF, H1.out, H2.out] at this
      subst this
      refine ⟨rfl, ⟨hturn1_box, ?_, tput_rising hr s ()⟩, (Chg.refl _ _).turned hturn1 (.inl rfl)⟩
      have h := owns_exact hown1
      rw [show (DataW.lit (.int .i64 1) : DataW Unit) = encOne () from rfl, tab_put, tab_size] at h
      exact h
    | false =>
      by_cases h200 : 200 ≤ L.length
      · have h200' : (200 : Int) ≤ (L.length : Int) := by omega
        go_enter Try.func37, Try.ntmps37
        go_wp2_with (first
          | (go_at_call 96; refine (tree_ok s true H1.out _).mono ?_; rintro e w' ⟨rfl, rfl⟩)
          | (go_at_call 35; refine (tree_Has g m L s false _ hs0.out ht0.out H2.out).mono ?_; rintro e w' ⟨rfl, rfl⟩))
        go_ret
        have := HR.out
        simp [makeF, H1.out, H2.out, h200] at this
        subst this
        exact ⟨rfl, ht0.out, Chg.refl _ _⟩
      · have h200' : (L.length : Int) < 200 := by omega
        have H200 := Aside0.mk h200
        clear h200
        go_enter Try.func37, Try.ntmps37
        go_wp2_with (first
          | (go_at_call 96; refine (tree_ok s true H1.out _).mono ?_; rintro e w' ⟨rfl, rfl⟩)
          | (go_at_call 35; refine (tree_Has g m L s false _ hs0.out ht0.out H2.out).mono ?_; rintro e w' ⟨rfl, rfl⟩)
          | (at_mapUpdate; refine wpList_mapUpdate_in _ rfl _ _ _ 127 rfl 9 3 law9 Try.underlying127 (plainElem (H := Unit) Try.prog 3) m _ (tab encOne L) rfl hm hn0.out _ _ (.string s.data.toList) rfl rfl (WideMaps.keyOf_string_mk Try.underlying9 hs0.out) (.lit (.int .i64 1)) [] (plainElem_int Try.underlying3 (by decide)) ?_; intro w1 hown1 hturn1))
        have hbm : g ≠ m := fun e => by
          subst e
          obtain ⟨es, clock, hx, _⟩ := hm
          rw [hb.out] at hx
          cases hx
        have hturn1_box := (Chg.turned (Chg.refl (fun k => k = m) _) hturn1 (.inl rfl)).blk hb.out hbm
        go_ret
        have := HR.out
        simp [makeF, H1.out, H2.out, H200.out] at this
        subst this
        refine ⟨rfl, ⟨hturn1_box, ?_, tput_rising hr s ()⟩, (Chg.refl _ _).turned hturn1 (.inl rfl)⟩
        have h := owns_exact hown1
        rw [show (DataW.lit (.int .i64 1) : DataW Unit) = encOne () from rfl, tab_put, tab_size] at h
        exact h
end Go.Proofs.Ytfdjbjinomfgiaa
