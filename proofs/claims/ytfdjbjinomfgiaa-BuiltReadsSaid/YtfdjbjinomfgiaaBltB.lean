/- What a shell does itself: names of builtins; a name and a value in one word. -/
import Derived.Test.YtfdjbjinomfgiaaBltA
namespace Go.Proofs.Ytfdjbjinomfgiaa
open Go.RowKit Go.Maps Go.Proofs.YtfdjbjinomfgiaaW.PrintWords Go.Proofs.YtfdjbjinomfgiaaW.PrintLast Go.Proofs.YtfdjbjinomfgiaaW.PrintMore
set_option linter.unusedSimpArgs false
set_option linter.unusedVariables false

def isL : List ByteArray := [⟨#[58]⟩, ⟨#[116, 114, 117, 101]⟩, ⟨#[102, 97, 108, 115, 101]⟩, ⟨#[101, 99, 104, 111]⟩, ⟨#[101, 120, 112, 111, 114, 116]⟩, ⟨#[117, 110, 115, 101, 116]⟩, ⟨#[114, 101, 97, 100]⟩, ⟨#[115, 101, 116]⟩, ⟨#[115, 104, 105, 102, 116]⟩, ⟨#[98, 114, 101, 97, 107]⟩, ⟨#[99, 111, 110, 116, 105, 110, 117, 101]⟩, ⟨#[114, 101, 116, 117, 114, 110]⟩, ⟨#[101, 120, 105, 116]⟩]
def refL : List ByteArray := [⟨#[46]⟩, ⟨#[97, 108, 105, 97, 115]⟩, ⟨#[98, 103]⟩, ⟨#[99, 100]⟩, ⟨#[99, 111, 109, 109, 97, 110, 100]⟩, ⟨#[101, 118, 97, 108]⟩, ⟨#[101, 120, 101, 99]⟩, ⟨#[102, 103]⟩, ⟨#[103, 101, 116, 111, 112, 116, 115]⟩, ⟨#[106, 111, 98, 115]⟩, ⟨#[114, 101, 97, 100, 111, 110, 108, 121]⟩, ⟨#[116, 105, 109, 101, 115]⟩, ⟨#[116, 114, 97, 112]⟩, ⟨#[117, 109, 97, 115, 107]⟩, ⟨#[117, 110, 97, 108, 105, 97, 115]⟩, ⟨#[119, 97, 105, 116]⟩]
def forL : List ByteArray := [⟨#[91, 91]⟩, ⟨#[102, 117, 110, 99, 116, 105, 111, 110]⟩, ⟨#[108, 111, 99, 97, 108]⟩, ⟨#[115, 111, 117, 114, 99, 101]⟩, ⟨#[115, 101, 108, 101, 99, 116]⟩, ⟨#[100, 101, 99, 108, 97, 114, 101]⟩, ⟨#[116, 121, 112, 101, 115, 101, 116]⟩, ⟨#[108, 101, 116]⟩]
theorem contains_calls (b c : Nat) (xs : List ByteArray) (x : ByteArray) (r : Bool) (w : World) (hC : Kd.C Kd.string w (some ⟨b, 0, none⟩) xs.length xs) (hr : Lib.containsS xs x = r) :
    Calls Try.prog 121 #[.slice (some ⟨b, 0, none⟩) xs.length c, .string x] w fun e w' => e = .returned (.bool r) ∧ w' = w := by
  refine (Try.slices_Contains_string b 0 xs.length c xs x w (Nat.le_refl _) hC.2.1 (fun j hj => ?_)).mono ?_
  · obtain ⟨ad, e, hx⟩ := str_at hC hj
    injection e with e
    subst e
    rw [add_plain] at hx
    simpa using hx
  · rintro e w' ⟨rfl, rfl⟩
    refine ⟨e_ret_bool ?_, rfl⟩
    rw [← hr, List.take_length]
set_option maxHeartbeats 1000000 in
set_option maxRecDepth 100000 in
theorem built_Is (s : ByteArray) (b : Bool) (w : World) (hb : Lib.containsS isL s = b) :
    Calls Try.prog 60 #[.string s] w fun e w' => e = .returned (.bool b) ∧ Below w.heap.size w w' := by
  have HB := Aside0.mk hb
  have HC := Aside0.mk (lit_rowC w isL 9 (by decide))
  clear hb
  go_enter Try.func60, Try.ntmps60
  go_wp2_with fail
  refine (contains_calls w.heap.size 13 isL s b _ HC.out HB.out).mono ?_
  rintro e w1 ⟨rfl, hw⟩
  have HW := Aside0.mk hw
  clear hw
  go_wp2
  go_ret
  rw [HW.out]
  exact ⟨rfl, (Below.refl _ _).alloc (Nat.le_refl _) _⟩
set_option maxHeartbeats 1000000 in
set_option maxRecDepth 100000 in
theorem built_Refused (s : ByteArray) (b : Bool) (w : World) (hb : Lib.containsS refL s = b) :
    Calls Try.prog 61 #[.string s] w fun e w' => e = .returned (.bool b) ∧ Below w.heap.size w w' := by
  have HB := Aside0.mk hb
  have HC := Aside0.mk (lit_rowC w refL 9 (by decide))
  clear hb
  go_enter Try.func61, Try.ntmps61
  go_wp2_with fail
  refine (contains_calls w.heap.size 16 refL s b _ HC.out HB.out).mono ?_
  rintro e w1 ⟨rfl, hw⟩
  have HW := Aside0.mk hw
  clear hw
  go_wp2
  go_ret
  rw [HW.out]
  exact ⟨rfl, (Below.refl _ _).alloc (Nat.le_refl _) _⟩
set_option maxHeartbeats 1000000 in
set_option maxRecDepth 100000 in
theorem built_Foreign (s : ByteArray) (b : Bool) (w : World) (hb : Lib.containsS forL s = b) :
    Calls Try.prog 62 #[.string s] w fun e w' => e = .returned (.bool b) ∧ Below w.heap.size w w' := by
  have HB := Aside0.mk hb
  have HC := Aside0.mk (lit_rowC w forL 9 (by decide))
  clear hb
  go_enter Try.func62, Try.ntmps62
  go_wp2_with fail
  refine (contains_calls w.heap.size 8 forL s b _ HC.out HB.out).mono ?_
  rintro e w1 ⟨rfl, hw⟩
  have HW := Aside0.mk hw
  clear hw
  go_wp2
  go_ret
  rw [HW.out]
  exact ⟨rfl, (Below.refl _ _).alloc (Nat.le_refl _) _⟩

/-- A text as a name and a value. -/
def subB (s : ByteArray) (a b : Nat) : ByteArray := s.extract a b
def assignF (s : ByteArray) : ByteArray × ByteArray × Bool :=
  if nlen s.data.toList ≠ 0 ∧ Lib.hasPrefix (s.extract (nlen s.data.toList) s.size).data.toList [61] = true then (s.extract 0 (nlen s.data.toList), s.extract (nlen s.data.toList + 1) s.size, true) else (⟨#[]⟩, ⟨#[]⟩, false)
set_option maxHeartbeats 1000000 in
set_option maxRecDepth 100000 in
theorem built_Assign (s : ByteArray) (nm v : ByteArray) (ok : Bool) (w : World) (hs : s.size ≤ 1000000) (hf : assignF s = (nm, v, ok)) :
    Calls Try.prog 126 #[.string s] w fun e w' => e = .returned (.tuple #[.string nm, .string v, .bool ok]) ∧ Drawn0 w w' := by
  have HF := Aside0.mk hf
  have HS := Aside0.mk hs
  have hle : nlen s.data.toList ≤ s.size := nlen_le s.data.toList
  obtain ⟨n, hn⟩ : ∃ n, nlen s.data.toList = n := ⟨_, rfl⟩
  rw [hn] at hle
  have HN := Aside0.mk hn
  have hle' : (n : Int) ≤ (s.size : Int) := by omega
  have hs' : (s.size : Int) ≤ 1000000 := by omega
  clear hf hs hle hn
  go_enter Try.func126, Try.ntmps126
  go_wp2_with fail
  refine (text_NameLen_calls s HS.out n HN.out _).mono ?_
  rintro e w1 ⟨rfl, hd⟩
  have HD := Aside0.mk hd
  clear hd
  by_cases h0 : n = 0
  · subst h0
    go_wp2_with fail
    go_ret3
    have hf := HF.out
    unfold assignF at hf
    rw [HN.out, if_neg (by simp)] at hf
    injection hf with e1 hf
    injection hf with e2 e3
    rw [← e1, ← e2, ← e3]
    exact ⟨rfl, HD.out⟩
  · have hn0 : ((n : Int) == 0) = false := beq_eq_false_iff_ne.2 (by omega)
    have hnn : (0 : Int) ≤ (n : Int) := by omega
    have H0 := Aside0.mk h0
    clear h0
    obtain ⟨b, hb⟩ : ∃ b, Lib.hasPrefix (s.extract n s.size).data.toList [61] = b := ⟨_, rfl⟩
    have HB := Aside0.mk hb
    clear hb
    go_wp2_with fail
    refine (Try.strings_HasPrefix (s.extract n s.size) ⟨#[61]⟩ _).mono ?_
    rintro e w1 ⟨rfl, rfl⟩
    rw [show Lib.hasPrefix (s.extract n s.size).data.toList (ByteArray.mk #[61]).data.toList = b from HB.out]
    cases b with
    | false =>
      go_wp2_with fail
      go_ret3
      have hf := HF.out
      unfold assignF at hf
      rw [HN.out, if_neg (by rw [HB.out]; simp)] at hf
      injection hf with e1 hf
      injection hf with e2 e3
      rw [← e1, ← e2, ← e3]
      exact ⟨rfl, HD.out⟩
    | true =>
      have hlt : (n : Int) + 1 ≤ (s.size : Int) := by
        have h := HB.out
        apply Classical.byContradiction
        intro hc
        have h2 : (s.extract n s.size).data.toList = [] := by
          apply List.eq_nil_of_length_eq_zero
          have : (s.extract n s.size).size = 0 := by simp; omega
          exact this
        rw [h2] at h
        exact absurd h (by decide)
      have hwr : IntKind.i64.wrap ((n : Int) + 1) = (n : Int) + 1 := by rw [i64_w]; unfold wrap64; omega
      have hn1 : (0 : Int) ≤ (n : Int) + 1 := by omega
      have htn : ((n : Int) + 1).toNat = n + 1 := by omega
      go_wp2_with fail
      go_quiet (fail)
      go_wp2_with fail
      go_ret3
      have hf := HF.out
      unfold assignF at hf
      rw [HN.out, if_pos ⟨H0.out, HB.out⟩] at hf
      injection hf with e1 hf
      injection hf with e2 e3
      rw [← e1, ← e2, ← e3]
      exact ⟨rfl, HD.out.step nq⟩
end Go.Proofs.Ytfdjbjinomfgiaa
