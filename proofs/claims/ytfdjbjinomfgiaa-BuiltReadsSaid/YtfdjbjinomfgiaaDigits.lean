/- The document's digits of a number that is not below 0. -/
import Derived.Test.YtfdjbjinomfgiaaKit
namespace Go.Proofs.Ytfdjbjinomfgiaa
open Go.RowKit Go.Proofs.YtfdjbjinomfgiaaW.PrintWords Go.Proofs.YtfdjbjinomfgiaaW.PrintLast Go.Proofs.YtfdjbjinomfgiaaW.PrintMore

def tenB : ByteArray := ⟨#[48, 49, 50, 51, 52, 53, 54, 55, 56, 57]⟩
/-- The digits of u ahead of what stands; so many rounds. -/
def dgA : Nat → Nat → ByteArray → ByteArray
  | 0, _, acc => acc
  | d + 1, u, acc => if u ≤ 9 then tenB.extract u (u + 1) ++ acc else dgA d (u / 10) (tenB.extract (u % 10) (u % 10 + 1) ++ acc)
def dgs (n : Nat) : ByteArray := dgA 20 n ⟨#[]⟩
theorem ten_size : tenB.size = 10 := rfl
theorem ten_one (k : Nat) (h : k ≤ 9) : (tenB.extract k (k + 1)).size = 1 := by simp [ten_size]; omega

set_option maxHeartbeats 1000000 in
set_option maxRecDepth 100000 in
theorem digits_calls (n : Int) (hn : 0 ≤ n) (hn2 : n ≤ 9223372036854775807) (w : World) :
    Calls Try.prog 36 #[.int .i64 n] w fun e w' => e = .returned (.string (dgs n.toNat)) ∧ w' = w := by
  obtain ⟨m, rfl⟩ := Int.eq_ofNat_of_zero_le hn
  rw [Int.toNat_natCast]
  have hneg : decide ((m : Int) < 0) = false := by simp
  have hw : IntKind.u64.wrap (m : Int) = (m : Int) := by unfold IntKind.wrap; simp [IntKind.signed, IntKind.bits]; omega
  have HN := Aside0.mk hn2
  clear hn hn2
  go_enter Try.func36, Try.ntmps36
  go_wp2
  go_loop [3, 4] (fun u s => ∃ (x d : Nat) (acc : ByteArray), u = .int .u64 x ∧ s = .string acc ∧ Aside0 ((x : Int) ≤ 9223372036854775807) ∧ Aside0 (acc.size + d = 20 ∧ 1 ≤ d ∧ x < 10 ^ d) ∧ Aside0 (dgA d x acc = dgs m)) (fun u _ => (intOf u).toNat)
  case atStart => exact ⟨m, 20, ⟨#[]⟩, rfl, rfl, HN, ⟨rfl, by omega, by have := HN.out; omega⟩, ⟨rfl⟩⟩
  case round =>
    obtain ⟨x, d, acc, rfl, rfl, HX, HD, HA⟩ := hrel
    by_cases h9 : x ≤ 9
    · have hx0 : (0 : Int) ≤ (x : Int) := by omega
      have hx9 : (x : Int) ≤ 9 := by omega
      have hw1 : IntKind.u64.wrap ((x : Int) + 1) = (x : Int) + 1 := by unfold IntKind.wrap; simp [IntKind.signed, IntKind.bits]; omega
      have hx1 : (x : Int) ≤ (x : Int) + 1 := by omega
      have hx10 : (x : Int) + 1 ≤ 10 := by omega
      have hcat : (9223372036854775807 < min (x + 1) 10 - x + acc.size) = False := eq_false (by have := HD.out; omega)
      have H9 := Aside0.mk h9
      clear h9
      go_wp2
      go_ret
      refine ⟨?_, rfl⟩
      rw [← HA.out]
      obtain ⟨hd1, hd2, _⟩ := HD.out
      obtain ⟨d, rfl⟩ : ∃ e, d = e + 1 := ⟨d - 1, by omega⟩
      unfold dgA
      rw [if_pos H9.out]
      rfl
    · have h9' : (9 : Int) < (x : Int) := by omega
      have hcat : (9223372036854775807 < min (x % 10 + 1) 10 - x % 10 + acc.size) = False := eq_false (by have := HD.out; omega)
      have hx0 : (0 : Int) ≤ (x : Int) := by omega
      have hm0 : (0 : Int) ≤ (x : Int) % 10 := by omega
      have hm1 : (x : Int) % 10 ≤ (x : Int) % 10 + 1 := by omega
      have hm2 : (x : Int) % 10 + 1 ≤ 10 := by omega
      have hw1 : IntKind.u64.wrap ((x : Int) % 10 + 1) = (x : Int) % 10 + 1 := by unfold IntKind.wrap; simp [IntKind.signed, IntKind.bits]; omega
      have ht1 : (x : Int).tmod 10 = (x : Int) % 10 := Int.tmod_eq_emod_of_nonneg hx0
      have ht2 : (x : Int).tdiv 10 = (x : Int) / 10 := Int.tdiv_eq_ediv_of_nonneg hx0
      have hw2 : IntKind.u64.wrap ((x : Int) / 10) = (x : Int) / 10 := by unfold IntKind.wrap; have := HX.out; simp [IntKind.signed, IntKind.bits]; omega
      have H9 := Aside0.mk h9
      clear h9
      go_wp2
      obtain ⟨hd1, hd2, hd3⟩ := HD.out
      have hX := HX.out
      have h9 := H9.out
      have hd4 : 2 ≤ d := by
        rcases Nat.lt_or_ge d 2 with h | h
        · have : d = 1 := by omega
          subst this
          simp at hd3
          omega
        · exact h
      obtain ⟨d, rfl⟩ : ∃ e, d = e + 1 := ⟨d - 1, by omega⟩
      refine ⟨⟨x / 10, d, _, by simp, rfl, ⟨by omega⟩, ⟨?_, by omega, ?_⟩, ⟨?_⟩⟩, ?_⟩
      · show (tenB.extract (x % 10) (x % 10 + 1) ++ acc).size + d = 20
        rw [ByteArray.size_append, ten_one _ (by omega)]
        omega
      · rw [Nat.pow_succ] at hd3; omega
      · rw [← HA.out]
        conv => rhs; unfold dgA
        rw [if_neg (by omega)]
        rfl
      · simp [intOf]; omega
end Go.Proofs.Ytfdjbjinomfgiaa
