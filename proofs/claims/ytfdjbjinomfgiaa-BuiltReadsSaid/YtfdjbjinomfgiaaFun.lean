/- slices.IndexFunc, slices.ContainsFunc and slices.DeleteFunc at rows of strings, whatever the function value does to new memory. -/
import Derived.Test.YtfdjbjinomfgiaaKit
import Derived.Lib.SliceRun
import Derived.Shelf.Abstract
namespace Go.Proofs.Ytfdjbjinomfgiaa
open Go.RowKit Go.Proofs.YtfdjbjinomfgiaaW.PrintWords Go.Proofs.YtfdjbjinomfgiaaW.PrintLast Go.Proofs.YtfdjbjinomfgiaaW.PrintMore

/-- Where the first one is that a test is true of; -1: none. -/
def IdxIs (p : ByteArray → Bool) (xs : List ByteArray) (r : Int) : Prop :=
  (r = -1 ∧ ∀ s ∈ xs, p s = false) ∨ ∃ k : Nat, k < xs.length ∧ r = k ∧ p (xs.getD k ByteArray.empty) = true ∧ ∀ s ∈ xs.take k, p s = false

/-- A function value, called at a string of a row in any later world: it tells p, and turns nothing that lies. -/
def Tells (g : Nat) (lb : Array Value) (p : ByteArray → Bool) (xs : List ByteArray) (S : Nat → Prop) (w : World) : Prop :=
  ∀ W, Chg S w W → ∀ s ∈ xs, Calls Try.prog g (#[.string s] ++ lb) W fun e w' => e = .returned (.bool (p s)) ∧ Below W.heap.size W w'
def CallsFn (g : Nat) : Prop := ∀ args w, (callFunc g args).run Try.prog w = .ok (.enter g args) w

set_option maxHeartbeats 400000 in
set_option maxRecDepth 100000 in
theorem index_func (g : Nat) (lb : Array Value) (p : ByteArray → Bool) (A : Option Addr) (c : Nat) (xs : List ByteArray) (S : Nat → Prop) (w : World) (hg : CallsFn g)
    (hC : ∀ W, Chg S w W → Kd.C Kd.string W A xs.length xs) (hp : Tells g lb p xs S w) :
    Calls Try.prog 137 #[.slice A xs.length c, .func (.func g) #[] lb] w fun e w' => ∃ r, e = .returned (.int .i64 r) ∧ IdxIs p xs r ∧ Below w.heap.size w w' := by
  have hmax : (xs.length : Int) ≤ 9223372036854775807 := by have := (hC w (Chg.refl _ _)).2.1; omega
  have HC := Aside0.mk hC
  have HP := Aside0.mk hp
  have eg := hg
  unfold CallsFn at eg
  clear hC hp hg
  go_enter Try.func137, Try.ntmps137
  go_wp2
  go_loopw [8] (fun i wr => ∃ k : Nat, k ≤ xs.length ∧ i = .int .i64 k ∧ Aside0 (∀ s ∈ xs.take k, p s = false) ∧ Aside0 (Below w.heap.size w wr)) (fun i _ => xs.length - (intOf i).toNat)
  case atStart => exact ⟨0, Nat.zero_le _, rfl, ⟨by simp⟩, ⟨Below.refl _ _⟩⟩
  case round =>
    obtain ⟨k, hk, rfl, HA, HB⟩ := hrel
    by_cases hlt : k < xs.length
    · obtain ⟨ad, e, hx⟩ := str_at (HC.out wr (Chg.of_below HB.out S)) hlt
      subst e
      have hmem := getD_mem' hlt ByteArray.empty
      have htk := take_snoc' hlt ByteArray.empty
      have HK := Aside0.mk (⟨hlt, rfl⟩ : k < xs.length ∧ xs.getD k ByteArray.empty = xs.getD k ByteArray.empty)
      generalize hs : xs.getD k ByteArray.empty = s at hx hmem htk
      have HS := Aside0.mk hs
      have HM := Aside0.mk hmem
      have HT := Aside0.mk htk
      have hlt' : (k : Int) < (xs.length : Int) := by omega
      clear hs hmem htk hlt
      cases hps : p s with
      | true =>
        have hcall := HP.out wr (Chg.of_below HB.out S) s HM.out
        rw [hps] at hcall
        have HPS := Aside0.mk hps
        have HCALL := Aside0.mk hcall
        clear hps hcall
        go_wp2_with (go_at_fn g; refine (HCALL.out).mono ?_; rintro e w1 ⟨rfl, hb⟩; have HB1 := Aside0.mk hb; clear hb)
        go_ret
        exact ⟨k, rfl, .inr ⟨k, HK.out.1, rfl, by rw [HS.out]; exact HPS.out, HA.out⟩, HB.out.trans (HB1.out.mono HB.out.size)⟩
      | false =>
        have hcall := HP.out wr (Chg.of_below HB.out S) s HM.out
        rw [hps] at hcall
        have HPS := Aside0.mk hps
        have HCALL := Aside0.mk hcall
        clear hps hcall
        go_wp2_with (go_at_fn g; refine (HCALL.out).mono ?_; rintro e w1 ⟨rfl, hb⟩; have HB1 := Aside0.mk hb; clear hb)
        go_roundw
        case rel =>
          refine ⟨k + 1, HK.out.1, by go_num, ⟨?_⟩, ⟨HB.out.trans (HB1.out.mono HB.out.size)⟩⟩
          rw [HT.out]
          intro t ht
          rcases List.mem_append.1 ht with ht | ht
          · exact HA.out t ht
          · rw [List.mem_singleton.1 ht]; exact HPS.out
        case measure => have := HK.out.1; simp [intOf]; omega
    · obtain rfl : k = xs.length := by omega
      go_wp2
      go_ret
      exact ⟨-1, rfl, .inl ⟨rfl, by simpa using HA.out⟩, HB.out⟩
end Go.Proofs.Ytfdjbjinomfgiaa
