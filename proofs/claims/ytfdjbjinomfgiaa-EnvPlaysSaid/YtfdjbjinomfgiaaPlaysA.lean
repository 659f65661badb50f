/- The law of variables: Short, Same. -/
import Derived.Test.YtfdjbjinomfgiaaRenD
namespace Go.Proofs.Ytfdjbjinomfgiaa
open Go.RowKit Go.Maps Go.Proofs.YtfdjbjinomfgiaaW.PrintWords Go.Proofs.YtfdjbjinomfgiaaW.PrintLast Go.Proofs.YtfdjbjinomfgiaaW.PrintMore
set_option linter.unusedSimpArgs false
set_option linter.unusedVariables false

def vshort (p : ByteArray × ByteArray) : Bool := decide (p.1.size ≤ 60) && decide (p.2.size ≤ 200)
def sshort (s : ByteArray) : Bool := decide (s.size ≤ 200)
def shortB (l : VTab) (args : List ByteArray) : Bool := decide (l.length ≤ 130) && decide (args.length ≤ 130) && l.all vshort && args.all sshort
theorem shortB_vars {l : VTab} {args : List ByteArray} (h : shortB l args = true) : ∀ p ∈ l, p.1.size ≤ 1000000 ∧ p.2.size ≤ 1000000 := by
  unfold shortB at h
  simp only [Bool.and_eq_true, List.all_eq_true, decide_eq_true_eq, vshort] at h
  intro p hp
  have := h.1.2 p hp
  omega
theorem shortB_args {l : VTab} {args : List ByteArray} (h : shortB l args = true) : ∀ s ∈ args, s.size ≤ 1000000 := by
  unfold shortB at h
  simp only [Bool.and_eq_true, List.all_eq_true, decide_eq_true_eq, sshort] at h
  intro s hs
  have := h.2 s hs
  omega
theorem all_snoc {α : Type} {f : α → Bool} {l : List α} {k : Nat} {d : α} (hk : k < l.length) : (l.take (k + 1)).all f = ((l.take k).all f && f (l.getD k d)) := by
  rw [take_snoc' hk d, List.all_append]; simp
theorem all_not {α : Type} {f : α → Bool} {l : List α} {k : Nat} {d : α} (hk : k < l.length) (h : f (l.getD k d) = false) : l.all f = false := by
  rw [Bool.eq_false_iff]
  intro ha
  have := List.all_eq_true.1 ha _ (getD_mem' hk d)
  rw [h] at this
  cases this
set_option maxHeartbeats 4000000 in
set_option maxRecDepth 100000 in
theorem law_Short (A : Option Addr) (c : Nat) (l : VTab) (B : Option Addr) (d : Nat) (args : List ByteArray) (b : Bool) (w : World) (hA : Kd.C VarK w A l.length l) (hB : Kd.C Kd.string w B args.length args) (hlc : l.length ≤ c) (hld : args.length ≤ d) (hb : shortB l args = b) :
    Calls Try.prog 16 #[.slice A l.length c, .slice B args.length d] w fun e w' => e = .returned (.bool b) ∧ w' = w := by
  have HA := Aside0.mk hA
  have HB := Aside0.mk hB
  have HR := Aside0.mk hb
  clear hA hB hb
  by_cases h1 : l.length ≤ 130
  · have h1' : (l.length : Int) ≤ 130 := by omega
    by_cases h2 : args.length ≤ 130
    · have h2' : (args.length : Int) ≤ 130 := by omega
      have HR2 := Aside0.mk (show (l.all vshort && args.all sshort) = b from by rw [← HR.out]; unfold shortB; simp [h1, h2])
      clear h1 h2 HR
      go_enter Try.func16, Try.ntmps16
      go_wp2_with fail
      go_loop [5] (fun i => ∃ k : Nat, k ≤ l.length ∧ i = .int .i64 k ∧ Aside0 ((l.take k).all vshort = true)) (fun i => l.length - (intOf i).toNat)
      case atStart => exact ⟨0, Nat.zero_le _, rfl, ⟨by simp⟩⟩
      case round =>
        obtain ⟨k, hk, rfl, HN⟩ := hrel
        by_cases hlt : k < l.length
        · obtain ⟨ad, e, hx0, hx1⟩ := var_at HA.out hlt
          subst e
          have hlt' : (k : Int) < (l.length : Int) := by omega
          have HS := Aside0.mk (all_snoc (f := vshort) (d := (ByteArray.empty, ByteArray.empty)) hlt)
          have HF := Aside0.mk (fun h => all_not (f := vshort) (d := (ByteArray.empty, ByteArray.empty)) hlt h)
          have HLT := Aside0.mk hlt
          clear hlt hk
          generalize l.getD k (ByteArray.empty, ByteArray.empty) = p at *
          obtain ⟨n, u⟩ := p
          by_cases hn : (n.size : Int) ≤ 60
          · have hd0 : decide ((60 : Int) < (n.size : Int)) = false := decide_eq_false (by omega)
            have hd0' : decide (60 < n.size) = false := decide_eq_false (by omega)
            by_cases hu : (u.size : Int) ≤ 200
            · have HG := Aside0.mk (show (l.take (k + 1)).all vshort = true from by rw [HS.out, HN.out]; unfold vshort; simp; omega)
              go_wp2_with fail
              go_round
              case rel => exact ⟨k + 1, HLT.out, by go_num, HG⟩
              case measure => have := HLT.out; simp [intOf]; omega
            · have hu' : (200 : Int) < (u.size : Int) := by omega
              have HG := Aside0.mk (show b = false from by rw [← HR2.out, HF.out (by unfold vshort; simp; omega)]; rfl)
              clear hu
              go_wp2_with fail
              go_ret
              exact ⟨e_ret_bool HG.out.symm, rfl⟩
          · have hn' : (60 : Int) < (n.size : Int) := by omega
            have HG := Aside0.mk (show b = false from by rw [← HR2.out, HF.out (by unfold vshort; simp; omega)]; rfl)
            clear hn
            go_wp2_with fail
            go_ret
            exact ⟨e_ret_bool HG.out.symm, rfl⟩
        · obtain rfl : k = l.length := by omega
          rw [List.take_length] at HN
          have HR3 := Aside0.mk (show args.all sshort = b from by rw [← HR2.out, HN.out]; rfl)
          clear HR2 hlt hk
          go_wp2_with fail
          go_loop [6] (fun i => ∃ k : Nat, k ≤ args.length ∧ i = .int .i64 k ∧ Aside0 ((args.take k).all sshort = true)) (fun i => args.length - (intOf i).toNat)
          case atStart => exact ⟨0, Nat.zero_le _, rfl, ⟨by simp⟩⟩
          case round =>
            obtain ⟨k, hk, rfl, HN2⟩ := hrel
            by_cases hlt : k < args.length
            · obtain ⟨ad, e, hx0⟩ := str_at HB.out hlt
              subst e
              have hlt' : (k : Int) < (args.length : Int) := by omega
              have HS := Aside0.mk (all_snoc (f := sshort) (d := ByteArray.empty) hlt)
              have HF := Aside0.mk (fun h => all_not (f := sshort) (d := ByteArray.empty) hlt h)
              have HLT := Aside0.mk hlt
              clear hlt hk
              generalize args.getD k ByteArray.empty = u at *
              by_cases hu : (u.size : Int) ≤ 200
              · have HG := Aside0.mk (show (args.take (k + 1)).all sshort = true from by rw [HS.out, HN2.out]; unfold sshort; simp; omega)
                go_wp2_with fail
                go_round
                case rel => exact ⟨k + 1, HLT.out, by go_num, HG⟩
                case measure => have := HLT.out; simp [intOf]; omega
              · have hu' : (200 : Int) < (u.size : Int) := by omega
                have HG := Aside0.mk (show b = false from by rw [← HR3.out, HF.out (by unfold sshort; simp; omega)])
                clear hu
                go_wp2_with fail
                go_ret
                exact ⟨e_ret_bool HG.out.symm, rfl⟩
            · obtain rfl : k = args.length := by omega
              rw [List.take_length] at HN2
              have HG := Aside0.mk (show b = true from by rw [← HR3.out, HN2.out])
              clear hlt hk
              go_wp2_with fail
              go_ret
              exact ⟨e_ret_bool HG.out.symm, rfl⟩
    · have h2' : (130 : Int) < (args.length : Int) := by omega
      have HG := Aside0.mk (show b = false from by rw [← HR.out]; unfold shortB; simp [h2])
      clear h1 h2
      go_enter Try.func16, Try.ntmps16
      go_wp2_with fail
      go_ret
      exact ⟨e_ret_bool HG.out.symm, rfl⟩
  · have h1' : (130 : Int) < (l.length : Int) := by omega
    have HG := Aside0.mk (show b = false from by rw [← HR.out]; unfold shortB; simp [h1])
    clear h1
    go_enter Try.func16, Try.ntmps16
    go_wp2_with fail
    go_ret
    exact ⟨e_ret_bool HG.out.symm, rfl⟩
end Go.Proofs.Ytfdjbjinomfgiaa
