/- What is known of the document: the law's awake. -/
import Derived.Test.YtfdjbjinomfgiaaBltD
namespace Go.Proofs.Ytfdjbjinomfgiaa
open Go.RowKit Go.Maps Go.Proofs.YtfdjbjinomfgiaaW.PrintWords Go.Proofs.YtfdjbjinomfgiaaW.PrintLast Go.Proofs.YtfdjbjinomfgiaaW.PrintMore
set_option linter.unusedSimpArgs false
set_option linter.unusedVariables false

theorem env0_new : newF [] [] = env0 := rfl
/-- A new environment and a new world, both empty. -/
theorem env_New0 (w : World) : Calls Try.prog 12 #[.slice none 0 0, .slice none 0 0] w fun e w' => ∃ g m1 m2, e = .returned (.pointer (some ⟨g, 0, none⟩)) ∧ EnvIs w' g m1 m2 env0 ∧ Below w.heap.size w w' ∧ w.heap.size ≤ g ∧ w.heap.size ≤ m1 ∧ w.heap.size ≤ m2 :=
  env_New none 0 [] none 0 [] w (Kd.C_nil _ _) (Kd.C_nil _ _) (Nat.le_refl _) (Nat.le_refl _) (by simp) (by simp)
theorem world_New0 (w : World) : Calls Try.prog 13 #[.agg #[.slice none 0 0, .slice none 0 0, .slice none 0 0, .slice none 0 0, .slice none 0 0, .int .i64 0]] w fun e w' => ∃ gw, e = .returned (.pointer (some ⟨gw, 0, none⟩)) ∧ WorIs w' gw [] ∧ Below w.heap.size w w' ∧ w.heap.size ≤ gw :=
  world_New (.slice none 0 0) (by rfl) (.slice none 0 0) (by rfl) none 0 [] none 0 [] none 0 [] 0 w (Kd.C_nil _ _) (by simp) (Kd.C_nil _ _) (by simp) (Kd.C_nil _ _) (by simp) (by simp) none 0 0 rfl none 0 0 rfl

theorem lit_C (w : World) (l : List ByteArray) (h : l.length ≤ 1000000) : Kd.C Kd.string (w.alloc (.cells (l.map Value.string).toArray 9)) (some ⟨w.heap.size, 0, none⟩) l.length l := lit_rowC w l 9 h
/-- A row of words that was just written. -/
theorem run_echo_lit (g m1 m2 gw : Nat) (S : EnvS) (w : World) (he : EnvIs w g m1 m2 S) :
    Calls Try.prog 14 #[.pointer (some ⟨g, 0, none⟩), .pointer (some ⟨gw, 0, none⟩), .slice (some ⟨w.heap.size, 0, none⟩) 3 3, .int .i64 0] (w.alloc (.cells #[.string ⟨#[101, 99, 104, 111]⟩, .string ⟨#[97]⟩, .string ⟨#[98]⟩] 9)) fun e w' => e = .returned (.agg #[.int .i64 0, .string ⟨#[97, 32, 98, 10]⟩, .int .i64 0, .int .i64 0, .int .i64 0]) ∧ Below w.heap.size w w' := by
  have hbl : Below w.heap.size w (w.alloc (.cells #[.string ⟨#[101, 99, 104, 111]⟩, .string ⟨#[97]⟩, .string ⟨#[98]⟩] 9)) := (Below.refl _ _).alloc (Nat.le_refl _) _
  refine (run_echo g m1 m2 gw S ⟨w.heap.size, 0, none⟩ 3 [⟨#[97]⟩, ⟨#[98]⟩] 0 _ (lit_C w [⟨#[101, 99, 104, 111]⟩, ⟨#[97]⟩, ⟨#[98]⟩] (by decide)) (by decide) (by decide +kernel) (by decide) (he.below hbl)).mono ?_
  rintro e w' ⟨rfl, hb⟩
  refine ⟨?_, hbl.trans (hb.mono hbl.size)⟩
  rw [show joinB [⟨#[97]⟩, ⟨#[98]⟩] ++ ⟨#[10]⟩ = (⟨#[97, 32, 98, 10]⟩ : ByteArray) from by kernel_rfl]
  rfl
theorem run_false_lit (g m1 m2 gw : Nat) (S : EnvS) (w : World) (he : EnvIs w g m1 m2 S) :
    Calls Try.prog 14 #[.pointer (some ⟨g, 0, none⟩), .pointer (some ⟨gw, 0, none⟩), .slice (some ⟨w.heap.size, 0, none⟩) 1 1, .int .i64 0] (w.alloc (.cells #[.string ⟨#[102, 97, 108, 115, 101]⟩] 9)) fun e w' => e = .returned (.agg #[.int .i64 1, .string ⟨#[]⟩, .int .i64 0, .int .i64 0, .int .i64 0]) ∧ Below w.heap.size w w' := by
  have hbl : Below w.heap.size w (w.alloc (.cells #[.string ⟨#[102, 97, 108, 115, 101]⟩] 9)) := (Below.refl _ _).alloc (Nat.le_refl _) _
  refine (run_false g m1 m2 gw S ⟨w.heap.size, 0, none⟩ 1 [] 0 _ (lit_C w [⟨#[102, 97, 108, 115, 101]⟩] (by decide)) (by decide) (by simp) (he.below hbl)).mono ?_
  rintro e w' ⟨rfl, hb⟩
  exact ⟨rfl, hbl.trans (hb.mono hbl.size)⟩
set_option maxHeartbeats 4000000 in
set_option maxRecDepth 100000 in
theorem awake16 (w : World) : Calls Try.prog 11 #[] w fun e w' => e = .returned (.bool true) ∧ Below w.heap.size w w' := by
  go_enter Try.func11, Try.ntmps11
  go_wp2_with fail
  refine (env_New0 _).mono ?_
  rintro e w1 ⟨g, m1, m2, rfl, he, hb, _, hm1, _⟩
  have HE := Aside0.mk he
  have HB := Aside0.mk hb
  clear he hb hm1
  go_wp2_with fail
  refine (world_New0 _).mono ?_
  rintro e w2 ⟨gw, rfl, hw, hb, _⟩
  have HE2 := Aside0.mk (HE.out.below hb)
  have HB2 := Aside0.mk (HB.out.trans (hb.mono HB.out.size))
  clear hw hb
  go_wp2_with fail
  refine (run_echo_lit g m1 m2 gw env0 w2 HE2.out).mono ?_
  rintro e w3 ⟨rfl, hb⟩
  have HE3 := Aside0.mk (HE2.out.below hb)
  have HB3 := Aside0.mk (HB2.out.trans (hb.mono HB2.out.size))
  clear hb
  go_wp2_with fail
  refine (run_false_lit g m1 m2 gw env0 w3 HE3.out).mono ?_
  rintro e w4 ⟨rfl, hb⟩
  have HB4 := Aside0.mk (HB3.out.trans (hb.mono HB3.out.size))
  clear hb
  go_wp2_with fail
  refine (built_Is ⟨#[101, 99, 104, 111]⟩ true _ (by decide +kernel)).mono ?_
  rintro e w5 ⟨rfl, hb⟩
  have HB5 := Aside0.mk (HB4.out.trans (hb.mono HB4.out.size))
  clear hb
  go_wp2_with fail
  refine (built_Is ⟨#[101, 118, 97, 108]⟩ false _ (by decide +kernel)).mono ?_
  rintro e w6 ⟨rfl, hb⟩
  have HB6 := Aside0.mk (HB5.out.trans (hb.mono HB5.out.size))
  clear hb
  go_wp2_with fail
  refine (built_Refused ⟨#[101, 118, 97, 108]⟩ true _ (by decide +kernel)).mono ?_
  rintro e w7 ⟨rfl, hb⟩
  have HB7 := Aside0.mk (HB6.out.trans (hb.mono HB6.out.size))
  clear hb
  go_wp2_with fail
  refine (built_Foreign ⟨#[91, 91]⟩ true _ (by decide +kernel)).mono ?_
  rintro e w8 ⟨rfl, hb⟩
  have HB8 := Aside0.mk (HB7.out.trans (hb.mono HB7.out.size))
  clear hb
  go_wp2_with fail
  go_ret
  exact ⟨rfl, HB8.out⟩
end Go.Proofs.Ytfdjbjinomfgiaa
