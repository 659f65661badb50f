/- The law of variables: awake. -/
import Derived.Test.YtfdjbjinomfgiaaPlaysB
namespace Go.Proofs.Ytfdjbjinomfgiaa
open Go.RowKit Go.Maps Go.Proofs.YtfdjbjinomfgiaaW.PrintWords Go.Proofs.YtfdjbjinomfgiaaW.PrintLast Go.Proofs.YtfdjbjinomfgiaaW.PrintMore
set_option linter.unusedSimpArgs false
set_option linter.unusedVariables false

theorem e_lit_C (w : World) (xs : List ByteArray) (T : TypeId) (hm : xs.length ≤ 1000000) : Kd.C Kd.string (w.alloc (.cells (xs.map Value.string).toArray T)) (some ⟨w.heap.size, 0, none⟩) xs.length xs := by
  refine Kd.C_of_reads (d := ByteArray.empty) ⟨rfl, by omega, fun _ => ⟨_, rfl, fun j hj => ?_⟩⟩
  have h := heap_alloc_new w (.cells (xs.map Value.string).toArray T)
  rw [add_plain]
  unfold World.cell?
  rw [h]
  simp [List.getD_eq_getElem?_getD, List.getElem?_eq_getElem hj]
theorem e_lit_V2 (w : World) (a b c d : ByteArray) (T : TypeId) : Kd.C VarK (w.alloc (.cells #[.string a, .string b, .string c, .string d] T)) (some ⟨w.heap.size, 0, none⟩) 2 [(a, b), (c, d)] := by
  have h := heap_alloc_new w (.cells #[.string a, .string b, .string c, .string d] T)
  refine ⟨rfl, by omega, fun _ => ⟨_, rfl, fun j p hj => ?_⟩⟩
  match j, hj with
  | 0, hj =>
    obtain rfl := Option.some.inj hj
    refine ⟨[.string a, .string b], rfl, ⟨[.string a], [.string b], rfl, rfl, rfl⟩, fun i u hu => ?_⟩
    rw [add_plain]
    match i, hu with
    | 0, hu => exact (blk_cell h 0).trans hu
    | 1, hu => exact (blk_cell h 1).trans hu
  | 1, hj =>
    obtain rfl := Option.some.inj hj
    refine ⟨[.string c, .string d], rfl, ⟨[.string c], [.string d], rfl, rfl, rfl⟩, fun i u hu => ?_⟩
    rw [add_plain]
    match i, hu with
    | 0, hu => exact (blk_cell h 2).trans hu
    | 1, hu => exact (blk_cell h 3).trans hu

def wS : EnvS := newF [(⟨#[97]⟩, ⟨#[49]⟩), (ifsB, ⟨#[120]⟩)] [⟨#[112]⟩]
theorem wS_a : getF wS ⟨#[97]⟩ = (⟨#[49]⟩, true) := by decide +kernel
theorem wS_1 : getF wS ⟨#[49]⟩ = (⟨#[112]⟩, true) := by decide +kernel
theorem wS_2 : getF wS ⟨#[50]⟩ = (⟨#[]⟩, false) := by decide +kernel
theorem wS_ifs : ifsF wS = ⟨#[32, 9, 10]⟩ := by decide +kernel
theorem wS_set : setF wS ⟨#[49, 97]⟩ ⟨#[]⟩ = (1, wS) := by
  have h : nameB ⟨#[49, 97]⟩ = false := by decide +kernel
  unfold setF
  rw [h]
  rfl
theorem wS_e : flagAt wS.flag 101 = false := by rfl
set_option maxHeartbeats 1000000 in
set_option maxRecDepth 100000 in
theorem awake13 (w : World) : Calls Try.prog 17 #[] w fun e w' => e = .returned (.bool true) ∧ Below w.heap.size w w' := by
  have hb0 : Below w.heap.size w (w.alloc (.cells #[.string ⟨#[97]⟩, .string ⟨#[49]⟩, .string ⟨#[73, 70, 83]⟩, .string ⟨#[120]⟩] 108)) := (Below.refl _ _).alloc (Nat.le_refl _) _
  have HV := Aside0.mk (Kd.C_below (e_lit_V2 w ⟨#[97]⟩ ⟨#[49]⟩ ⟨#[73, 70, 83]⟩ ⟨#[120]⟩ 108) ((Below.refl _ _).alloc (Nat.le_refl _) (.cells #[.string ⟨#[112]⟩] 9)))
  have hA := (e_lit_C (w.alloc (.cells #[.string ⟨#[97]⟩, .string ⟨#[49]⟩, .string ⟨#[73, 70, 83]⟩, .string ⟨#[120]⟩] 108)) [⟨#[112]⟩] 9 (by decide))
  rw [show (w.alloc (.cells #[.string ⟨#[97]⟩, .string ⟨#[49]⟩, .string ⟨#[73, 70, 83]⟩, .string ⟨#[120]⟩] 108)).heap.size = w.heap.size + 1 from by simp] at hA
  have HA := Aside0.mk hA
  have HB0 := Aside0.mk (hb0.alloc hb0.size (.cells #[.string ⟨#[112]⟩] 9))
  clear hb0 hA
  go_enter Try.func17, Try.ntmps17
  go_wp2_with fail
  refine (env_New _ 2 [(⟨#[97]⟩, ⟨#[49]⟩), (⟨#[73, 70, 83]⟩, ⟨#[120]⟩)] _ 1 [⟨#[112]⟩] _ HV.out HA.out (by decide) (by decide) (by decide +kernel) (by decide +kernel)).mono ?_
  rintro e w1 ⟨g, m1, m2, rfl, he, hb, _, hm1, _⟩
  have HM1 := Aside0.mk (show w.heap.size ≤ m1 from by simp at hm1; omega)
  have HE := Aside0.mk (show EnvIs w1 g m1 m2 wS from he)
  have HB := Aside0.mk (HB0.out.trans (hb.mono HB0.out.size))
  clear he hb hm1
  go_wp2_with fail
  refine (env_Get g m1 m2 wS ⟨#[97]⟩ _ _ _ (by decide) HE.out wS_a).mono ?_
  rintro e w2 ⟨rfl, hd⟩
  have HE2 := Aside0.mk (HE.out.drawn hd)
  have HB2 := Aside0.mk (HB.out.trans (hd.below.mono HB.out.size))
  clear hd
  go_wp2_with fail
  refine (env_Get g m1 m2 wS ⟨#[49]⟩ _ _ _ (by decide) HE2.out wS_1).mono ?_
  rintro e w3 ⟨rfl, hd⟩
  have HE3 := Aside0.mk (HE2.out.drawn hd)
  have HB3 := Aside0.mk (HB2.out.trans (hd.below.mono HB2.out.size))
  clear hd
  go_wp2_with fail
  refine (env_Get g m1 m2 wS ⟨#[50]⟩ _ _ _ (by decide) HE3.out wS_2).mono ?_
  rintro e w4 ⟨rfl, hd⟩
  have HE4 := Aside0.mk (HE3.out.drawn hd)
  have HB4 := Aside0.mk (HB3.out.trans (hd.below.mono HB3.out.size))
  clear hd
  go_wp2_with fail
  refine (env_IFS g m1 m2 wS _ _ HE4.out wS_ifs).mono ?_
  rintro e w4 ⟨rfl, rfl⟩
  go_wp2_with fail
  refine (env_Set g m1 m2 wS wS ⟨#[49, 97]⟩ ⟨#[]⟩ 1 _ (by decide) (by decide) HE4.out wS_set).mono ?_
  rintro e w5 ⟨rfl, he5, hc5⟩
  have HE5 := Aside0.mk he5
  have HC5 := Aside0.mk hc5
  clear he5 hc5
  go_wp2_with fail
  refine (env_Flag g m1 m2 wS 101 _ _ (by decide) HE5.out wS_e).mono ?_
  rintro e w5 ⟨rfl, rfl⟩
  go_wp2_with fail
  go_ret
  exact ⟨rfl, ((Chg.of_below HB4.out none_).then_ HC5.out (fun k hk => .inr (by rw [hk]; exact HM1.out))).toBelow⟩
end Go.Proofs.Ytfdjbjinomfgiaa
