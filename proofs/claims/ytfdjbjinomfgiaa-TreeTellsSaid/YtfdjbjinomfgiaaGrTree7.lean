-- PRINTED by print.py (a twelfth state) out of the translation. Not trusted: Lean checks it.
import Derived.Test.YtfdjbjinomfgiaaGrTree0
import Derived.Test.YtfdjbjinomfgiaaGrTree6
namespace Go.Proofs.Ytfdjbjinomfgiaa.GrTree
open Go.RowKit Go.Proofs.YtfdjbjinomfgiaaW.PrintWords Go.Proofs.YtfdjbjinomfgiaaW.PrintLast Go.Proofs.YtfdjbjinomfgiaaW.PrintMore
attribute [local go_sem] max2_int min2_int max_two min_two max_three min_three max_four min_four   -- for this text's walks alone
set_option linter.unusedVariables false
set_option linter.unusedSimpArgs false

/-! ### conchref1_among: function 95 -/
mutual
def conchref1_among.j0 : Nat → Int → Int → Int → Bool → ByteArray → List Bool → Option (Bool)
  | 0, _, _, _, _, _, _ => none
  | k + 1, x2, x3, x9, x10, x175000, x175001 => conchref1_among.l0 k x2 x3 x9 x10 false x175000 x175001
def conchref1_among.l0 : Nat → Int → Int → Int → Bool → Bool → ByteArray → List Bool → Option (Bool)
  | 0, _, _, _, _, _, _, _ => none
  | k + 1, x2, x3, x9, x10, x11, x175000, x175001 => if x9 < x2 then (if (wrap64 (x9 + 2)) < x2 then ((conchref1_is.f x175000 x175001 (wrap64 (x9 + 1)) 45).bind fun t176 => (if t176 = true then (if x11 = true then (conchref1_among.l0 k x2 x3 (wrap64 (x9 + 3)) x10 true x175000 x175001) else (if 0 ≤ x9 then (if x9 < (x175000.size : Int) then (if x3 ≥ (bt x175000 x9) then (if 0 ≤ (wrap64 (x9 + 2)) then (if (wrap64 (x9 + 2)) < (x175000.size : Int) then (conchref1_among.l0 k x2 x3 (wrap64 (x9 + 3)) x10 (decide (x3 ≤ (bt x175000 (wrap64 (x9 + 2))))) x175000 x175001) else (none)) else (none)) else (conchref1_among.l0 k x2 x3 (wrap64 (x9 + 3)) x10 false x175000 x175001)) else (none)) else (none))) else (if x11 = true then (conchref1_among.l0 k x2 x3 (wrap64 (x9 + 1)) x10 true x175000 x175001) else (if 0 ≤ x9 then (if x9 < (x175000.size : Int) then (conchref1_among.l0 k x2 x3 (wrap64 (x9 + 1)) x10 (x3 == (bt x175000 x9)) x175000 x175001) else (none)) else (none))))) else (if x11 = true then (conchref1_among.l0 k x2 x3 (wrap64 (x9 + 1)) x10 true x175000 x175001) else (if 0 ≤ x9 then (if x9 < (x175000.size : Int) then (conchref1_among.l0 k x2 x3 (wrap64 (x9 + 1)) x10 (x3 == (bt x175000 x9)) x175000 x175001) else (none)) else (none)))) else (some (x11 != x10))
end
def conchref1_among.f (k : Nat) (a0_0 : ByteArray) (l0_1 : List Bool) (a1 : Int) (a2 : Int) (a3 : Int) : Option (Bool) := (conchref1_is.f a0_0 l0_1 (wrap64 (a1 + 1)) 33).bind fun t175 => (if t175 = true then (conchref1_among.j0 k a2 a3 (wrap64 ((wrap64 (a1 + 1)) + 1)) t175 a0_0 l0_1) else (conchref1_among.j0 k a2 a3 (wrap64 (a1 + 1)) t175 a0_0 l0_1))
theorem conchref1_among.mono_l : ∀ k, (∀ y0 y1 y2 y3 y4 y5, LeO (conchref1_among.j0 k y0 y1 y2 y3 y4 y5) (conchref1_among.j0 (k + 1) y0 y1 y2 y3 y4 y5)) ∧ (∀ y0 y1 y2 y3 y4 y5 y6, LeO (conchref1_among.l0 k y0 y1 y2 y3 y4 y5 y6) (conchref1_among.l0 (k + 1) y0 y1 y2 y3 y4 y5 y6))
  | 0 => ⟨fun _ _ _ _ _ _ r h => by simp [conchref1_among.j0] at h, fun _ _ _ _ _ _ _ r h => by simp [conchref1_among.l0] at h⟩
  | k + 1 => by
    obtain ⟨ih0, ih1⟩ := conchref1_among.mono_l k
    refine ⟨?_, ?_⟩
    · intro y0 y1 y2 y3 y4 y5
      unfold conchref1_among.j0
      repeat' first
      | (with_reducible exact ih0 _ _ _ _ _ _)
      | (with_reducible exact ih1 _ _ _ _ _ _ _)
      | (with_reducible exact LeO.refl _)
      | (with_reducible exact LeO.none _)
      | (with_reducible refine LeO.ite ?_ ?_)
      | (with_reducible refine LeO.bind ?_ (fun _ => ?_))
      | exact ih0 _ _ _ _ _ _
      | exact ih1 _ _ _ _ _ _ _
      | exact LeO.none _
      | refine LeO.ite ?_ ?_
      | refine LeO.bind ?_ (fun _ => ?_)
    · intro y0 y1 y2 y3 y4 y5 y6
      unfold conchref1_among.l0
      repeat' first
      | (with_reducible exact ih0 _ _ _ _ _ _)
      | (with_reducible exact ih1 _ _ _ _ _ _ _)
      | (with_reducible exact LeO.refl _)
      | (with_reducible exact LeO.none _)
      | (with_reducible refine LeO.ite ?_ ?_)
      | (with_reducible refine LeO.bind ?_ (fun _ => ?_))
      | exact ih0 _ _ _ _ _ _
      | exact ih1 _ _ _ _ _ _ _
      | exact LeO.none _
      | refine LeO.ite ?_ ?_
      | refine LeO.bind ?_ (fun _ => ?_)
theorem conchref1_among.mono : ∀ a0 a1 a2 a3 a4 k, LeO (conchref1_among.f k a0 a1 a2 a3 a4) (conchref1_among.f (k + 1) a0 a1 a2 a3 a4) := by
  intro a0 a1 a2 a3 a4 k
  obtain ⟨ih0, ih1⟩ := conchref1_among.mono_l k
  unfold conchref1_among.f
  repeat' first
      | (with_reducible exact ih0 _ _ _ _ _ _)
      | (with_reducible exact ih1 _ _ _ _ _ _ _)
      | (with_reducible exact LeO.refl _)
      | (with_reducible exact LeO.none _)
      | (with_reducible refine LeO.ite ?_ ?_)
      | (with_reducible refine LeO.bind ?_ (fun _ => ?_))
      | exact ih0 _ _ _ _ _ _
      | exact ih1 _ _ _ _ _ _ _
      | exact LeO.none _
      | refine LeO.ite ?_ ?_
      | refine LeO.bind ?_ (fun _ => ?_)
set_option maxHeartbeats 8000000 in
set_option maxRecDepth 100000 in
theorem conchref1_among.calls (k : Nat) (a0_0 : ByteArray) (A0_1 : Option Addr) (c0_1 : Nat) (l0_1 : List Bool) (a1 : Int) (a2 : Int) (a3 : Int) (r : Bool) (w : World) (hr0_1 : Kd.C Kd.bool w A0_1 l0_1.length l0_1) (hc0_1 : l0_1.length ≤ c0_1) (h : conchref1_among.f k a0_0 l0_1 a1 a2 a3 = some r) :
    Calls Try.prog 95 #[.agg #[.string a0_0, .slice A0_1 l0_1.length c0_1], .int .i64 a1, .int .i64 a2, .int .u8 a3] w fun e w' => e = .returned (.bool r) ∧ Below w.heap.size w w' := by
  have hu60 := Try.underlying60
  have HR0_1 := Aside0.mk hr0_1
  have HC0_1 := Aside0.mk hc0_1
  clear hr0_1 hc0_1
  have HB := Aside0.mk (Below.refl w.heap.size w)
  have H : ((conchref1_is.f a0_0 l0_1 (wrap64 (a1 + 1)) 33).bind fun t175 => (if t175 = true then (conchref1_among.j0 k a2 a3 (wrap64 ((wrap64 (a1 + 1)) + 1)) t175 a0_0 l0_1) else (conchref1_among.j0 k a2 a3 (wrap64 (a1 + 1)) t175 a0_0 l0_1))) = some r := h
  clear h
  replace H := Option.bind_eq_some_iff.mp H
  obtain ⟨t175, A50, H⟩ := H
  replace H : (if t175 = true then (conchref1_among.j0 k a2 a3 (wrap64 ((wrap64 (a1 + 1)) + 1)) t175 a0_0 l0_1) else (conchref1_among.j0 k a2 a3 (wrap64 (a1 + 1)) t175 a0_0 l0_1)) = some r := H
  have A5 := Aside0.mk A50
  clear A50
  have HC6 := Aside0.mk H
  clear H
  go_enter Try.func95, Try.ntmps95
  go_upto_if 17 with (first | ((with_reducible refine gate_dst (N := 4) rfl ?_); refine box_event ?hg (N := 4) ?hd (cs := #[.string a0_0, .slice A0_1 l0_1.length c0_1]) (t := 60) ?hr ?_; (case hd => rfl); (case hg => rfl); (case hr => first | (go_simp; done) | (go_simp; rfl)); intro gb174 hg w7 hbox hb; have n0_ := Aside0.mk (below_step (by repeat (first | (with_reducible first | exact HB.out | apply below_alloc | apply pw_below_drewN | apply below_drew1) | exact HB.out)) hb); have n1_ := Aside0.mk (hbox); have n2_ := Aside0.mk ((by rw [hg]; exact (below_size (by repeat (first | (with_reducible first | exact HB.out | apply below_alloc | apply pw_below_drewN | apply below_drew1) | exact HB.out))) : w.heap.size ≤ gb174)); have n3_ := Aside0.mk ((by rw [hg]; exact (below_size (by repeat (first | (with_reducible first | exact HB.out | apply below_alloc | apply pw_below_drewN | apply below_drew1) | exact HB.out))) : w.heap.size ≤ gb174)); clear HB; have HB := n0_; have BK174 := n1_; have GW174 := n2_; have GE174 := n3_; clear n0_ n1_ n2_ n3_; clear hb hbox hg; have hcz8_0 : w7.cell? ⟨gb174, 0, none⟩ = some (.string a0_0) := (blk_cell BK174.out 0).trans rfl; have hcz8_1 : w7.cell? ⟨gb174, 1, none⟩ = some (.slice A0_1 l0_1.length c0_1) := (blk_cell BK174.out 1).trans rfl; have hfz8_0 := blk_frozen BK174.out 0; have hfz8_1 := blk_frozen BK174.out 1) | ((with_reducible refine gate_callee (f := 94) rfl ?_); refine goesL_ (some 16) rfl rfl Try.func94 (by kernel_rfl) rfl #[.agg #[.string a0_0, .slice A0_1 l0_1.length c0_1], .int .i64 (wrap64 (a1 + 1)), .int .u8 33] rfl (by (try simp only [List.map_toArray, List.map_cons, List.map_nil]); first | done | rfl | (simp only [List.length_drop, List.length_take]; rfl)) ?_; (with_reducible refine (conchref1_is.calls a0_0 _ _ l0_1 (wrap64 (a1 + 1)) 33 t175 _ ?side1 ?side2 A5.out).mono ?_); (case side1 => repeat (first | exact (Kd.C_below HR0_1.out HB.out) | (with_reducible refine Kd.C_alloc ?_ _) | (with_reducible refine Kd.C_drewN ?_ _) | (with_reducible refine Kd.C_drew ?_))); (case side2 => exact HC0_1.out); rintro e w9 ⟨rfl, hb⟩; refine ⟨_, rfl, ?_⟩; have n0_ := Aside0.mk (blk_below (g := gb174) (o := .cells #[.string a0_0, .slice A0_1 l0_1.length c0_1] 60 (0, 0)) (by (with_reducible repeat (first | refine blk_drewN ?_ _ | refine blk_drew ?_ | refine blk_alloc ?_ _)); exact BK174.out) hb); have n1_ := Aside0.mk (below_step (by repeat (first | (with_reducible first | exact HB.out | apply below_alloc | apply pw_below_drewN | apply below_drew1 | refine below_set ?_ GE174.out) | exact HB.out)) hb); clear BK174; clear HB; have BK174 := n0_; have HB := n1_; clear n0_ n1_; (try clear hb); (try clear hb2); (try clear hk); (try clear hi)))
  (try simp only [Act.put, List.setIfInBounds_toArray, List.set_cons_zero, List.set_cons_succ])
  go_cut [9] (fun v9 wc => ∃ (kq : Nat) (x9_5 : Int), v9 = .int .i64 x9_5 ∧ Aside0 (conchref1_among.j0 kq a2 a3 x9_5 t175 a0_0 l0_1 = some r) ∧ Aside0 (kq ≤ k) ∧ Aside0 (wc.heap[gb174]? = some (.cells #[.string a0_0, (.slice A0_1 l0_1.length c0_1)] 60 (0, 0))) ∧ Aside0 (Below w.heap.size w wc))
  case first =>
    have H := HC6.out
    clear HC6
    by_cases c10 : t175 = true
    · subst c10
      have H1 : (conchref1_among.j0 k a2 a3 (wrap64 ((wrap64 (a1 + 1)) + 1)) true a0_0 l0_1) = some r := by rw [if_pos rfl] at H; exact H
      clear H
      have H := H1
      clear H1
      have H' := Aside0.mk H
      clear H
      go_wp2
      go_meet
      case rel => exact ⟨_, (wrap64 ((wrap64 (a1 + 1)) + 1)), (by first | rfl | (simp; done) | (simp [*]; done)), H', ⟨by first | omega | exact Nat.le_refl _⟩, ⟨by (with_reducible repeat (first | refine blk_drewN ?_ _ | refine blk_drew ?_ | refine blk_alloc ?_ _)); exact BK174.out⟩, ⟨by repeat (first | (with_reducible first | exact HB.out | apply below_alloc | apply pw_below_drewN | apply below_drew1 | refine below_set ?_ GE174.out) | exact HB.out)⟩⟩
    · replace c10 := Bool.eq_false_iff.mpr c10
      subst c10
      have H1 : (conchref1_among.j0 k a2 a3 (wrap64 (a1 + 1)) false a0_0 l0_1) = some r := by rw [if_neg (show ¬ (false = true) by decide)] at H; exact H
      clear H
      have H := H1
      clear H1
      have H' := Aside0.mk H
      clear H
      go_wp2
      go_meet
      case rel => exact ⟨_, (wrap64 (a1 + 1)), (by first | rfl | (simp; done) | (simp [*]; done)), H', ⟨by first | omega | exact Nat.le_refl _⟩, ⟨by (with_reducible repeat (first | refine blk_drewN ?_ _ | refine blk_drew ?_ | refine blk_alloc ?_ _)); exact BK174.out⟩, ⟨by repeat (first | (with_reducible first | exact HB.out | apply below_alloc | apply pw_below_drewN | apply below_drew1 | refine below_set ?_ GE174.out) | exact HB.out)⟩⟩
  case rest =>
    clear HC6
    try clear c1
    try clear p2
    try clear p6
    try clear c9
    try clear c10
    try clear hcz8_0
    try clear hcz8_1
    try clear hfz8_0
    try clear hfz8_1
    obtain ⟨kq, x9_5, rfl, HA, HJ5, BK174, HB⟩ := hcut
    cases kq with
    | zero => exact absurd HA.out (by simp [conchref1_among.j0])
    | succ kj5 =>
      have H := HA.out
      clear HA
      simp only [conchref1_among.j0] at H
      have H' := Aside0.mk H
      clear H
      go_wp2
      go_loopg [9, 11] kj5 (fun kq v9 v11 w' => ∃ (x9_2 : Int) (x11_2 : Bool), v9 = .int .i64 x9_2 ∧ v11 = .bool x11_2 ∧ Aside0 (conchref1_among.l0 kq a2 a3 x9_2 t175 x11_2 a0_0 l0_1 = some r) ∧ Aside0 (kq ≤ kj5) ∧ Aside0 (w'.heap[gb174]? = some (.cells #[.string a0_0, (.slice A0_1 l0_1.length c0_1)] 60 (0, 0))) ∧ Aside0 (Below w.heap.size w w'))
      case atStart => exact ⟨(x9_5), (false), (by first | rfl | (simp; done) | (simp [*]; done)), (by first | rfl | (simp; done) | (simp [*]; done)), H', ⟨Nat.le_refl _⟩, ⟨by (with_reducible repeat (first | refine blk_drewN ?_ _ | refine blk_drew ?_ | refine blk_alloc ?_ _)); exact BK174.out⟩, ⟨by repeat (first | (with_reducible first | exact HB.out | apply below_alloc | apply pw_below_drewN | apply below_drew1 | refine below_set ?_ GE174.out) | exact HB.out)⟩⟩
      case round =>
        clear H'
        try clear c1
        try clear p2
        try clear p6
        try clear c9
        try clear c10
        try clear hcz8_0
        try clear hcz8_1
        try clear hfz8_0
        try clear hfz8_1
        try clear p2
        try clear p6
        obtain ⟨x9_2, x11_2, rfl, rfl, HA, HK2, BK174, HB⟩ := hrel
        cases gk with
        | zero => exact absurd HA.out (by simp [conchref1_among.l0])
        | succ k2 =>
          have H := HA.out
          clear HA
          simp only [conchref1_among.l0] at H
          by_cases c11 : x9_2 < a2
          · rw [if_pos c11] at H
            have c11b0 : decide (x9_2 < a2) = true := decide_eq_true c11
            clear c11
            by_cases c12 : (wrap64 (x9_2 + 2)) < a2
            · rw [if_pos c12] at H
              have c12b0 : decide ((wrap64 (x9_2 + 2)) < a2) = true := decide_eq_true c12
              clear c12
              replace H := Option.bind_eq_some_iff.mp H
              obtain ⟨t176, A130, H⟩ := H
              replace H : (if t176 = true then (if x11_2 = true then (conchref1_among.l0 k2 a2 a3 (wrap64 (x9_2 + 3)) t175 true a0_0 l0_1) else (if 0 ≤ x9_2 then (if x9_2 < (a0_0.size : Int) then (if a3 ≥ (bt a0_0 x9_2) then (if 0 ≤ (wrap64 (x9_2 + 2)) then (if (wrap64 (x9_2 + 2)) < (a0_0.size : Int) then (conchref1_among.l0 k2 a2 a3 (wrap64 (x9_2 + 3)) t175 (decide (a3 ≤ (bt a0_0 (wrap64 (x9_2 + 2))))) a0_0 l0_1) else (none)) else (none)) else (conchref1_among.l0 k2 a2 a3 (wrap64 (x9_2 + 3)) t175 false a0_0 l0_1)) else (none)) else (none))) else (if x11_2 = true then (conchref1_among.l0 k2 a2 a3 (wrap64 (x9_2 + 1)) t175 true a0_0 l0_1) else (if 0 ≤ x9_2 then (if x9_2 < (a0_0.size : Int) then (conchref1_among.l0 k2 a2 a3 (wrap64 (x9_2 + 1)) t175 (a3 == (bt a0_0 x9_2)) a0_0 l0_1) else (none)) else (none)))) = some r := H
              have A13 := Aside0.mk A130
              clear A130
              by_cases c14 : t176 = true
              · subst c14
                have H1 : (if x11_2 = true then (conchref1_among.l0 k2 a2 a3 (wrap64 (x9_2 + 3)) t175 true a0_0 l0_1) else (if 0 ≤ x9_2 then (if x9_2 < (a0_0.size : Int) then (if a3 ≥ (bt a0_0 x9_2) then (if 0 ≤ (wrap64 (x9_2 + 2)) then (if (wrap64 (x9_2 + 2)) < (a0_0.size : Int) then (conchref1_among.l0 k2 a2 a3 (wrap64 (x9_2 + 3)) t175 (decide (a3 ≤ (bt a0_0 (wrap64 (x9_2 + 2))))) a0_0 l0_1) else (none)) else (none)) else (conchref1_among.l0 k2 a2 a3 (wrap64 (x9_2 + 3)) t175 false a0_0 l0_1)) else (none)) else (none))) = some r := by rw [if_pos rfl] at H; exact H
                clear H
                have H := H1
                clear H1
                by_cases c15 : x11_2 = true
                · subst c15
                  have H1 : (conchref1_among.l0 k2 a2 a3 (wrap64 (x9_2 + 3)) t175 true a0_0 l0_1) = some r := by rw [if_pos rfl] at H; exact H
                  clear H
                  have H := H1
                  clear H1
                  have H' := Aside0.mk H
                  clear H
                  have hcz16_0 : wr.cell? ⟨gb174, 0, none⟩ = some (.string a0_0) := (blk_cell BK174.out 0).trans rfl
                  have hcz16_1 : wr.cell? ⟨gb174, 1, none⟩ = some (.slice A0_1 l0_1.length c0_1) := (blk_cell BK174.out 1).trans rfl
                  have hfz16_0 := blk_frozen BK174.out 0
                  have hfz16_1 := blk_frozen BK174.out 1
                  go_wp2_with (first | (go_at_call 94; (with_reducible refine (conchref1_is.calls a0_0 _ _ l0_1 (wrap64 (x9_2 + 1)) 45 true _ ?side1 ?side2 A13.out).mono ?_); (case side1 => repeat (first | exact (Kd.C_below HR0_1.out HB.out) | (with_reducible refine Kd.C_alloc ?_ _) | (with_reducible refine Kd.C_drewN ?_ _) | (with_reducible refine Kd.C_drew ?_))); (case side2 => exact HC0_1.out); rintro e w17 ⟨rfl, hb⟩; have n0_ := Aside0.mk (blk_below (g := gb174) (o := .cells #[.string a0_0, .slice A0_1 l0_1.length c0_1] 60 (0, 0)) (by (with_reducible repeat (first | refine blk_drewN ?_ _ | refine blk_drew ?_ | refine blk_alloc ?_ _)); exact BK174.out) hb); have n1_ := Aside0.mk (below_step (by repeat (first | (with_reducible first | exact HB.out | apply below_alloc | apply pw_below_drewN | apply below_drew1 | refine below_set ?_ GE174.out) | exact HB.out)) hb); clear BK174; clear HB; have BK174 := n0_; have HB := n1_; clear n0_ n1_; (try clear hb); (try clear hb2); (try clear hk); (try clear hi)))
                  go_roundg k2
                  case measure => have := HJ5.out; have := HK2.out; omega
                  case rel => exact ⟨(wrap64 (x9_2 + 3)), (true), (by first | rfl | (simp; done) | (simp [*]; done)), (by first | rfl | (simp; done) | (simp [*]; done)), H', ⟨by have := HJ5.out; have := HK2.out; omega⟩, ⟨by (with_reducible repeat (first | refine blk_drewN ?_ _ | refine blk_drew ?_ | refine blk_alloc ?_ _)); exact BK174.out⟩, ⟨by repeat (first | (with_reducible first | exact HB.out | apply below_alloc | apply pw_below_drewN | apply below_drew1 | refine below_set ?_ GE174.out) | exact HB.out)⟩⟩
                · replace c15 := Bool.eq_false_iff.mpr c15
                  subst c15
                  have H1 : (if 0 ≤ x9_2 then (if x9_2 < (a0_0.size : Int) then (if a3 ≥ (bt a0_0 x9_2) then (if 0 ≤ (wrap64 (x9_2 + 2)) then (if (wrap64 (x9_2 + 2)) < (a0_0.size : Int) then (conchref1_among.l0 k2 a2 a3 (wrap64 (x9_2 + 3)) t175 (decide (a3 ≤ (bt a0_0 (wrap64 (x9_2 + 2))))) a0_0 l0_1) else (none)) else (none)) else (conchref1_among.l0 k2 a2 a3 (wrap64 (x9_2 + 3)) t175 false a0_0 l0_1)) else (none)) else (none)) = some r := by rw [if_neg (show ¬ (false = true) by decide)] at H; exact H
                  clear H
                  have H := H1
                  clear H1
                  by_cases c18 : 0 ≤ x9_2
                  · rw [if_pos c18] at H
                    have c18b0 : decide (0 ≤ x9_2) = true := decide_eq_true c18
                    clear c18
                    by_cases c19 : x9_2 < (a0_0.size : Int)
                    · rw [if_pos c19] at H
                      have c19b0 : decide (x9_2 < (a0_0.size : Int)) = true := decide_eq_true c19
                      clear c19
                      by_cases c21 : a3 ≥ (bt a0_0 x9_2)
                      · rw [if_pos c21] at H
                        have c21b0 : decide ((bt a0_0 x9_2) ≤ a3) = true := decide_eq_true c21
                        clear c21
                        obtain ⟨ji22, hji22⟩ : ∃ j_ : Int, (wrap64 (x9_2 + 2)) = j_ := ⟨_, rfl⟩
                        replace H : (if 0 ≤ (ji22) then (if (ji22) < (a0_0.size : Int) then (conchref1_among.l0 k2 a2 a3 (wrap64 (x9_2 + 3)) t175 (decide (a3 ≤ (bt a0_0 (ji22)))) a0_0 l0_1) else (none)) else (none)) = some r := by first | (rw [hji22] at H; exact H) | (simp only [hji22] at H ⊢; exact H)
                        (try rw [hji22] at c12b0)
                        (try rw [hji22] at A13)
                        have hji22w : (IntKind.i64.wrap (x9_2 + 2)) = ji22 := (i64_w _).trans hji22
                        by_cases c23 : 0 ≤ (ji22)
                        · rw [if_pos c23] at H
                          have c23b0 : decide (0 ≤ (ji22)) = true := decide_eq_true c23
                          clear c23
                          by_cases c24 : (ji22) < (a0_0.size : Int)
                          · rw [if_pos c24] at H
                            have c24b0 : decide ((ji22) < (a0_0.size : Int)) = true := decide_eq_true c24
                            clear c24
                            have H' := Aside0.mk H
                            clear H
                            have hcz26_0 : wr.cell? ⟨gb174, 0, none⟩ = some (.string a0_0) := (blk_cell BK174.out 0).trans rfl
                            have hcz26_1 : wr.cell? ⟨gb174, 1, none⟩ = some (.slice A0_1 l0_1.length c0_1) := (blk_cell BK174.out 1).trans rfl
                            have hfz26_0 := blk_frozen BK174.out 0
                            have hfz26_1 := blk_frozen BK174.out 1
                            go_wp2_with (first | (go_at_call 94; (with_reducible refine (conchref1_is.calls a0_0 _ _ l0_1 (wrap64 (x9_2 + 1)) 45 true _ ?side1 ?side2 A13.out).mono ?_); (case side1 => repeat (first | exact (Kd.C_below HR0_1.out HB.out) | (with_reducible refine Kd.C_alloc ?_ _) | (with_reducible refine Kd.C_drewN ?_ _) | (with_reducible refine Kd.C_drew ?_))); (case side2 => exact HC0_1.out); rintro e w27 ⟨rfl, hb⟩; have n0_ := Aside0.mk (blk_below (g := gb174) (o := .cells #[.string a0_0, .slice A0_1 l0_1.length c0_1] 60 (0, 0)) (by (with_reducible repeat (first | refine blk_drewN ?_ _ | refine blk_drew ?_ | refine blk_alloc ?_ _)); exact BK174.out) hb); have n1_ := Aside0.mk (below_step (by repeat (first | (with_reducible first | exact HB.out | apply below_alloc | apply pw_below_drewN | apply below_drew1 | refine below_set ?_ GE174.out) | exact HB.out)) hb); clear BK174; clear HB; have BK174 := n0_; have HB := n1_; clear n0_ n1_; (try clear hb); (try clear hb2); (try clear hk); (try clear hi); have hcz28_0 : w27.cell? ⟨gb174, 0, none⟩ = some (.string a0_0) := (blk_cell BK174.out 0).trans rfl; have hcz28_1 : w27.cell? ⟨gb174, 1, none⟩ = some (.slice A0_1 l0_1.length c0_1) := (blk_cell BK174.out 1).trans rfl; have hfz28_0 := blk_frozen BK174.out 0; have hfz28_1 := blk_frozen BK174.out 1; have p20 : 0 ≤ (x9_2 : Int) := of_decide_eq_true (by first | (with_reducible assumption) | assumption); have q20 : x9_2 < (a0_0.size : Int) := of_decide_eq_true (by first | (with_reducible assumption) | assumption); have hx20 := bt_at a0_0 x9_2; replace p20 := eq_true p20; replace q20 := eq_true q20; have p25 : 0 ≤ ((ji22) : Int) := of_decide_eq_true (by first | (with_reducible assumption) | assumption); have q25 : (ji22) < (a0_0.size : Int) := of_decide_eq_true (by first | (with_reducible assumption) | assumption); have hx25 := bt_at a0_0 (ji22); replace p25 := eq_true p25; replace q25 := eq_true q25))
                            go_roundg k2
                            case measure => have := HJ5.out; have := HK2.out; omega
                            case rel => exact ⟨(wrap64 (x9_2 + 3)), (decide (a3 ≤ (bt a0_0 (ji22)))), (by first | rfl | (simp; done) | (simp [*]; done)), (by first | rfl | (simp; done) | (simp only [← hji22] <;> (first | rfl | simp)) | (simp [*]; done)), H', ⟨by have := HJ5.out; have := HK2.out; omega⟩, ⟨by (with_reducible repeat (first | refine blk_drewN ?_ _ | refine blk_drew ?_ | refine blk_alloc ?_ _)); exact BK174.out⟩, ⟨by repeat (first | (with_reducible first | exact HB.out | apply below_alloc | apply pw_below_drewN | apply below_drew1 | refine below_set ?_ GE174.out) | exact HB.out)⟩⟩
                          · rw [if_neg c24] at H
                            exact absurd H (by simp)
                        · rw [if_neg c23] at H
                          exact absurd H (by simp)
                      · rw [if_neg c21] at H
                        have c21b0 : decide ((bt a0_0 x9_2) ≤ a3) = false := decide_eq_false c21
                        clear c21
                        have H' := Aside0.mk H
                        clear H
                        have hcz29_0 : wr.cell? ⟨gb174, 0, none⟩ = some (.string a0_0) := (blk_cell BK174.out 0).trans rfl
                        have hcz29_1 : wr.cell? ⟨gb174, 1, none⟩ = some (.slice A0_1 l0_1.length c0_1) := (blk_cell BK174.out 1).trans rfl
                        have hfz29_0 := blk_frozen BK174.out 0
                        have hfz29_1 := blk_frozen BK174.out 1
                        go_wp2_with (first | (go_at_call 94; (with_reducible refine (conchref1_is.calls a0_0 _ _ l0_1 (wrap64 (x9_2 + 1)) 45 true _ ?side1 ?side2 A13.out).mono ?_); (case side1 => repeat (first | exact (Kd.C_below HR0_1.out HB.out) | (with_reducible refine Kd.C_alloc ?_ _) | (with_reducible refine Kd.C_drewN ?_ _) | (with_reducible refine Kd.C_drew ?_))); (case side2 => exact HC0_1.out); rintro e w30 ⟨rfl, hb⟩; have n0_ := Aside0.mk (blk_below (g := gb174) (o := .cells #[.string a0_0, .slice A0_1 l0_1.length c0_1] 60 (0, 0)) (by (with_reducible repeat (first | refine blk_drewN ?_ _ | refine blk_drew ?_ | refine blk_alloc ?_ _)); exact BK174.out) hb); have n1_ := Aside0.mk (below_step (by repeat (first | (with_reducible first | exact HB.out | apply below_alloc | apply pw_below_drewN | apply below_drew1 | refine below_set ?_ GE174.out) | exact HB.out)) hb); clear BK174; clear HB; have BK174 := n0_; have HB := n1_; clear n0_ n1_; (try clear hb); (try clear hb2); (try clear hk); (try clear hi); have hcz31_0 : w30.cell? ⟨gb174, 0, none⟩ = some (.string a0_0) := (blk_cell BK174.out 0).trans rfl; have hcz31_1 : w30.cell? ⟨gb174, 1, none⟩ = some (.slice A0_1 l0_1.length c0_1) := (blk_cell BK174.out 1).trans rfl; have hfz31_0 := blk_frozen BK174.out 0; have hfz31_1 := blk_frozen BK174.out 1; have p20 : 0 ≤ (x9_2 : Int) := of_decide_eq_true (by first | (with_reducible assumption) | assumption); have q20 : x9_2 < (a0_0.size : Int) := of_decide_eq_true (by first | (with_reducible assumption) | assumption); have hx20 := bt_at a0_0 x9_2; replace p20 := eq_true p20; replace q20 := eq_true q20))
                        go_roundg k2
                        case measure => have := HJ5.out; have := HK2.out; omega
                        case rel => exact ⟨(wrap64 (x9_2 + 3)), (false), (by first | rfl | (simp; done) | (simp [*]; done)), (by first | rfl | (simp; done) | (simp [*]; done)), H', ⟨by have := HJ5.out; have := HK2.out; omega⟩, ⟨by (with_reducible repeat (first | refine blk_drewN ?_ _ | refine blk_drew ?_ | refine blk_alloc ?_ _)); exact BK174.out⟩, ⟨by repeat (first | (with_reducible first | exact HB.out | apply below_alloc | apply pw_below_drewN | apply below_drew1 | refine below_set ?_ GE174.out) | exact HB.out)⟩⟩
                    · rw [if_neg c19] at H
                      exact absurd H (by simp)
                  · rw [if_neg c18] at H
                    exact absurd H (by simp)
              · replace c14 := Bool.eq_false_iff.mpr c14
                subst c14
                have H1 : (if x11_2 = true then (conchref1_among.l0 k2 a2 a3 (wrap64 (x9_2 + 1)) t175 true a0_0 l0_1) else (if 0 ≤ x9_2 then (if x9_2 < (a0_0.size : Int) then (conchref1_among.l0 k2 a2 a3 (wrap64 (x9_2 + 1)) t175 (a3 == (bt a0_0 x9_2)) a0_0 l0_1) else (none)) else (none))) = some r := by rw [if_neg (show ¬ (false = true) by decide)] at H; exact H
                clear H
                have H := H1
                clear H1
                by_cases c32 : x11_2 = true
                · subst c32
                  have H1 : (conchref1_among.l0 k2 a2 a3 (wrap64 (x9_2 + 1)) t175 true a0_0 l0_1) = some r := by rw [if_pos rfl] at H; exact H
                  clear H
                  have H := H1
                  clear H1
                  have H' := Aside0.mk H
                  clear H
                  have hcz33_0 : wr.cell? ⟨gb174, 0, none⟩ = some (.string a0_0) := (blk_cell BK174.out 0).trans rfl
                  have hcz33_1 : wr.cell? ⟨gb174, 1, none⟩ = some (.slice A0_1 l0_1.length c0_1) := (blk_cell BK174.out 1).trans rfl
                  have hfz33_0 := blk_frozen BK174.out 0
                  have hfz33_1 := blk_frozen BK174.out 1
                  go_wp2_with (first | (go_at_call 94; (with_reducible refine (conchref1_is.calls a0_0 _ _ l0_1 (wrap64 (x9_2 + 1)) 45 false _ ?side1 ?side2 A13.out).mono ?_); (case side1 => repeat (first | exact (Kd.C_below HR0_1.out HB.out) | (with_reducible refine Kd.C_alloc ?_ _) | (with_reducible refine Kd.C_drewN ?_ _) | (with_reducible refine Kd.C_drew ?_))); (case side2 => exact HC0_1.out); rintro e w34 ⟨rfl, hb⟩; have n0_ := Aside0.mk (blk_below (g := gb174) (o := .cells #[.string a0_0, .slice A0_1 l0_1.length c0_1] 60 (0, 0)) (by (with_reducible repeat (first | refine blk_drewN ?_ _ | refine blk_drew ?_ | refine blk_alloc ?_ _)); exact BK174.out) hb); have n1_ := Aside0.mk (below_step (by repeat (first | (with_reducible first | exact HB.out | apply below_alloc | apply pw_below_drewN | apply below_drew1 | refine below_set ?_ GE174.out) | exact HB.out)) hb); clear BK174; clear HB; have BK174 := n0_; have HB := n1_; clear n0_ n1_; (try clear hb); (try clear hb2); (try clear hk); (try clear hi)))
                  go_roundg k2
                  case measure => have := HJ5.out; have := HK2.out; omega
                  case rel => exact ⟨(wrap64 (x9_2 + 1)), (true), (by first | rfl | (simp; done) | (simp [*]; done)), (by first | rfl | (simp; done) | (simp [*]; done)), H', ⟨by have := HJ5.out; have := HK2.out; omega⟩, ⟨by (with_reducible repeat (first | refine blk_drewN ?_ _ | refine blk_drew ?_ | refine blk_alloc ?_ _)); exact BK174.out⟩, ⟨by repeat (first | (with_reducible first | exact HB.out | apply below_alloc | apply pw_below_drewN | apply below_drew1 | refine below_set ?_ GE174.out) | exact HB.out)⟩⟩
                · replace c32 := Bool.eq_false_iff.mpr c32
                  subst c32
                  have H1 : (if 0 ≤ x9_2 then (if x9_2 < (a0_0.size : Int) then (conchref1_among.l0 k2 a2 a3 (wrap64 (x9_2 + 1)) t175 (a3 == (bt a0_0 x9_2)) a0_0 l0_1) else (none)) else (none)) = some r := by rw [if_neg (show ¬ (false = true) by decide)] at H; exact H
                  clear H
                  have H := H1
                  clear H1
                  by_cases c35 : 0 ≤ x9_2
                  · rw [if_pos c35] at H
                    have c35b0 : decide (0 ≤ x9_2) = true := decide_eq_true c35
                    clear c35
                    by_cases c36 : x9_2 < (a0_0.size : Int)
                    · rw [if_pos c36] at H
                      have c36b0 : decide (x9_2 < (a0_0.size : Int)) = true := decide_eq_true c36
                      clear c36
                      have H' := Aside0.mk H
                      clear H
                      have hcz38_0 : wr.cell? ⟨gb174, 0, none⟩ = some (.string a0_0) := (blk_cell BK174.out 0).trans rfl
                      have hcz38_1 : wr.cell? ⟨gb174, 1, none⟩ = some (.slice A0_1 l0_1.length c0_1) := (blk_cell BK174.out 1).trans rfl
                      have hfz38_0 := blk_frozen BK174.out 0
                      have hfz38_1 := blk_frozen BK174.out 1
                      go_wp2_with (first | (go_at_call 94; (with_reducible refine (conchref1_is.calls a0_0 _ _ l0_1 (wrap64 (x9_2 + 1)) 45 false _ ?side1 ?side2 A13.out).mono ?_); (case side1 => repeat (first | exact (Kd.C_below HR0_1.out HB.out) | (with_reducible refine Kd.C_alloc ?_ _) | (with_reducible refine Kd.C_drewN ?_ _) | (with_reducible refine Kd.C_drew ?_))); (case side2 => exact HC0_1.out); rintro e w39 ⟨rfl, hb⟩; have n0_ := Aside0.mk (blk_below (g := gb174) (o := .cells #[.string a0_0, .slice A0_1 l0_1.length c0_1] 60 (0, 0)) (by (with_reducible repeat (first | refine blk_drewN ?_ _ | refine blk_drew ?_ | refine blk_alloc ?_ _)); exact BK174.out) hb); have n1_ := Aside0.mk (below_step (by repeat (first | (with_reducible first | exact HB.out | apply below_alloc | apply pw_below_drewN | apply below_drew1 | refine below_set ?_ GE174.out) | exact HB.out)) hb); clear BK174; clear HB; have BK174 := n0_; have HB := n1_; clear n0_ n1_; (try clear hb); (try clear hb2); (try clear hk); (try clear hi); have hcz40_0 : w39.cell? ⟨gb174, 0, none⟩ = some (.string a0_0) := (blk_cell BK174.out 0).trans rfl; have hcz40_1 : w39.cell? ⟨gb174, 1, none⟩ = some (.slice A0_1 l0_1.length c0_1) := (blk_cell BK174.out 1).trans rfl; have hfz40_0 := blk_frozen BK174.out 0; have hfz40_1 := blk_frozen BK174.out 1; have p37 : 0 ≤ (x9_2 : Int) := of_decide_eq_true (by first | (with_reducible assumption) | assumption); have q37 : x9_2 < (a0_0.size : Int) := of_decide_eq_true (by first | (with_reducible assumption) | assumption); have hx37 := bt_at a0_0 x9_2; replace p37 := eq_true p37; replace q37 := eq_true q37))
                      go_roundg k2
                      case measure => have := HJ5.out; have := HK2.out; omega
                      case rel => exact ⟨(wrap64 (x9_2 + 1)), ((a3 == (bt a0_0 x9_2))), (by first | rfl | (simp; done) | (simp [*]; done)), (by first | rfl | (simp; done) | (simp [*]; done)), H', ⟨by have := HJ5.out; have := HK2.out; omega⟩, ⟨by (with_reducible repeat (first | refine blk_drewN ?_ _ | refine blk_drew ?_ | refine blk_alloc ?_ _)); exact BK174.out⟩, ⟨by repeat (first | (with_reducible first | exact HB.out | apply below_alloc | apply pw_below_drewN | apply below_drew1 | refine below_set ?_ GE174.out) | exact HB.out)⟩⟩
                    · rw [if_neg c36] at H
                      exact absurd H (by simp)
                  · rw [if_neg c35] at H
                    exact absurd H (by simp)
            · rw [if_neg c12] at H
              have c12b0 : decide ((wrap64 (x9_2 + 2)) < a2) = false := decide_eq_false c12
              clear c12
              by_cases c41 : x11_2 = true
              · subst c41
                have H1 : (conchref1_among.l0 k2 a2 a3 (wrap64 (x9_2 + 1)) t175 true a0_0 l0_1) = some r := by rw [if_pos rfl] at H; exact H
                clear H
                have H := H1
                clear H1
                have H' := Aside0.mk H
                clear H
                go_wp2
                go_roundg k2
                case measure => have := HJ5.out; have := HK2.out; omega
                case rel => exact ⟨(wrap64 (x9_2 + 1)), (true), (by first | rfl | (simp; done) | (simp [*]; done)), (by first | rfl | (simp; done) | (simp [*]; done)), H', ⟨by have := HJ5.out; have := HK2.out; omega⟩, ⟨by (with_reducible repeat (first | refine blk_drewN ?_ _ | refine blk_drew ?_ | refine blk_alloc ?_ _)); exact BK174.out⟩, ⟨by repeat (first | (with_reducible first | exact HB.out | apply below_alloc | apply pw_below_drewN | apply below_drew1 | refine below_set ?_ GE174.out) | exact HB.out)⟩⟩
              · replace c41 := Bool.eq_false_iff.mpr c41
                subst c41
                have H1 : (if 0 ≤ x9_2 then (if x9_2 < (a0_0.size : Int) then (conchref1_among.l0 k2 a2 a3 (wrap64 (x9_2 + 1)) t175 (a3 == (bt a0_0 x9_2)) a0_0 l0_1) else (none)) else (none)) = some r := by rw [if_neg (show ¬ (false = true) by decide)] at H; exact H
                clear H
                have H := H1
                clear H1
                by_cases c42 : 0 ≤ x9_2
                · rw [if_pos c42] at H
                  have c42b0 : decide (0 ≤ x9_2) = true := decide_eq_true c42
                  clear c42
                  by_cases c43 : x9_2 < (a0_0.size : Int)
                  · rw [if_pos c43] at H
                    have c43b0 : decide (x9_2 < (a0_0.size : Int)) = true := decide_eq_true c43
                    clear c43
                    have H' := Aside0.mk H
                    clear H
                    have hcz45_0 : wr.cell? ⟨gb174, 0, none⟩ = some (.string a0_0) := (blk_cell BK174.out 0).trans rfl
                    have hcz45_1 : wr.cell? ⟨gb174, 1, none⟩ = some (.slice A0_1 l0_1.length c0_1) := (blk_cell BK174.out 1).trans rfl
                    have hfz45_0 := blk_frozen BK174.out 0
                    have hfz45_1 := blk_frozen BK174.out 1
                    have p44 : 0 ≤ (x9_2 : Int) := of_decide_eq_true (by first | (with_reducible assumption) | assumption)
                    have q44 : x9_2 < (a0_0.size : Int) := of_decide_eq_true (by first | (with_reducible assumption) | assumption)
                    have hx44 := bt_at a0_0 x9_2
                    replace p44 := eq_true p44
                    replace q44 := eq_true q44
                    go_wp2
                    go_roundg k2
                    case measure => have := HJ5.out; have := HK2.out; omega
                    case rel => exact ⟨(wrap64 (x9_2 + 1)), ((a3 == (bt a0_0 x9_2))), (by first | rfl | (simp; done) | (simp [*]; done)), (by first | rfl | (simp; done) | (simp [*]; done)), H', ⟨by have := HJ5.out; have := HK2.out; omega⟩, ⟨by (with_reducible repeat (first | refine blk_drewN ?_ _ | refine blk_drew ?_ | refine blk_alloc ?_ _)); exact BK174.out⟩, ⟨by repeat (first | (with_reducible first | exact HB.out | apply below_alloc | apply pw_below_drewN | apply below_drew1 | refine below_set ?_ GE174.out) | exact HB.out)⟩⟩
                  · rw [if_neg c43] at H
                    exact absurd H (by simp)
                · rw [if_neg c42] at H
                  exact absurd H (by simp)
          · rw [if_neg c11] at H
            have c11b0 : decide (x9_2 < a2) = false := decide_eq_false c11
            clear c11
            obtain rfl := Option.some.inj H
            go_wp2
            go_ret
            exact ⟨by first | rfl | (simp [errW_none, errW_some] <;> rfl) | (simp [*, errW_none, errW_some] <;> rfl), by repeat (first | (with_reducible first | exact HB.out | apply below_alloc | apply pw_below_drewN | apply below_drew1 | refine below_set ?_ GE174.out) | exact HB.out)⟩

end Go.Proofs.Ytfdjbjinomfgiaa.GrTree
