-- PRINTED by print.py (a twelfth state) out of the translation. Not trusted: Lean checks it.
import Derived.Test.YtfdjbjinomfgiaaGrTree0
import Derived.Test.YtfdjbjinomfgiaaGrTree2
namespace Go.Proofs.Ytfdjbjinomfgiaa.GrTree
open Go.RowKit Go.Proofs.YtfdjbjinomfgiaaW.PrintWords Go.Proofs.YtfdjbjinomfgiaaW.PrintLast Go.Proofs.YtfdjbjinomfgiaaW.PrintMore
attribute [local go_sem] max2_int min2_int max_two min_two max_three min_three max_four min_four   -- for this text's walks alone
set_option linter.unusedVariables false
set_option linter.unusedSimpArgs false

/-! ### pat_matched: function 139 -/
mutual
def pat_matched.l0 : Nat → ByteArray → List Bool → List (S199) → Int → Int → Option (Bool)
  | 0, _, _, _, _, _ => none
  | k + 1, x1, x5, x17, x18, x19 => if x19 < x18 then (if 0 ≤ x19 then (if x19 < (x17.length : Int) then (if 0 ≤ (wrap64 ((x1.size : Int) + 1)) then (if (wrap64 ((x1.size : Int) + 1) : Int).toNat ≤ 281474976710656 then (pat_matched.l1 k x1 (List.replicate (wrap64 ((x1.size : Int) + 1) : Int).toNat false) x17 x18 x19 x5 (x5.length : Int) 0 ((rd_T199 x17 x19).f0) ((rd_T199 x17 x19).f1) ((rd_T199 x17 x19).f2) ((rd_T199 x17 x19).f3) ((rd_T199 x17 x19).f4) ((rd_T199 x17 x19).f5)) else (none)) else (none)) else (none)) else (none)) else (if 0 ≤ (x1.size : Int) then (if (x1.size : Int) < (x5.length : Int) then (some (rdOf false x5 (x1.size : Int))) else (none)) else (none))
def pat_matched.l1 : Nat → ByteArray → List Bool → List (S199) → Int → Int → List Bool → Int → Int → Int → Int → ByteArray → List Bool → Bool → Bool → Option (Bool)
  | 0, _, _, _, _, _, _, _, _, _, _, _, _, _, _ => none
  | k + 1, x1, x8, x17, x18, x19, x27, x28, x29, x112000, x112001, x112002, x112003, x112004, x112005 => if x29 < x28 then (if 0 ≤ x29 then (if x29 < (x27.length : Int) then (if x112000 = 42 then (if rdOf false x27 x29 = true then (if x29 < (x8.length : Int) then (pat_matched.l1 k x1 (x8.set (x29 : Int).toNat true) x17 x18 x19 x27 x28 (wrap64 (x29 + 1)) x112000 x112001 x112002 x112003 x112004 x112005) else (none)) else (if x29 > 0 then (if 0 ≤ (wrap64 (x29 - 1)) then (if (wrap64 (x29 - 1)) < (x8.length : Int) then (if x29 < (x8.length : Int) then (pat_matched.l1 k x1 (x8.set (x29 : Int).toNat (rdOf false x8 (wrap64 (x29 - 1)))) x17 x18 x19 x27 x28 (wrap64 (x29 + 1)) x112000 x112001 x112002 x112003 x112004 x112005) else (none)) else (none)) else (none)) else (if x29 < (x8.length : Int) then (pat_matched.l1 k x1 (x8.set (x29 : Int).toNat false) x17 x18 x19 x27 x28 (wrap64 (x29 + 1)) x112000 x112001 x112002 x112003 x112004 x112005) else (none)))) else (if rdOf false x27 x29 = true then (if x29 < (x1.size : Int) then ((pat_item_one.f k x112000 x112001 x112002 x112003 x112004 x112005 (bt x1 x29)).bind fun t120 => (if t120 = true then (if 0 ≤ (wrap64 (x29 + 1)) then (if (wrap64 (x29 + 1)) < (x8.length : Int) then (pat_matched.l1 k x1 (x8.set ((wrap64 (x29 + 1)) : Int).toNat true) x17 x18 x19 x27 x28 (wrap64 (x29 + 1)) x112000 x112001 x112002 x112003 x112004 x112005) else (none)) else (none)) else (pat_matched.l1 k x1 x8 x17 x18 x19 x27 x28 (wrap64 (x29 + 1)) x112000 x112001 x112002 x112003 x112004 x112005))) else (pat_matched.l1 k x1 x8 x17 x18 x19 x27 x28 (wrap64 (x29 + 1)) x112000 x112001 x112002 x112003 x112004 x112005)) else (pat_matched.l1 k x1 x8 x17 x18 x19 x27 x28 (wrap64 (x29 + 1)) x112000 x112001 x112002 x112003 x112004 x112005))) else (none)) else (none)) else (pat_matched.l0 k x1 x8 x17 x18 (wrap64 (x19 + 1)))
end
def pat_matched.f (k : Nat) (l0 : List (S199)) (a1 : ByteArray) : Option (Bool) := if 0 ≤ (wrap64 ((a1.size : Int) + 1)) then (if (wrap64 ((a1.size : Int) + 1) : Int).toNat ≤ 281474976710656 then ((some (List.replicate (wrap64 ((a1.size : Int) + 1) : Int).toNat false : List Bool)).bind fun y105 => (if 0 < (y105.length : Int) then (pat_matched.l0 k a1 (y105.set (0 : Int).toNat true) l0 (l0.length : Int) 0) else (none))) else (none)) else (none)
theorem pat_matched.mono_l : ∀ k, (∀ y0 y1 y2 y3 y4, LeO (pat_matched.l0 k y0 y1 y2 y3 y4) (pat_matched.l0 (k + 1) y0 y1 y2 y3 y4)) ∧ (∀ y0 y1 y2 y3 y4 y5 y6 y7 y8 y9 y10 y11 y12 y13, LeO (pat_matched.l1 k y0 y1 y2 y3 y4 y5 y6 y7 y8 y9 y10 y11 y12 y13) (pat_matched.l1 (k + 1) y0 y1 y2 y3 y4 y5 y6 y7 y8 y9 y10 y11 y12 y13))
  | 0 => ⟨fun _ _ _ _ _ r h => by simp [pat_matched.l0] at h, fun _ _ _ _ _ _ _ _ _ _ _ _ _ _ r h => by simp [pat_matched.l1] at h⟩
  | k + 1 => by
    obtain ⟨ih0, ih1⟩ := pat_matched.mono_l k
    refine ⟨?_, ?_⟩
    · intro y0 y1 y2 y3 y4
      unfold pat_matched.l0
      repeat' first
      | (with_reducible exact ih0 _ _ _ _ _)
      | (with_reducible exact ih1 _ _ _ _ _ _ _ _ _ _ _ _ _ _)
      | (with_reducible exact pat_item_one.mono _ _ _ _ _ _ _ _)
      | (with_reducible exact LeO.refl _)
      | (with_reducible exact LeO.none _)
      | (with_reducible refine LeO.ite ?_ ?_)
      | (with_reducible refine LeO.bind ?_ (fun _ => ?_))
      | exact ih0 _ _ _ _ _
      | exact ih1 _ _ _ _ _ _ _ _ _ _ _ _ _ _
      | exact pat_item_one.mono _ _ _ _ _ _ _ _
      | exact LeO.none _
      | refine LeO.ite ?_ ?_
      | refine LeO.bind ?_ (fun _ => ?_)
    · intro y0 y1 y2 y3 y4 y5 y6 y7 y8 y9 y10 y11 y12 y13
      unfold pat_matched.l1
      repeat' first
      | (with_reducible exact ih0 _ _ _ _ _)
      | (with_reducible exact ih1 _ _ _ _ _ _ _ _ _ _ _ _ _ _)
      | (with_reducible exact pat_item_one.mono _ _ _ _ _ _ _ _)
      | (with_reducible exact LeO.refl _)
      | (with_reducible exact LeO.none _)
      | (with_reducible refine LeO.ite ?_ ?_)
      | (with_reducible refine LeO.bind ?_ (fun _ => ?_))
      | exact ih0 _ _ _ _ _
      | exact ih1 _ _ _ _ _ _ _ _ _ _ _ _ _ _
      | exact pat_item_one.mono _ _ _ _ _ _ _ _
      | exact LeO.none _
      | refine LeO.ite ?_ ?_
      | refine LeO.bind ?_ (fun _ => ?_)
theorem pat_matched.mono : ∀ a0 a1 k, LeO (pat_matched.f k a0 a1) (pat_matched.f (k + 1) a0 a1) := by
  intro a0 a1 k
  obtain ⟨ih0, ih1⟩ := pat_matched.mono_l k
  unfold pat_matched.f
  repeat' first
      | (with_reducible exact ih0 _ _ _ _ _)
      | (with_reducible exact ih1 _ _ _ _ _ _ _ _ _ _ _ _ _ _)
      | (with_reducible exact pat_item_one.mono _ _ _ _ _ _ _ _)
      | (with_reducible exact LeO.refl _)
      | (with_reducible exact LeO.none _)
      | (with_reducible refine LeO.ite ?_ ?_)
      | (with_reducible refine LeO.bind ?_ (fun _ => ?_))
      | exact ih0 _ _ _ _ _
      | exact ih1 _ _ _ _ _ _ _ _ _ _ _ _ _ _
      | exact pat_item_one.mono _ _ _ _ _ _ _ _
      | exact LeO.none _
      | refine LeO.ite ?_ ?_
      | refine LeO.bind ?_ (fun _ => ?_)
def pat_matched.T12 : Bool × List (List Nat × List Nat) := (true, [([], []), ([0], [0]), ([1], [1]), ([1], [1]), ([3, 1], [1, 3]), ([2, 4, 1], [1, 2, 4]), ([1, 5], [1, 5]), ([6, 1], [6]), ([7], [7]), ([7], [7]), ([7], [7]), ([9, 10, 7], [7, 9, 10]), ([8, 11, 7, 7], [7, 8, 11]), ([7, 12], [7, 12]), ([13, 12], [13])])
def pat_matched.B12 : List Nat := [0, 1, 3, 3, 11, 31, 63, 127, 255, 255, 255, 1791, 4095, 8191, 16383]
theorem pat_matched.tab12 : rtab .any (opsOf Try.f139 12) = pat_matched.T12 := by kernel_rfl
theorem pat_matched.bits12 : waitsOk pat_matched.T12.2 pat_matched.B12 = true := by kernel_rfl
set_option maxHeartbeats 8000000 in
set_option maxRecDepth 100000 in
theorem pat_matched.calls (k : Nat) (A0 : Option Addr) (c0 : Nat) (l0 : List (S199)) (a1 : ByteArray) (r : Bool) (w : World) (hr0 : Kd.C k199 w A0 l0.length l0) (hc0 : l0.length ≤ c0) (h : pat_matched.f k l0 a1 = some r) :
    Calls Try.prog 139 #[.slice A0 l0.length c0, .string a1] w fun e w' => e = .returned (.bool r) ∧ Below w.heap.size w w' := by
  have hu199 := Try.underlying199
  have HR0 := Aside0.mk hr0
  have HC0 := Aside0.mk hc0
  clear hr0 hc0
  have HB := Aside0.mk (Below.refl w.heap.size w)
  have H : (if 0 ≤ (wrap64 ((a1.size : Int) + 1)) then (if (wrap64 ((a1.size : Int) + 1) : Int).toNat ≤ 281474976710656 then ((some (List.replicate (wrap64 ((a1.size : Int) + 1) : Int).toNat false : List Bool)).bind fun y105 => (if 0 < (y105.length : Int) then (pat_matched.l0 k a1 (y105.set (0 : Int).toNat true) l0 (l0.length : Int) 0) else (none))) else (none)) else (none)) = some r := h
  clear h
  obtain ⟨ji3, hji3⟩ : ∃ j_ : Int, (wrap64 ((a1.size : Int) + 1)) = j_ := ⟨_, rfl⟩
  replace H : (if 0 ≤ (ji3) then (if (ji3 : Int).toNat ≤ 281474976710656 then ((some (List.replicate (ji3 : Int).toNat false : List Bool)).bind fun y105 => (if 0 < (y105.length : Int) then (pat_matched.l0 k a1 (y105.set (0 : Int).toNat true) l0 (l0.length : Int) 0) else (none))) else (none)) else (none)) = some r := by first | (rw [hji3] at H; exact H) | (simp only [hji3] at H ⊢; exact H)
  have hji3w : (IntKind.i64.wrap ((a1.size : Int) + 1)) = ji3 := (i64_w _).trans hji3
  by_cases c4 : 0 ≤ (ji3)
  · rw [if_pos c4] at H
    have c4b0 := eq_true c4
    have c4b1 : decide (0 ≤ (ji3)) = true := decide_eq_true c4
    clear c4
    by_cases c5 : (ji3 : Int).toNat ≤ 281474976710656
    · rw [if_pos c5] at H
      have c5b0 := eq_true c5
      have c5b1 : decide ((ji3 : Int).toNat ≤ 281474976710656) = true := decide_eq_true c5
      clear c5
      obtain ⟨y105, hy105⟩ : ∃ y_ : List Bool, y_ = (List.replicate (ji3 : Int).toNat false) := ⟨_, rfl⟩
      replace H : (if 0 < (y105.length : Int) then (pat_matched.l0 k a1 (y105.set (0 : Int).toNat true) l0 (l0.length : Int) 0) else (none)) = some r := by first | (rw [hy105]; with_reducible exact H) | (have H2_ := (Option.bind_some _ _).symm.trans H; rw [hy105]; with_reducible exact H2_) | (have H2_ := (Option.bind_some _ _).symm.trans H; with_reducible exact H2_) | with_reducible exact H | (rw [hy105]; exact H) | exact H
      have Ny105 := Aside0.mk hy105
      clear hy105
      by_cases c6 : 0 < (y105.length : Int)
      · rw [if_pos c6] at H
        have c6b0 : decide (0 < (y105.length : Int)) = true := decide_eq_true c6
        have c6b1 : decide (0 < y105.length) = true := decide_eq_true (by omega)
        clear c6
        obtain ⟨y108, hy108⟩ : ∃ y_ : List Bool, y_ = (y105.set (0 : Int).toNat true) := ⟨_, rfl⟩
        replace H : (pat_matched.l0 k a1 y108 l0 (l0.length : Int) 0) = some r := by first | (rw [hy108]; with_reducible exact H) | (have H2_ := (Option.bind_some _ _).symm.trans H; rw [hy108]; with_reducible exact H2_) | (have H2_ := (Option.bind_some _ _).symm.trans H; with_reducible exact H2_) | with_reducible exact H | (rw [hy108]; exact H) | exact H
        have Ny108 := Aside0.mk hy108
        clear hy108
        have H' := Aside0.mk H
        clear H
        go_enter Try.func139, Try.ntmps139
        go_wp2_with (first | ((with_reducible refine gate_dst (N := 14) rfl ?_); (try (refine gate_guard (by rfl) ?_; dsimp only)); refine Kd.R_make Kd.bool _ 4 rfl (N := 14) rfl 58 _ _ rfl ji3 rfl rfl Try.underlying58 (.bool false) 1 info4 rfl (by decide) (by omega) false (ok := fun _ => True) (okp := fun _ => True) rfl (fun _ hk => hk) trivial (of_decide_eq_true (by first | (with_reducible assumption) | assumption)) (Nat.le_trans (Nat.mul_le_mul_right _ (of_decide_eq_true (by first | (with_reducible assumption) | assumption) : ji3.toNat ≤ 281474976710656)) (by omega)) (Below.refl _ _) (Nat.le_refl _) ?_; intro v106 w8 ho9 hb hg_ hnew_; clear hg_ hnew_; (first | rw [← Ny105.out] at ho9 | (simp only [Int.reduceToNat] at ho9; rw [← Ny105.out] at ho9)); have n0_ := Aside0.mk (Kd.R_lower ho9 (below_size (by repeat (first | (with_reducible first | exact HB.out | apply below_alloc | apply pw_below_drewN | apply below_drew1) | exact HB.out)))); have n1_ := Aside0.mk (below_step (by repeat (first | (with_reducible first | exact HB.out | apply below_alloc | apply pw_below_drewN | apply below_drew1) | exact HB.out)) hb); clear HB; have HO107 := n0_; have HB := n1_; clear n0_ n1_; clear hb ho9; have p7 : 0 ≤ (0 : Int) := (by omega); have q7 : (0 : Int) < ((y105.length : Int) : Int) := of_decide_eq_true (by first | (with_reducible assumption) | assumption); have qi7 : (0 < y105.length) = True := eq_true (by omega); obtain ⟨go7, co7, eo7, gb7, gl7, cl7, HG7⟩ := Kd.R_form HO107.out (by omega); (first | cases eo7 | (injection eo7 with ea_ en_ ec_; (first | subst ea_ | (injection ea_ with ea_; subst ea_)); subst ec_; clear en_)); have GB7 := Aside0.mk gb7; have GG7 := Aside0.mk HG7; clear gb7 gl7 HG7; obtain ⟨hx7_0, hf7_0⟩ := Kd.R_celln false HO107.out (0 : Int) p7 q7; (try rw [show ((0 : Int)).toNat = 0 from rfl] at hx7_0); (try simp only [Nat.reduceMul, Nat.zero_mul, Nat.zero_add, Nat.reduceAdd] at hx7_0); (try rw [show ((0 : Int)).toNat = 0 from rfl] at hf7_0); (try simp only [Nat.reduceMul, Nat.zero_mul, Nat.zero_add, Nat.reduceAdd] at hf7_0); replace p7 := eq_true p7; replace q7 := eq_true q7; obtain ⟨hy10_, hz10_⟩ := Kd.R_celln false HO107.out (0 : Int) (by omega) (of_decide_eq_true (by first | (with_reducible assumption) | assumption)); (try simp only [Int.reduceToNat, Int.toNat_zero, Int.toNat_ofNat, Nat.reduceMul, Nat.zero_mul, Nat.zero_add] at hy10_ hz10_); (try rw [show ((0 : Int)).toNat = 0 from rfl] at hy10_); (try rw [show ((0 : Int)).toNat = 0 from rfl] at hz10_); have HP10 := Kd.R_putg HO107.out (0 : Int) true) | ((with_reducible refine gate_store (t := 4) (p := 16) rfl ?_); refine store_event (t := 4) (p := 16) (v := ?vo_w11) (w1 := (w8.setCell ⟨go7, (0 : Int).toNat, none⟩ (.bool true))) ?hg ?ho ?hn ?hr ?_; (case ho => rfl); (case hg => rfl); (case hn => rfl); (case hr => first | (go_simp; done) | (go_simp; rfl)); intro w11 hw; have hg : w8.grownBy w11 (some go7) := (by rw [hw]; exact HP10.2); have hp_ : Kd.R Kd.bool 4 w11 w.heap.size (fun _ => True) (.slice (some ⟨go7, 0, none⟩) y105.length co7) y108 := (by rw [hw, Ny108.out]; exact HP10.1); clear HP10; have n0_ := Aside0.mk (hp_); have n1_ := Aside0.mk ((by rw [hw]; exact below_set (HB.out) GB7.out : Below w.heap.size w w11)); clear HO107; clear HB; have HO107 := n0_; have HB := n1_; clear n0_ n1_; clear hg hw hp_))
        go_loopg [5, 19] k (fun kq v5 v19 w' => ∃ (x5_1 : List Bool) (x19_1 : Int), v19 = .int .i64 x19_1 ∧ Aside0 (pat_matched.l0 kq a1 x5_1 l0 (l0.length : Int) x19_1 = some r) ∧ Aside0 (kq ≤ k) ∧ Aside0 (Kd.R Kd.bool 4 w' w.heap.size (fun _ => True) v5 x5_1) ∧ Aside0 (Below w.heap.size w w'))
        case atStart => exact ⟨(y108), (0), (by first | rfl | (simp; done) | (simp [*]; done)), H', ⟨Nat.le_refl _⟩, ⟨by (with_reducible repeat (first | apply Kd.R_alloc | apply Kd.R_drewN | apply Kd.R_drew)); exact HO107.out⟩, ⟨by repeat (first | (with_reducible first | exact HB.out | apply below_alloc | apply pw_below_drewN | apply below_drew1) | exact HB.out)⟩⟩
        case round =>
          clear H'
          try clear c1
          try clear p2
          try clear c4
          try clear c4b0
          try clear c4b1
          try clear c5
          try clear c5b0
          try clear c5b1
          try clear c6
          try clear c6b0
          try clear c6b1
          try clear p6
          try clear p7
          try clear q7
          try clear hx7
          try clear qi7
          try clear hf7
          try clear hx7_0
          try clear p7
          try clear q7
          obtain ⟨x5_1, x19_1, rfl, HA, HK1, HO_5, HB⟩ := hrel
          cases gk with
          | zero => exact absurd HA.out (by simp [pat_matched.l0])
          | succ k1 =>
            have H := HA.out
            clear HA
            simp only [pat_matched.l0] at H
            by_cases c12 : x19_1 < (l0.length : Int)
            · rw [if_pos c12] at H
              have c12b0 : decide (x19_1 < (l0.length : Int)) = true := decide_eq_true c12
              clear c12
              by_cases c13 : 0 ≤ x19_1
              · rw [if_pos c13] at H
                have c13b0 : decide (0 ≤ x19_1) = true := decide_eq_true c13
                clear c13
                by_cases c14 : x19_1 < (l0.length : Int)
                · rw [if_pos c14] at H
                  have c14b0 : decide (x19_1 < (l0.length : Int)) = true := decide_eq_true c14
                  clear c14
                  obtain ⟨ji15, hji15⟩ : ∃ j_ : Int, (wrap64 ((a1.size : Int) + 1)) = j_ := ⟨_, rfl⟩
                  replace H : (if 0 ≤ (ji15) then (if (ji15 : Int).toNat ≤ 281474976710656 then (pat_matched.l1 k1 a1 (List.replicate (ji15 : Int).toNat false) l0 (l0.length : Int) x19_1 x5_1 (x5_1.length : Int) 0 ((rd_T199 l0 x19_1).f0) ((rd_T199 l0 x19_1).f1) ((rd_T199 l0 x19_1).f2) ((rd_T199 l0 x19_1).f3) ((rd_T199 l0 x19_1).f4) ((rd_T199 l0 x19_1).f5)) else (none)) else (none)) = some r := by first | (rw [hji15] at H; exact H) | (simp only [hji15] at H ⊢; exact H)
                  have hji15w : (IntKind.i64.wrap ((a1.size : Int) + 1)) = ji15 := (i64_w _).trans hji15
                  obtain eji_ : ji15 = ji3 := hji15.symm.trans hji3
                  subst eji_
                  by_cases c16 : 0 ≤ (ji15)
                  · rw [if_pos c16] at H
                    have c16b0 := eq_true c16
                    have c16b1 : decide (0 ≤ (ji15)) = true := decide_eq_true c16
                    clear c16
                    by_cases c17 : (ji15 : Int).toNat ≤ 281474976710656
                    · rw [if_pos c17] at H
                      have c17b0 := eq_true c17
                      have c17b1 : decide ((ji15 : Int).toNat ≤ 281474976710656) = true := decide_eq_true c17
                      clear c17
                      obtain ⟨y112, hy112⟩ : ∃ y_ : List Bool, y_ = (List.replicate (ji15 : Int).toNat false) := ⟨_, rfl⟩
                      replace H : (pat_matched.l1 k1 a1 y112 l0 (l0.length : Int) x19_1 x5_1 (x5_1.length : Int) 0 ((rd_T199 l0 x19_1).f0) ((rd_T199 l0 x19_1).f1) ((rd_T199 l0 x19_1).f2) ((rd_T199 l0 x19_1).f3) ((rd_T199 l0 x19_1).f4) ((rd_T199 l0 x19_1).f5)) = some r := by first | (rw [hy112]; with_reducible exact H) | (have H2_ := (Option.bind_some _ _).symm.trans H; rw [hy112]; with_reducible exact H2_) | (have H2_ := (Option.bind_some _ _).symm.trans H; with_reducible exact H2_) | with_reducible exact H | (rw [hy112]; exact H) | exact H
                      have Ny112 := Aside0.mk hy112
                      clear hy112
                      have H' := Aside0.mk H
                      clear H
                      have p110 : 0 ≤ (x19_1 : Int) := of_decide_eq_true (by first | (with_reducible assumption) | assumption)
                      have q110 : x19_1 < (l0.length : Int) := of_decide_eq_true (by first | (with_reducible assumption) | assumption)
                      obtain ⟨ad110, A110_3, c110_3, e110, hx110_0, hx110_1, hx110_2, hx110_3, hx110_4, hx110_5, hl110_3, hi110_3⟩ := at_T199 HR0.out x19_1 p110 q110
                      cases e110
                      replace hx110_0 := (HB.out.cell (World.block_lt_of_cell? w _ hx110_0)).trans hx110_0
                      replace hx110_1 := (HB.out.cell (World.block_lt_of_cell? w _ hx110_1)).trans hx110_1
                      replace hx110_2 := (HB.out.cell (World.block_lt_of_cell? w _ hx110_2)).trans hx110_2
                      replace hx110_3 := (HB.out.cell (World.block_lt_of_cell? w _ hx110_3)).trans hx110_3
                      replace hx110_4 := (HB.out.cell (World.block_lt_of_cell? w _ hx110_4)).trans hx110_4
                      replace hx110_5 := (HB.out.cell (World.block_lt_of_cell? w _ hx110_5)).trans hx110_5
                      have HR110_3 := Aside0.mk hi110_3
                      have HC110_3 := Aside0.mk hl110_3
                      clear hi110_3 hl110_3
                      replace p110 := eq_true p110
                      replace q110 := eq_true q110
                      go_wp2_with (first | ((with_reducible refine gate_dst (N := 7) rfl ?_); (try (refine gate_guard (by rfl) ?_; dsimp only)); refine box_event ?hg (N := 7) ?hd (cs := #[.int .u8 0, .int .u8 0, .string (⟨#[]⟩ : ByteArray), .slice none 0 0, .bool false, .bool false]) (t := 199) ?hr ?_; (case hd => rfl); (case hg => rfl); (case hr => first | (go_simp; done) | (go_simp; rfl)); intro gb111 hg w18 hbox hb; have n0_ := Aside0.mk (Kd.R_below (by (with_reducible repeat (first | apply Kd.R_alloc | apply Kd.R_drewN | apply Kd.R_drew)); exact HO_5.out) hb); have n1_ := Aside0.mk (below_step (by repeat (first | (with_reducible first | exact HB.out | apply below_alloc | apply pw_below_drewN | apply below_drew1) | exact HB.out)) hb); have n2_ := Aside0.mk (hbox); have n3_ := Aside0.mk ((by rw [hg]; exact (below_size (by repeat (first | (with_reducible first | exact HB.out | apply below_alloc | apply pw_below_drewN | apply below_drew1) | exact HB.out))) : w.heap.size ≤ gb111)); have n4_ := Aside0.mk ((by rw [hg]; exact (below_size (by repeat (first | (with_reducible first | exact HB.out | apply below_alloc | apply pw_below_drewN | apply below_drew1) | exact HB.out))) : w.heap.size ≤ gb111)); clear HO_5; clear HB; have HO_5 := n0_; have HB := n1_; have BK111 := n2_; have GW111 := n3_; have GE111 := n4_; clear n0_ n1_ n2_ n3_ n4_; clear hb hbox hg; have hcz19_0 : w18.cell? ⟨gb111, 0, none⟩ = some (.int .u8 0) := (blk_cell BK111.out 0).trans rfl; have hcz19_1 : w18.cell? ⟨gb111, 1, none⟩ = some (.int .u8 0) := (blk_cell BK111.out 1).trans rfl; have hcz19_2 : w18.cell? ⟨gb111, 2, none⟩ = some (.string (⟨#[]⟩ : ByteArray)) := (blk_cell BK111.out 2).trans rfl; have hcz19_3 : w18.cell? ⟨gb111, 3, none⟩ = some (.slice none 0 0) := (blk_cell BK111.out 3).trans rfl; have hcz19_4 : w18.cell? ⟨gb111, 4, none⟩ = some (.bool false) := (blk_cell BK111.out 4).trans rfl; have hcz19_5 : w18.cell? ⟨gb111, 5, none⟩ = some (.bool false) := (blk_cell BK111.out 5).trans rfl; have hfz19_0 := blk_frozen BK111.out 0; have hfz19_1 := blk_frozen BK111.out 1; have hfz19_2 := blk_frozen BK111.out 2; have hfz19_3 := blk_frozen BK111.out 3; have hfz19_4 := blk_frozen BK111.out 4; have hfz19_5 := blk_frozen BK111.out 5) | ((with_reducible refine gate_dst (N := 26) rfl ?_); (try (refine gate_guard (by rfl) ?_; dsimp only)); refine Kd.R_make Kd.bool _ 4 rfl (N := 26) rfl 58 _ _ rfl ji15 rfl rfl Try.underlying58 (.bool false) 1 info4 rfl (by decide) (by omega) false (ok := fun _ => True) (okp := fun _ => True) rfl (fun _ hk => hk) trivial (of_decide_eq_true (by first | (with_reducible assumption) | assumption)) (Nat.le_trans (Nat.mul_le_mul_right _ (of_decide_eq_true (by first | (with_reducible assumption) | assumption) : ji15.toNat ≤ 281474976710656)) (by omega)) (Below.refl _ _) (Nat.le_refl _) ?_; intro v113 w20 ho21 hb hg_ hnew_; clear hg_ hnew_; (first | rw [← Ny112.out] at ho21 | (simp only [Int.reduceToNat] at ho21; rw [← Ny112.out] at ho21)); have n0_ := Aside0.mk (Kd.R_elder' (by (with_reducible repeat (first | apply Kd.R_alloc | apply Kd.R_drewN | apply Kd.R_drew)); exact (Kd.R_mono (Kd.R_far (p := ⟨gb111, 5, none⟩) (Kd.R_far (p := ⟨gb111, 4, none⟩) (Kd.R_far (p := ⟨gb111, 3, none⟩) (Kd.R_far (p := ⟨gb111, 2, none⟩) (Kd.R_far (p := ⟨gb111, 1, none⟩) (Kd.R_far (p := ⟨gb111, 0, none⟩) (Kd.R_types HO_5.out BK111.out (by decide)) (fun _ hk => hk.2) (.int .u8 ((rd_T199 l0 x19_1).f0))) (fun _ hk => hk.2) (.int .u8 ((rd_T199 l0 x19_1).f1))) (fun _ hk => hk.2) (.string ((rd_T199 l0 x19_1).f2))) (fun _ hk => hk.2) (.slice A110_3 ((rd_T199 l0 x19_1).f3).length c110_3)) (fun _ hk => hk.2) (.bool ((rd_T199 l0 x19_1).f4))) (fun _ hk => hk.2) (.bool ((rd_T199 l0 x19_1).f5))) (fun _ h_ => h_.1))) (Kd.R_base ho21) hb); have n1_ := Aside0.mk (Kd.R_lower (Kd.R_new' ho21 (Kd.R_lt (by (with_reducible repeat (first | apply Kd.R_alloc | apply Kd.R_drewN | apply Kd.R_drew)); exact (Kd.R_mono (Kd.R_far (p := ⟨gb111, 5, none⟩) (Kd.R_far (p := ⟨gb111, 4, none⟩) (Kd.R_far (p := ⟨gb111, 3, none⟩) (Kd.R_far (p := ⟨gb111, 2, none⟩) (Kd.R_far (p := ⟨gb111, 1, none⟩) (Kd.R_far (p := ⟨gb111, 0, none⟩) (Kd.R_types HO_5.out BK111.out (by decide)) (fun _ hk => hk.2) (.int .u8 ((rd_T199 l0 x19_1).f0))) (fun _ hk => hk.2) (.int .u8 ((rd_T199 l0 x19_1).f1))) (fun _ hk => hk.2) (.string ((rd_T199 l0 x19_1).f2))) (fun _ hk => hk.2) (.slice A110_3 ((rd_T199 l0 x19_1).f3).length c110_3)) (fun _ hk => hk.2) (.bool ((rd_T199 l0 x19_1).f4))) (fun _ hk => hk.2) (.bool ((rd_T199 l0 x19_1).f5))) (fun _ h_ => h_.1))))) (below_size (by repeat (first | (with_reducible first | exact HB.out | apply below_alloc | apply pw_below_drewN | apply below_drew1 | refine below_set ?_ GE111.out) | exact HB.out)))); have n2_ := Aside0.mk (blk_below (g := gb111) (o := .cells #[.int .u8 ((rd_T199 l0 x19_1).f0), .int .u8 ((rd_T199 l0 x19_1).f1), .string ((rd_T199 l0 x19_1).f2), .slice A110_3 ((rd_T199 l0 x19_1).f3).length c110_3, .bool ((rd_T199 l0 x19_1).f4), .bool ((rd_T199 l0 x19_1).f5)] 199 (0, 0)) (by (with_reducible repeat (first | refine blk_drewN ?_ _ | refine blk_drew ?_ | refine blk_alloc ?_ _)); refine blk_put (cs := #[.int .u8 ((rd_T199 l0 x19_1).f0), .int .u8 ((rd_T199 l0 x19_1).f1), .string ((rd_T199 l0 x19_1).f2), .slice A110_3 ((rd_T199 l0 x19_1).f3).length c110_3, .bool ((rd_T199 l0 x19_1).f4), .bool false]) ?_ 5 _ rfl; (with_reducible repeat (first | refine blk_drewN ?_ _ | refine blk_drew ?_ | refine blk_alloc ?_ _)); refine blk_put (cs := #[.int .u8 ((rd_T199 l0 x19_1).f0), .int .u8 ((rd_T199 l0 x19_1).f1), .string ((rd_T199 l0 x19_1).f2), .slice A110_3 ((rd_T199 l0 x19_1).f3).length c110_3, .bool false, .bool false]) ?_ 4 _ rfl; (with_reducible repeat (first | refine blk_drewN ?_ _ | refine blk_drew ?_ | refine blk_alloc ?_ _)); refine blk_put (cs := #[.int .u8 ((rd_T199 l0 x19_1).f0), .int .u8 ((rd_T199 l0 x19_1).f1), .string ((rd_T199 l0 x19_1).f2), .slice none 0 0, .bool false, .bool false]) ?_ 3 _ rfl; (with_reducible repeat (first | refine blk_drewN ?_ _ | refine blk_drew ?_ | refine blk_alloc ?_ _)); refine blk_put (cs := #[.int .u8 ((rd_T199 l0 x19_1).f0), .int .u8 ((rd_T199 l0 x19_1).f1), .string (⟨#[]⟩ : ByteArray), .slice none 0 0, .bool false, .bool false]) ?_ 2 _ rfl; (with_reducible repeat (first | refine blk_drewN ?_ _ | refine blk_drew ?_ | refine blk_alloc ?_ _)); refine blk_put (cs := #[.int .u8 ((rd_T199 l0 x19_1).f0), .int .u8 0, .string (⟨#[]⟩ : ByteArray), .slice none 0 0, .bool false, .bool false]) ?_ 1 _ rfl; (with_reducible repeat (first | refine blk_drewN ?_ _ | refine blk_drew ?_ | refine blk_alloc ?_ _)); refine blk_put (cs := #[.int .u8 0, .int .u8 0, .string (⟨#[]⟩ : ByteArray), .slice none 0 0, .bool false, .bool false]) ?_ 0 _ rfl; (with_reducible repeat (first | refine blk_drewN ?_ _ | refine blk_drew ?_ | refine blk_alloc ?_ _)); exact BK111.out) hb); have n3_ := Aside0.mk (below_step (by repeat (first | (with_reducible first | exact HB.out | apply below_alloc | apply pw_below_drewN | apply below_drew1 | refine below_set ?_ GE111.out) | exact HB.out)) hb); clear HO_5; clear BK111; clear HB; have HO_5 := n0_; have HO114 := n1_; have BK111 := n2_; have HB := n3_; clear n0_ n1_ n2_ n3_; clear hb ho21; obtain ⟨Ao22, co22, eo22⟩ := Kd.R_slice HO_5.out; subst eo22))
                      go_loopg [29] k1 (fun kq v29 w' => ∃ (x8_2 : List Bool) (x29_2 : Int), v29 = .int .i64 x29_2 ∧ Aside0 (pat_matched.l1 kq a1 x8_2 l0 (l0.length : Int) x19_1 x5_1 (x5_1.length : Int) x29_2 ((rd_T199 l0 x19_1).f0) ((rd_T199 l0 x19_1).f1) ((rd_T199 l0 x19_1).f2) ((rd_T199 l0 x19_1).f3) ((rd_T199 l0 x19_1).f4) ((rd_T199 l0 x19_1).f5) = some r) ∧ Aside0 (kq ≤ k1) ∧ Aside0 (Kd.R Kd.bool 4 w' w.heap.size (fun k_ => some k_ ≠ ((.slice Ao22 x5_1.length co22) : Value).ownBlock) v113 x8_2) ∧ Aside0 (Kd.R Kd.bool 4 w' w.heap.size (fun k_ => some k_ ≠ (v113 : Value).ownBlock) (.slice Ao22 x5_1.length co22) x5_1) ∧ Aside0 (w'.heap[gb111]? = some (.cells #[.int .u8 ((rd_T199 l0 x19_1).f0), .int .u8 ((rd_T199 l0 x19_1).f1), .string ((rd_T199 l0 x19_1).f2), (.slice A110_3 ((rd_T199 l0 x19_1).f3).length c110_3), .bool ((rd_T199 l0 x19_1).f4), .bool ((rd_T199 l0 x19_1).f5)] 199 (0, 0))) ∧ Aside0 (Below w.heap.size w w'))
                      case atStart => exact ⟨(y112), (0), (by first | rfl | (simp; done) | (simp [*]; done)), H', ⟨Nat.le_refl _⟩, ⟨by (with_reducible repeat (first | apply Kd.R_alloc | apply Kd.R_drewN | apply Kd.R_drew)); exact Kd.R_mono HO114.out (fun _ hk => hk.2)⟩, ⟨by (with_reducible repeat (first | apply Kd.R_alloc | apply Kd.R_drewN | apply Kd.R_drew)); exact Kd.R_mono HO_5.out (fun _ hk => hk.2)⟩, ⟨by (with_reducible repeat (first | refine blk_drewN ?_ _ | refine blk_drew ?_ | refine blk_alloc ?_ _)); exact BK111.out⟩, ⟨by repeat (first | (with_reducible first | exact HB.out | apply below_alloc | apply pw_below_drewN | apply below_drew1 | refine below_set ?_ GE111.out) | exact HB.out)⟩⟩
                      case round =>
                        clear H'
                        try clear c1
                        try clear p1
                        try clear q1
                        try clear hx1
                        try clear p2
                        try clear c4
                        try clear c4b0
                        try clear c4b1
                        try clear c5
                        try clear c5b0
                        try clear c5b1
                        try clear c6
                        try clear c6b0
                        try clear c6b1
                        try clear p6
                        try clear p7
                        try clear q7
                        try clear hx7
                        try clear qi7
                        try clear hf7
                        try clear c11
                        try clear p11
                        try clear q11
                        try clear hx11
                        try clear c12
                        try clear c12b0
                        try clear c13
                        try clear c13b0
                        try clear c14
                        try clear c14b0
                        try clear c16
                        try clear c16b0
                        try clear c16b1
                        try clear c17
                        try clear c17b0
                        try clear c17b1
                        try clear hcz19_0
                        try clear hcz19_1
                        try clear hcz19_2
                        try clear hcz19_3
                        try clear hcz19_4
                        try clear hcz19_5
                        try clear hfz19_0
                        try clear hfz19_1
                        try clear hfz19_2
                        try clear hfz19_3
                        try clear hfz19_4
                        try clear hfz19_5
                        try clear hx110_0
                        try clear hx110_1
                        try clear hx110_2
                        try clear hx110_3
                        try clear hx110_4
                        try clear hx110_5
                        try clear hx7_0
                        try clear p110
                        try clear p2
                        try clear p6
                        try clear p7
                        try clear q110
                        try clear q7
                        obtain ⟨x8_2, x29_2, rfl, HA, HK2, HO_8, HO_27, BK111, HB⟩ := hrel
                        cases gk with
                        | zero => exact absurd HA.out (by simp [pat_matched.l1])
                        | succ k2 =>
                          have H := HA.out
                          clear HA
                          simp only [pat_matched.l1] at H
                          by_cases c23 : x29_2 < (x5_1.length : Int)
                          · rw [if_pos c23] at H
                            have c23b0 : decide (x29_2 < (x5_1.length : Int)) = true := decide_eq_true c23
                            clear c23
                            by_cases c24 : 0 ≤ x29_2
                            · rw [if_pos c24] at H
                              have c24b0 : decide (0 ≤ x29_2) = true := decide_eq_true c24
                              clear c24
                              by_cases c25 : x29_2 < (x5_1.length : Int)
                              · rw [if_pos c25] at H
                                have c25b0 : decide (x29_2 < (x5_1.length : Int)) = true := decide_eq_true c25
                                clear c25
                                by_cases c26 : ((rd_T199 l0 x19_1).f0) = 42
                                · rw [if_pos c26] at H
                                  have c26b0 : (((rd_T199 l0 x19_1).f0) == 42) = true := beq_iff_eq.mpr c26
                                  have c26b1 : (((rd_T199 l0 x19_1).f0) != 42) = false := bne_eq_false_iff_eq.mpr c26
                                  clear c26
                                  obtain ⟨bq27, hbq27⟩ : ∃ b_ : Bool, b_ = (rdOf false x5_1 x29_2) := ⟨_, rfl⟩
                                  replace H : (if bq27 = true then (if x29_2 < (x8_2.length : Int) then (pat_matched.l1 k2 a1 (x8_2.set (x29_2 : Int).toNat true) l0 (l0.length : Int) x19_1 x5_1 (x5_1.length : Int) (wrap64 (x29_2 + 1)) ((rd_T199 l0 x19_1).f0) ((rd_T199 l0 x19_1).f1) ((rd_T199 l0 x19_1).f2) ((rd_T199 l0 x19_1).f3) ((rd_T199 l0 x19_1).f4) ((rd_T199 l0 x19_1).f5)) else (none)) else (if x29_2 > 0 then (if 0 ≤ (wrap64 (x29_2 - 1)) then (if (wrap64 (x29_2 - 1)) < (x8_2.length : Int) then (if x29_2 < (x8_2.length : Int) then (pat_matched.l1 k2 a1 (x8_2.set (x29_2 : Int).toNat (rdOf false x8_2 (wrap64 (x29_2 - 1)))) l0 (l0.length : Int) x19_1 x5_1 (x5_1.length : Int) (wrap64 (x29_2 + 1)) ((rd_T199 l0 x19_1).f0) ((rd_T199 l0 x19_1).f1) ((rd_T199 l0 x19_1).f2) ((rd_T199 l0 x19_1).f3) ((rd_T199 l0 x19_1).f4) ((rd_T199 l0 x19_1).f5)) else (none)) else (none)) else (none)) else (if x29_2 < (x8_2.length : Int) then (pat_matched.l1 k2 a1 (x8_2.set (x29_2 : Int).toNat false) l0 (l0.length : Int) x19_1 x5_1 (x5_1.length : Int) (wrap64 (x29_2 + 1)) ((rd_T199 l0 x19_1).f0) ((rd_T199 l0 x19_1).f1) ((rd_T199 l0 x19_1).f2) ((rd_T199 l0 x19_1).f3) ((rd_T199 l0 x19_1).f4) ((rd_T199 l0 x19_1).f5)) else (none)))) = some r := by rw [← hbq27] at H; exact H
                                  have Nbq27 := Aside0.mk hbq27
                                  clear hbq27
                                  by_cases c28 : bq27 = true
                                  · subst c28
                                    have H1 : (if x29_2 < (x8_2.length : Int) then (pat_matched.l1 k2 a1 (x8_2.set (x29_2 : Int).toNat true) l0 (l0.length : Int) x19_1 x5_1 (x5_1.length : Int) (wrap64 (x29_2 + 1)) ((rd_T199 l0 x19_1).f0) ((rd_T199 l0 x19_1).f1) ((rd_T199 l0 x19_1).f2) ((rd_T199 l0 x19_1).f3) ((rd_T199 l0 x19_1).f4) ((rd_T199 l0 x19_1).f5)) else (none)) = some r := by rw [if_pos rfl] at H; exact H
                                    clear H
                                    have H := H1
                                    clear H1
                                    by_cases c29 : x29_2 < (x8_2.length : Int)
                                    · rw [if_pos c29] at H
                                      have c29b0 : decide (x29_2 < (x8_2.length : Int)) = true := decide_eq_true c29
                                      clear c29
                                      obtain ⟨y116, hy116⟩ : ∃ y_ : List Bool, y_ = (x8_2.set (x29_2 : Int).toNat true) := ⟨_, rfl⟩
                                      replace H : (pat_matched.l1 k2 a1 y116 l0 (l0.length : Int) x19_1 x5_1 (x5_1.length : Int) (wrap64 (x29_2 + 1)) ((rd_T199 l0 x19_1).f0) ((rd_T199 l0 x19_1).f1) ((rd_T199 l0 x19_1).f2) ((rd_T199 l0 x19_1).f3) ((rd_T199 l0 x19_1).f4) ((rd_T199 l0 x19_1).f5)) = some r := by first | (rw [hy116]; with_reducible exact H) | (have H2_ := (Option.bind_some _ _).symm.trans H; rw [hy116]; with_reducible exact H2_) | (have H2_ := (Option.bind_some _ _).symm.trans H; with_reducible exact H2_) | with_reducible exact H | (rw [hy116]; exact H) | exact H
                                      have Ny116 := Aside0.mk hy116
                                      clear hy116
                                      have H' := Aside0.mk H
                                      clear H
                                      have p115 : 0 ≤ (x29_2 : Int) := of_decide_eq_true (by first | (with_reducible assumption) | assumption)
                                      have q115 : x29_2 < (x5_1.length : Int) := of_decide_eq_true (by first | (with_reducible assumption) | assumption)
                                      obtain ⟨ad115, e115, hx115_0⟩ := Kd.at_bool (Kd.R_reads' HO_27.out).2.2 x29_2 p115 q115
                                      (try rw [← Nbq27.out] at hx115_0)
                                      cases e115
                                      replace p115 := eq_true p115
                                      replace q115 := eq_true q115
                                      have hcz31_0 : wr.cell? ⟨gb111, 0, none⟩ = some (.int .u8 ((rd_T199 l0 x19_1).f0)) := (blk_cell BK111.out 0).trans rfl
                                      have hcz31_1 : wr.cell? ⟨gb111, 1, none⟩ = some (.int .u8 ((rd_T199 l0 x19_1).f1)) := (blk_cell BK111.out 1).trans rfl
                                      have hcz31_2 : wr.cell? ⟨gb111, 2, none⟩ = some (.string ((rd_T199 l0 x19_1).f2)) := (blk_cell BK111.out 2).trans rfl
                                      have hcz31_3 : wr.cell? ⟨gb111, 3, none⟩ = some (.slice A110_3 ((rd_T199 l0 x19_1).f3).length c110_3) := (blk_cell BK111.out 3).trans rfl
                                      have hcz31_4 : wr.cell? ⟨gb111, 4, none⟩ = some (.bool ((rd_T199 l0 x19_1).f4)) := (blk_cell BK111.out 4).trans rfl
                                      have hcz31_5 : wr.cell? ⟨gb111, 5, none⟩ = some (.bool ((rd_T199 l0 x19_1).f5)) := (blk_cell BK111.out 5).trans rfl
                                      have hfz31_0 := blk_frozen BK111.out 0
                                      have hfz31_1 := blk_frozen BK111.out 1
                                      have hfz31_2 := blk_frozen BK111.out 2
                                      have hfz31_3 := blk_frozen BK111.out 3
                                      have hfz31_4 := blk_frozen BK111.out 4
                                      have hfz31_5 := blk_frozen BK111.out 5
                                      have p30 : 0 ≤ (x29_2 : Int) := of_decide_eq_true (by first | (with_reducible assumption) | assumption)
                                      have q30 : (x29_2 : Int) < ((x8_2.length : Int) : Int) := of_decide_eq_true (by first | (with_reducible assumption) | assumption)
                                      obtain ⟨go30, co30, eo30, gb30, gl30, cl30, HG30⟩ := Kd.R_form HO_8.out (by omega)
                                      (first | cases eo30 | (injection eo30 with ea_ en_ ec_; (first | subst ea_ | (injection ea_ with ea_; subst ea_)); subst ec_; clear en_))
                                      have GB30 := Aside0.mk gb30
                                      have GG30 := Aside0.mk HG30
                                      clear gb30 gl30 HG30
                                      obtain ⟨hx30_0, hf30_0⟩ := Kd.R_celln false HO_8.out (x29_2 : Int) p30 q30
                                      replace p30 := eq_true p30
                                      replace q30 := eq_true q30
                                      have HP32 := Kd.R_putg HO_8.out (x29_2 : Int) true
                                      go_wp2_with (first | ((with_reducible refine gate_store (t := 4) (p := 52) rfl ?_); refine store_event (t := 4) (p := 52) (v := ?vo_w33) (w1 := (wr.setCell ⟨go30, (x29_2 : Int).toNat, none⟩ (.bool true))) ?hg ?ho ?hn ?hr ?_; (case ho => rfl); (case hg => rfl); (case hn => rfl); (case hr => first | (go_simp; done) | (go_simp; rfl)); intro w33 hw; have hg : wr.grownBy w33 (some go30) := (by rw [hw]; exact HP32.2); have hp_ : Kd.R Kd.bool 4 w33 w.heap.size (fun k_ => some k_ ≠ (.slice (some ad115) x5_1.length co22 : Value).ownBlock) (.slice (some ⟨go30, 0, none⟩) x8_2.length co30) y116 := (by rw [hw, Ny116.out]; exact HP32.1); clear HP32; have n0_ := Aside0.mk (hp_); have n1_ := Aside0.mk (Kd.R_after (v := (.slice (some ⟨go30, 0, none⟩) x8_2.length co30)) (v1 := (.slice (some ⟨go30, 0, none⟩) x8_2.length co30)) (ok := (fun _ => True)) (by (with_reducible repeat (first | apply Kd.R_alloc | apply Kd.R_drewN | apply Kd.R_drew)); exact Kd.R_mono HO_27.out (fun _ hk => ⟨trivial, hk⟩)) hg (.inl rfl)); have n2_ := Aside0.mk (blk_grown (g := gb111) (o := .cells #[.int .u8 ((rd_T199 l0 x19_1).f0), .int .u8 ((rd_T199 l0 x19_1).f1), .string ((rd_T199 l0 x19_1).f2), .slice A110_3 ((rd_T199 l0 x19_1).f3).length c110_3, .bool ((rd_T199 l0 x19_1).f4), .bool ((rd_T199 l0 x19_1).f5)] 199 (0, 0)) (by (with_reducible repeat (first | refine blk_drewN ?_ _ | refine blk_drew ?_ | refine blk_alloc ?_ _)); exact BK111.out) hg (Kd.R_ne HO_8.out BK111.out (by decide))); have n3_ := Aside0.mk ((by rw [hw]; exact below_set (HB.out) GB30.out : Below w.heap.size w w33)); clear HO_8; clear HO_27; clear BK111; clear HB; have HO_8 := n0_; have HO_27 := n1_; have BK111 := n2_; have HB := n3_; clear n0_ n1_ n2_ n3_; clear hg hw hp_))
                                      go_roundg k2
                                      case measure => have := HK1.out; have := HK2.out; omega
                                      case rel => exact ⟨(y116), (wrap64 (x29_2 + 1)), (by first | rfl | (simp; done) | (simp [*]; done)), H', ⟨by have := HK1.out; have := HK2.out; omega⟩, ⟨by (with_reducible repeat (first | apply Kd.R_alloc | apply Kd.R_drewN | apply Kd.R_drew)); exact HO_8.out⟩, ⟨by (with_reducible repeat (first | apply Kd.R_alloc | apply Kd.R_drewN | apply Kd.R_drew)); exact Kd.R_mono HO_27.out (fun _ hk => hk.2)⟩, ⟨by (with_reducible repeat (first | refine blk_drewN ?_ _ | refine blk_drew ?_ | refine blk_alloc ?_ _)); exact BK111.out⟩, ⟨by repeat (first | (with_reducible first | exact HB.out | apply below_alloc | apply pw_below_drewN | apply below_drew1 | refine below_set ?_ GE111.out) | exact HB.out)⟩⟩
                                    · rw [if_neg c29] at H
                                      exact absurd H (by simp)
                                  · replace c28 := Bool.eq_false_iff.mpr c28
                                    subst c28
                                    have H1 : (if x29_2 > 0 then (if 0 ≤ (wrap64 (x29_2 - 1)) then (if (wrap64 (x29_2 - 1)) < (x8_2.length : Int) then (if x29_2 < (x8_2.length : Int) then (pat_matched.l1 k2 a1 (x8_2.set (x29_2 : Int).toNat (rdOf false x8_2 (wrap64 (x29_2 - 1)))) l0 (l0.length : Int) x19_1 x5_1 (x5_1.length : Int) (wrap64 (x29_2 + 1)) ((rd_T199 l0 x19_1).f0) ((rd_T199 l0 x19_1).f1) ((rd_T199 l0 x19_1).f2) ((rd_T199 l0 x19_1).f3) ((rd_T199 l0 x19_1).f4) ((rd_T199 l0 x19_1).f5)) else (none)) else (none)) else (none)) else (if x29_2 < (x8_2.length : Int) then (pat_matched.l1 k2 a1 (x8_2.set (x29_2 : Int).toNat false) l0 (l0.length : Int) x19_1 x5_1 (x5_1.length : Int) (wrap64 (x29_2 + 1)) ((rd_T199 l0 x19_1).f0) ((rd_T199 l0 x19_1).f1) ((rd_T199 l0 x19_1).f2) ((rd_T199 l0 x19_1).f3) ((rd_T199 l0 x19_1).f4) ((rd_T199 l0 x19_1).f5)) else (none))) = some r := by rw [if_neg (show ¬ (false = true) by decide)] at H; exact H
                                    clear H
                                    have H := H1
                                    clear H1
                                    by_cases c34 : x29_2 > 0
                                    · rw [if_pos c34] at H
                                      have c34b0 : decide (0 < x29_2) = true := decide_eq_true c34
                                      clear c34
                                      obtain ⟨ji35, hji35⟩ : ∃ j_ : Int, (wrap64 (x29_2 - 1)) = j_ := ⟨_, rfl⟩
                                      replace H : (if 0 ≤ (ji35) then (if (ji35) < (x8_2.length : Int) then (if x29_2 < (x8_2.length : Int) then (pat_matched.l1 k2 a1 (x8_2.set (x29_2 : Int).toNat (rdOf false x8_2 (ji35))) l0 (l0.length : Int) x19_1 x5_1 (x5_1.length : Int) (wrap64 (x29_2 + 1)) ((rd_T199 l0 x19_1).f0) ((rd_T199 l0 x19_1).f1) ((rd_T199 l0 x19_1).f2) ((rd_T199 l0 x19_1).f3) ((rd_T199 l0 x19_1).f4) ((rd_T199 l0 x19_1).f5)) else (none)) else (none)) else (none)) = some r := by first | (rw [hji35] at H; exact H) | (simp only [hji35] at H ⊢; exact H)
                                      have hji35w : (IntKind.i64.wrap (x29_2 - 1)) = ji35 := (i64_w _).trans hji35
                                      by_cases c36 : 0 ≤ (ji35)
                                      · rw [if_pos c36] at H
                                        have c36b0 : decide (0 ≤ (ji35)) = true := decide_eq_true c36
                                        clear c36
                                        by_cases c37 : (ji35) < (x8_2.length : Int)
                                        · rw [if_pos c37] at H
                                          have c37b0 : decide ((ji35) < (x8_2.length : Int)) = true := decide_eq_true c37
                                          clear c37
                                          by_cases c38 : x29_2 < (x8_2.length : Int)
                                          · rw [if_pos c38] at H
                                            have c38b0 : decide (x29_2 < (x8_2.length : Int)) = true := decide_eq_true c38
                                            clear c38
                                            obtain ⟨y118, hy118⟩ : ∃ y_ : List Bool, y_ = (x8_2.set (x29_2 : Int).toNat (rdOf false x8_2 (ji35))) := ⟨_, rfl⟩
                                            replace H : (pat_matched.l1 k2 a1 y118 l0 (l0.length : Int) x19_1 x5_1 (x5_1.length : Int) (wrap64 (x29_2 + 1)) ((rd_T199 l0 x19_1).f0) ((rd_T199 l0 x19_1).f1) ((rd_T199 l0 x19_1).f2) ((rd_T199 l0 x19_1).f3) ((rd_T199 l0 x19_1).f4) ((rd_T199 l0 x19_1).f5)) = some r := by first | (rw [hy118]; with_reducible exact H) | (have H2_ := (Option.bind_some _ _).symm.trans H; rw [hy118]; with_reducible exact H2_) | (have H2_ := (Option.bind_some _ _).symm.trans H; with_reducible exact H2_) | with_reducible exact H | (rw [hy118]; exact H) | exact H
                                            have Ny118 := Aside0.mk hy118
                                            clear hy118
                                            have H' := Aside0.mk H
                                            clear H
                                            have p115 : 0 ≤ (x29_2 : Int) := of_decide_eq_true (by first | (with_reducible assumption) | assumption)
                                            have q115 : x29_2 < (x5_1.length : Int) := of_decide_eq_true (by first | (with_reducible assumption) | assumption)
                                            obtain ⟨ad115, e115, hx115_0⟩ := Kd.at_bool (Kd.R_reads' HO_27.out).2.2 x29_2 p115 q115
                                            (try rw [← Nbq27.out] at hx115_0)
                                            cases e115
                                            replace p115 := eq_true p115
                                            replace q115 := eq_true q115
                                            have hcz40_0 : wr.cell? ⟨gb111, 0, none⟩ = some (.int .u8 ((rd_T199 l0 x19_1).f0)) := (blk_cell BK111.out 0).trans rfl
                                            have hcz40_1 : wr.cell? ⟨gb111, 1, none⟩ = some (.int .u8 ((rd_T199 l0 x19_1).f1)) := (blk_cell BK111.out 1).trans rfl
                                            have hcz40_2 : wr.cell? ⟨gb111, 2, none⟩ = some (.string ((rd_T199 l0 x19_1).f2)) := (blk_cell BK111.out 2).trans rfl
                                            have hcz40_3 : wr.cell? ⟨gb111, 3, none⟩ = some (.slice A110_3 ((rd_T199 l0 x19_1).f3).length c110_3) := (blk_cell BK111.out 3).trans rfl
                                            have hcz40_4 : wr.cell? ⟨gb111, 4, none⟩ = some (.bool ((rd_T199 l0 x19_1).f4)) := (blk_cell BK111.out 4).trans rfl
                                            have hcz40_5 : wr.cell? ⟨gb111, 5, none⟩ = some (.bool ((rd_T199 l0 x19_1).f5)) := (blk_cell BK111.out 5).trans rfl
                                            have hfz40_0 := blk_frozen BK111.out 0
                                            have hfz40_1 := blk_frozen BK111.out 1
                                            have hfz40_2 := blk_frozen BK111.out 2
                                            have hfz40_3 := blk_frozen BK111.out 3
                                            have hfz40_4 := blk_frozen BK111.out 4
                                            have hfz40_5 := blk_frozen BK111.out 5
                                            obtain ⟨Ao41, co41, eo41⟩ := Kd.R_slice HO_8.out
                                            subst eo41
                                            have p117 : 0 ≤ ((ji35) : Int) := of_decide_eq_true (by first | (with_reducible assumption) | assumption)
                                            have q117 : (ji35) < (x8_2.length : Int) := of_decide_eq_true (by first | (with_reducible assumption) | assumption)
                                            obtain ⟨ad117, e117, hx117_0⟩ := Kd.at_bool (Kd.R_reads' HO_8.out).2.2 (ji35) p117 q117
                                            (try rw [← Nbq27.out] at hx117_0)
                                            cases e117
                                            replace p117 := eq_true p117
                                            replace q117 := eq_true q117
                                            have p39 : 0 ≤ (x29_2 : Int) := of_decide_eq_true (by first | (with_reducible assumption) | assumption)
                                            have q39 : (x29_2 : Int) < ((x8_2.length : Int) : Int) := of_decide_eq_true (by first | (with_reducible assumption) | assumption)
                                            obtain ⟨go39, co39, eo39, gb39, gl39, cl39, HG39⟩ := Kd.R_form HO_8.out (by omega)
                                            (first | cases eo39 | (injection eo39 with ea_ en_ ec_; (first | subst ea_ | (injection ea_ with ea_; subst ea_)); subst ec_; clear en_))
                                            have GB39 := Aside0.mk gb39
                                            have GG39 := Aside0.mk HG39
                                            clear gb39 gl39 HG39
                                            (first | simp only [add_plain] at hx117_0 | skip)
                                            obtain ⟨hx39_0, hf39_0⟩ := Kd.R_celln false HO_8.out (x29_2 : Int) p39 q39
                                            replace p39 := eq_true p39
                                            replace q39 := eq_true q39
                                            have HP42 := Kd.R_putg HO_8.out (x29_2 : Int) (rdOf false x8_2 (ji35))
                                            go_wp2_with (first | ((with_reducible refine gate_store (t := 4) (p := 52) rfl ?_); refine store_event (t := 4) (p := 52) (v := ?vo_w43) (w1 := (wr.setCell ⟨go39, (x29_2 : Int).toNat, none⟩ (.bool (rdOf false x8_2 (ji35))))) ?hg ?ho ?hn ?hr ?_; (case ho => rfl); (case hg => rfl); (case hn => rfl); (case hr => first | (go_simp; done) | (go_simp; rfl)); intro w43 hw; have hg : wr.grownBy w43 (some go39) := (by rw [hw]; exact HP42.2); have hp_ : Kd.R Kd.bool 4 w43 w.heap.size (fun k_ => some k_ ≠ (.slice (some ad115) x5_1.length co22 : Value).ownBlock) (.slice (some ⟨go39, 0, none⟩) x8_2.length co41) y118 := (by rw [hw, Ny118.out]; exact HP42.1); clear HP42; have n0_ := Aside0.mk (hp_); have n1_ := Aside0.mk (Kd.R_after (v := (.slice (some ⟨go39, 0, none⟩) x8_2.length co41)) (v1 := (.slice (some ⟨go39, 0, none⟩) x8_2.length co41)) (ok := (fun _ => True)) (by (with_reducible repeat (first | apply Kd.R_alloc | apply Kd.R_drewN | apply Kd.R_drew)); exact Kd.R_mono HO_27.out (fun _ hk => ⟨trivial, hk⟩)) hg (.inl rfl)); have n2_ := Aside0.mk (blk_grown (g := gb111) (o := .cells #[.int .u8 ((rd_T199 l0 x19_1).f0), .int .u8 ((rd_T199 l0 x19_1).f1), .string ((rd_T199 l0 x19_1).f2), .slice A110_3 ((rd_T199 l0 x19_1).f3).length c110_3, .bool ((rd_T199 l0 x19_1).f4), .bool ((rd_T199 l0 x19_1).f5)] 199 (0, 0)) (by (with_reducible repeat (first | refine blk_drewN ?_ _ | refine blk_drew ?_ | refine blk_alloc ?_ _)); exact BK111.out) hg (Kd.R_ne HO_8.out BK111.out (by decide))); have n3_ := Aside0.mk ((by rw [hw]; exact below_set (HB.out) GB39.out : Below w.heap.size w w43)); clear HO_8; clear HO_27; clear BK111; clear HB; have HO_8 := n0_; have HO_27 := n1_; have BK111 := n2_; have HB := n3_; clear n0_ n1_ n2_ n3_; clear hg hw hp_))
                                            go_roundg k2
                                            case measure => have := HK1.out; have := HK2.out; omega
                                            case rel => exact ⟨(y118), (wrap64 (x29_2 + 1)), (by first | rfl | (simp; done) | (simp [*]; done)), H', ⟨by have := HK1.out; have := HK2.out; omega⟩, ⟨by (with_reducible repeat (first | apply Kd.R_alloc | apply Kd.R_drewN | apply Kd.R_drew)); exact HO_8.out⟩, ⟨by (with_reducible repeat (first | apply Kd.R_alloc | apply Kd.R_drewN | apply Kd.R_drew)); exact Kd.R_mono HO_27.out (fun _ hk => hk.2)⟩, ⟨by (with_reducible repeat (first | refine blk_drewN ?_ _ | refine blk_drew ?_ | refine blk_alloc ?_ _)); exact BK111.out⟩, ⟨by repeat (first | (with_reducible first | exact HB.out | apply below_alloc | apply pw_below_drewN | apply below_drew1 | refine below_set ?_ GE111.out) | exact HB.out)⟩⟩
                                          · rw [if_neg c38] at H
                                            exact absurd H (by simp)
                                        · rw [if_neg c37] at H
                                          exact absurd H (by simp)
                                      · rw [if_neg c36] at H
                                        exact absurd H (by simp)
                                    · rw [if_neg c34] at H
                                      have c34b0 : decide (0 < x29_2) = false := decide_eq_false c34
                                      clear c34
                                      by_cases c44 : x29_2 < (x8_2.length : Int)
                                      · rw [if_pos c44] at H
                                        have c44b0 : decide (x29_2 < (x8_2.length : Int)) = true := decide_eq_true c44
                                        clear c44
                                        obtain ⟨y119, hy119⟩ : ∃ y_ : List Bool, y_ = (x8_2.set (x29_2 : Int).toNat false) := ⟨_, rfl⟩
                                        replace H : (pat_matched.l1 k2 a1 y119 l0 (l0.length : Int) x19_1 x5_1 (x5_1.length : Int) (wrap64 (x29_2 + 1)) ((rd_T199 l0 x19_1).f0) ((rd_T199 l0 x19_1).f1) ((rd_T199 l0 x19_1).f2) ((rd_T199 l0 x19_1).f3) ((rd_T199 l0 x19_1).f4) ((rd_T199 l0 x19_1).f5)) = some r := by first | (rw [hy119]; with_reducible exact H) | (have H2_ := (Option.bind_some _ _).symm.trans H; rw [hy119]; with_reducible exact H2_) | (have H2_ := (Option.bind_some _ _).symm.trans H; with_reducible exact H2_) | with_reducible exact H | (rw [hy119]; exact H) | exact H
                                        have Ny119 := Aside0.mk hy119
                                        clear hy119
                                        have H' := Aside0.mk H
                                        clear H
                                        have p115 : 0 ≤ (x29_2 : Int) := of_decide_eq_true (by first | (with_reducible assumption) | assumption)
                                        have q115 : x29_2 < (x5_1.length : Int) := of_decide_eq_true (by first | (with_reducible assumption) | assumption)
                                        obtain ⟨ad115, e115, hx115_0⟩ := Kd.at_bool (Kd.R_reads' HO_27.out).2.2 x29_2 p115 q115
                                        (try rw [← Nbq27.out] at hx115_0)
                                        cases e115
                                        replace p115 := eq_true p115
                                        replace q115 := eq_true q115
                                        have hcz46_0 : wr.cell? ⟨gb111, 0, none⟩ = some (.int .u8 ((rd_T199 l0 x19_1).f0)) := (blk_cell BK111.out 0).trans rfl
                                        have hcz46_1 : wr.cell? ⟨gb111, 1, none⟩ = some (.int .u8 ((rd_T199 l0 x19_1).f1)) := (blk_cell BK111.out 1).trans rfl
                                        have hcz46_2 : wr.cell? ⟨gb111, 2, none⟩ = some (.string ((rd_T199 l0 x19_1).f2)) := (blk_cell BK111.out 2).trans rfl
                                        have hcz46_3 : wr.cell? ⟨gb111, 3, none⟩ = some (.slice A110_3 ((rd_T199 l0 x19_1).f3).length c110_3) := (blk_cell BK111.out 3).trans rfl
                                        have hcz46_4 : wr.cell? ⟨gb111, 4, none⟩ = some (.bool ((rd_T199 l0 x19_1).f4)) := (blk_cell BK111.out 4).trans rfl
                                        have hcz46_5 : wr.cell? ⟨gb111, 5, none⟩ = some (.bool ((rd_T199 l0 x19_1).f5)) := (blk_cell BK111.out 5).trans rfl
                                        have hfz46_0 := blk_frozen BK111.out 0
                                        have hfz46_1 := blk_frozen BK111.out 1
                                        have hfz46_2 := blk_frozen BK111.out 2
                                        have hfz46_3 := blk_frozen BK111.out 3
                                        have hfz46_4 := blk_frozen BK111.out 4
                                        have hfz46_5 := blk_frozen BK111.out 5
                                        have p45 : 0 ≤ (x29_2 : Int) := of_decide_eq_true (by first | (with_reducible assumption) | assumption)
                                        have q45 : (x29_2 : Int) < ((x8_2.length : Int) : Int) := of_decide_eq_true (by first | (with_reducible assumption) | assumption)
                                        obtain ⟨go45, co45, eo45, gb45, gl45, cl45, HG45⟩ := Kd.R_form HO_8.out (by omega)
                                        (first | cases eo45 | (injection eo45 with ea_ en_ ec_; (first | subst ea_ | (injection ea_ with ea_; subst ea_)); subst ec_; clear en_))
                                        have GB45 := Aside0.mk gb45
                                        have GG45 := Aside0.mk HG45
                                        clear gb45 gl45 HG45
                                        obtain ⟨hx45_0, hf45_0⟩ := Kd.R_celln false HO_8.out (x29_2 : Int) p45 q45
                                        replace p45 := eq_true p45
                                        replace q45 := eq_true q45
                                        have HP47 := Kd.R_putg HO_8.out (x29_2 : Int) false
                                        go_wp2_with (first | ((with_reducible refine gate_store (t := 4) (p := 52) rfl ?_); refine store_event (t := 4) (p := 52) (v := ?vo_w48) (w1 := (wr.setCell ⟨go45, (x29_2 : Int).toNat, none⟩ (.bool false))) ?hg ?ho ?hn ?hr ?_; (case ho => rfl); (case hg => rfl); (case hn => rfl); (case hr => first | (go_simp; done) | (go_simp; rfl)); intro w48 hw; have hg : wr.grownBy w48 (some go45) := (by rw [hw]; exact HP47.2); have hp_ : Kd.R Kd.bool 4 w48 w.heap.size (fun k_ => some k_ ≠ (.slice (some ad115) x5_1.length co22 : Value).ownBlock) (.slice (some ⟨go45, 0, none⟩) x8_2.length co45) y119 := (by rw [hw, Ny119.out]; exact HP47.1); clear HP47; have n0_ := Aside0.mk (hp_); have n1_ := Aside0.mk (Kd.R_after (v := (.slice (some ⟨go45, 0, none⟩) x8_2.length co45)) (v1 := (.slice (some ⟨go45, 0, none⟩) x8_2.length co45)) (ok := (fun _ => True)) (by (with_reducible repeat (first | apply Kd.R_alloc | apply Kd.R_drewN | apply Kd.R_drew)); exact Kd.R_mono HO_27.out (fun _ hk => ⟨trivial, hk⟩)) hg (.inl rfl)); have n2_ := Aside0.mk (blk_grown (g := gb111) (o := .cells #[.int .u8 ((rd_T199 l0 x19_1).f0), .int .u8 ((rd_T199 l0 x19_1).f1), .string ((rd_T199 l0 x19_1).f2), .slice A110_3 ((rd_T199 l0 x19_1).f3).length c110_3, .bool ((rd_T199 l0 x19_1).f4), .bool ((rd_T199 l0 x19_1).f5)] 199 (0, 0)) (by (with_reducible repeat (first | refine blk_drewN ?_ _ | refine blk_drew ?_ | refine blk_alloc ?_ _)); exact BK111.out) hg (Kd.R_ne HO_8.out BK111.out (by decide))); have n3_ := Aside0.mk ((by rw [hw]; exact below_set (HB.out) GB45.out : Below w.heap.size w w48)); clear HO_8; clear HO_27; clear BK111; clear HB; have HO_8 := n0_; have HO_27 := n1_; have BK111 := n2_; have HB := n3_; clear n0_ n1_ n2_ n3_; clear hg hw hp_))
                                        go_roundg k2
                                        case measure => have := HK1.out; have := HK2.out; omega
                                        case rel => exact ⟨(y119), (wrap64 (x29_2 + 1)), (by first | rfl | (simp; done) | (simp [*]; done)), H', ⟨by have := HK1.out; have := HK2.out; omega⟩, ⟨by (with_reducible repeat (first | apply Kd.R_alloc | apply Kd.R_drewN | apply Kd.R_drew)); exact HO_8.out⟩, ⟨by (with_reducible repeat (first | apply Kd.R_alloc | apply Kd.R_drewN | apply Kd.R_drew)); exact Kd.R_mono HO_27.out (fun _ hk => hk.2)⟩, ⟨by (with_reducible repeat (first | refine blk_drewN ?_ _ | refine blk_drew ?_ | refine blk_alloc ?_ _)); exact BK111.out⟩, ⟨by repeat (first | (with_reducible first | exact HB.out | apply below_alloc | apply pw_below_drewN | apply below_drew1 | refine below_set ?_ GE111.out) | exact HB.out)⟩⟩
                                      · rw [if_neg c44] at H
                                        exact absurd H (by simp)
                                · rw [if_neg c26] at H
                                  have c26b0 : (((rd_T199 l0 x19_1).f0) == 42) = false := beq_eq_false_iff_ne.mpr c26
                                  have c26b1 : (((rd_T199 l0 x19_1).f0) != 42) = true := bne_iff_ne.mpr c26
                                  obtain ⟨bq49, hbq49⟩ : ∃ b_ : Bool, b_ = (rdOf false x5_1 x29_2) := ⟨_, rfl⟩
                                  replace H : (if bq49 = true then (if x29_2 < (a1.size : Int) then ((pat_item_one.f k2 ((rd_T199 l0 x19_1).f0) ((rd_T199 l0 x19_1).f1) ((rd_T199 l0 x19_1).f2) ((rd_T199 l0 x19_1).f3) ((rd_T199 l0 x19_1).f4) ((rd_T199 l0 x19_1).f5) (bt a1 x29_2)).bind fun t120 => (if t120 = true then (if 0 ≤ (wrap64 (x29_2 + 1)) then (if (wrap64 (x29_2 + 1)) < (x8_2.length : Int) then (pat_matched.l1 k2 a1 (x8_2.set ((wrap64 (x29_2 + 1)) : Int).toNat true) l0 (l0.length : Int) x19_1 x5_1 (x5_1.length : Int) (wrap64 (x29_2 + 1)) ((rd_T199 l0 x19_1).f0) ((rd_T199 l0 x19_1).f1) ((rd_T199 l0 x19_1).f2) ((rd_T199 l0 x19_1).f3) ((rd_T199 l0 x19_1).f4) ((rd_T199 l0 x19_1).f5)) else (none)) else (none)) else (pat_matched.l1 k2 a1 x8_2 l0 (l0.length : Int) x19_1 x5_1 (x5_1.length : Int) (wrap64 (x29_2 + 1)) ((rd_T199 l0 x19_1).f0) ((rd_T199 l0 x19_1).f1) ((rd_T199 l0 x19_1).f2) ((rd_T199 l0 x19_1).f3) ((rd_T199 l0 x19_1).f4) ((rd_T199 l0 x19_1).f5)))) else (pat_matched.l1 k2 a1 x8_2 l0 (l0.length : Int) x19_1 x5_1 (x5_1.length : Int) (wrap64 (x29_2 + 1)) ((rd_T199 l0 x19_1).f0) ((rd_T199 l0 x19_1).f1) ((rd_T199 l0 x19_1).f2) ((rd_T199 l0 x19_1).f3) ((rd_T199 l0 x19_1).f4) ((rd_T199 l0 x19_1).f5))) else (pat_matched.l1 k2 a1 x8_2 l0 (l0.length : Int) x19_1 x5_1 (x5_1.length : Int) (wrap64 (x29_2 + 1)) ((rd_T199 l0 x19_1).f0) ((rd_T199 l0 x19_1).f1) ((rd_T199 l0 x19_1).f2) ((rd_T199 l0 x19_1).f3) ((rd_T199 l0 x19_1).f4) ((rd_T199 l0 x19_1).f5))) = some r := by rw [← hbq49] at H; exact H
                                  have Nbq49 := Aside0.mk hbq49
                                  clear hbq49
                                  by_cases c50 : bq49 = true
                                  · subst c50
                                    have H1 : (if x29_2 < (a1.size : Int) then ((pat_item_one.f k2 ((rd_T199 l0 x19_1).f0) ((rd_T199 l0 x19_1).f1) ((rd_T199 l0 x19_1).f2) ((rd_T199 l0 x19_1).f3) ((rd_T199 l0 x19_1).f4) ((rd_T199 l0 x19_1).f5) (bt a1 x29_2)).bind fun t120 => (if t120 = true then (if 0 ≤ (wrap64 (x29_2 + 1)) then (if (wrap64 (x29_2 + 1)) < (x8_2.length : Int) then (pat_matched.l1 k2 a1 (x8_2.set ((wrap64 (x29_2 + 1)) : Int).toNat true) l0 (l0.length : Int) x19_1 x5_1 (x5_1.length : Int) (wrap64 (x29_2 + 1)) ((rd_T199 l0 x19_1).f0) ((rd_T199 l0 x19_1).f1) ((rd_T199 l0 x19_1).f2) ((rd_T199 l0 x19_1).f3) ((rd_T199 l0 x19_1).f4) ((rd_T199 l0 x19_1).f5)) else (none)) else (none)) else (pat_matched.l1 k2 a1 x8_2 l0 (l0.length : Int) x19_1 x5_1 (x5_1.length : Int) (wrap64 (x29_2 + 1)) ((rd_T199 l0 x19_1).f0) ((rd_T199 l0 x19_1).f1) ((rd_T199 l0 x19_1).f2) ((rd_T199 l0 x19_1).f3) ((rd_T199 l0 x19_1).f4) ((rd_T199 l0 x19_1).f5)))) else (pat_matched.l1 k2 a1 x8_2 l0 (l0.length : Int) x19_1 x5_1 (x5_1.length : Int) (wrap64 (x29_2 + 1)) ((rd_T199 l0 x19_1).f0) ((rd_T199 l0 x19_1).f1) ((rd_T199 l0 x19_1).f2) ((rd_T199 l0 x19_1).f3) ((rd_T199 l0 x19_1).f4) ((rd_T199 l0 x19_1).f5))) = some r := by rw [if_pos rfl] at H; exact H
                                    clear H
                                    have H := H1
                                    clear H1
                                    by_cases c51 : x29_2 < (a1.size : Int)
                                    · rw [if_pos c51] at H
                                      have c51b0 : decide (x29_2 < (a1.size : Int)) = true := decide_eq_true c51
                                      clear c51
                                      replace H := Option.bind_eq_some_iff.mp H
                                      obtain ⟨t120, A530, H⟩ := H
                                      replace H : (if t120 = true then (if 0 ≤ (wrap64 (x29_2 + 1)) then (if (wrap64 (x29_2 + 1)) < (x8_2.length : Int) then (pat_matched.l1 k2 a1 (x8_2.set ((wrap64 (x29_2 + 1)) : Int).toNat true) l0 (l0.length : Int) x19_1 x5_1 (x5_1.length : Int) (wrap64 (x29_2 + 1)) ((rd_T199 l0 x19_1).f0) ((rd_T199 l0 x19_1).f1) ((rd_T199 l0 x19_1).f2) ((rd_T199 l0 x19_1).f3) ((rd_T199 l0 x19_1).f4) ((rd_T199 l0 x19_1).f5)) else (none)) else (none)) else (pat_matched.l1 k2 a1 x8_2 l0 (l0.length : Int) x19_1 x5_1 (x5_1.length : Int) (wrap64 (x29_2 + 1)) ((rd_T199 l0 x19_1).f0) ((rd_T199 l0 x19_1).f1) ((rd_T199 l0 x19_1).f2) ((rd_T199 l0 x19_1).f3) ((rd_T199 l0 x19_1).f4) ((rd_T199 l0 x19_1).f5))) = some r := H
                                      have A53 := Aside0.mk A530
                                      clear A530
                                      by_cases c54 : t120 = true
                                      · subst c54
                                        have H1 : (if 0 ≤ (wrap64 (x29_2 + 1)) then (if (wrap64 (x29_2 + 1)) < (x8_2.length : Int) then (pat_matched.l1 k2 a1 (x8_2.set ((wrap64 (x29_2 + 1)) : Int).toNat true) l0 (l0.length : Int) x19_1 x5_1 (x5_1.length : Int) (wrap64 (x29_2 + 1)) ((rd_T199 l0 x19_1).f0) ((rd_T199 l0 x19_1).f1) ((rd_T199 l0 x19_1).f2) ((rd_T199 l0 x19_1).f3) ((rd_T199 l0 x19_1).f4) ((rd_T199 l0 x19_1).f5)) else (none)) else (none)) = some r := by rw [if_pos rfl] at H; exact H
                                        clear H
                                        have H := H1
                                        clear H1
                                        obtain ⟨ji55, hji55⟩ : ∃ j_ : Int, (wrap64 (x29_2 + 1)) = j_ := ⟨_, rfl⟩
                                        replace H : (if 0 ≤ (ji55) then (if (ji55) < (x8_2.length : Int) then (pat_matched.l1 k2 a1 (x8_2.set ((ji55) : Int).toNat true) l0 (l0.length : Int) x19_1 x5_1 (x5_1.length : Int) ji55 ((rd_T199 l0 x19_1).f0) ((rd_T199 l0 x19_1).f1) ((rd_T199 l0 x19_1).f2) ((rd_T199 l0 x19_1).f3) ((rd_T199 l0 x19_1).f4) ((rd_T199 l0 x19_1).f5)) else (none)) else (none)) = some r := by first | (rw [hji55] at H; exact H) | (simp only [hji55] at H ⊢; exact H)
                                        (try rw [hji55] at A53)
                                        have hji55w : (IntKind.i64.wrap (x29_2 + 1)) = ji55 := (i64_w _).trans hji55
                                        by_cases c56 : 0 ≤ (ji55)
                                        · rw [if_pos c56] at H
                                          have c56b0 : decide (0 ≤ (ji55)) = true := decide_eq_true c56
                                          clear c56
                                          by_cases c57 : (ji55) < (x8_2.length : Int)
                                          · rw [if_pos c57] at H
                                            have c57b0 : decide ((ji55) < (x8_2.length : Int)) = true := decide_eq_true c57
                                            clear c57
                                            obtain ⟨y121, hy121⟩ : ∃ y_ : List Bool, y_ = (x8_2.set ((ji55) : Int).toNat true) := ⟨_, rfl⟩
                                            replace H : (pat_matched.l1 k2 a1 y121 l0 (l0.length : Int) x19_1 x5_1 (x5_1.length : Int) ji55 ((rd_T199 l0 x19_1).f0) ((rd_T199 l0 x19_1).f1) ((rd_T199 l0 x19_1).f2) ((rd_T199 l0 x19_1).f3) ((rd_T199 l0 x19_1).f4) ((rd_T199 l0 x19_1).f5)) = some r := by first | (rw [hy121]; with_reducible exact H) | (have H2_ := (Option.bind_some _ _).symm.trans H; rw [hy121]; with_reducible exact H2_) | (have H2_ := (Option.bind_some _ _).symm.trans H; with_reducible exact H2_) | with_reducible exact H | (rw [hy121]; exact H) | exact H
                                            have Ny121 := Aside0.mk hy121
                                            clear hy121
                                            have H' := Aside0.mk H
                                            clear H
                                            have p115 : 0 ≤ (x29_2 : Int) := of_decide_eq_true (by first | (with_reducible assumption) | assumption)
                                            have q115 : x29_2 < (x5_1.length : Int) := of_decide_eq_true (by first | (with_reducible assumption) | assumption)
                                            obtain ⟨ad115, e115, hx115_0⟩ := Kd.at_bool (Kd.R_reads' HO_27.out).2.2 x29_2 p115 q115
                                            (try rw [← Nbq49.out] at hx115_0)
                                            cases e115
                                            replace p115 := eq_true p115
                                            replace q115 := eq_true q115
                                            have hcz59_0 : wr.cell? ⟨gb111, 0, none⟩ = some (.int .u8 ((rd_T199 l0 x19_1).f0)) := (blk_cell BK111.out 0).trans rfl
                                            have hcz59_1 : wr.cell? ⟨gb111, 1, none⟩ = some (.int .u8 ((rd_T199 l0 x19_1).f1)) := (blk_cell BK111.out 1).trans rfl
                                            have hcz59_2 : wr.cell? ⟨gb111, 2, none⟩ = some (.string ((rd_T199 l0 x19_1).f2)) := (blk_cell BK111.out 2).trans rfl
                                            have hcz59_3 : wr.cell? ⟨gb111, 3, none⟩ = some (.slice A110_3 ((rd_T199 l0 x19_1).f3).length c110_3) := (blk_cell BK111.out 3).trans rfl
                                            have hcz59_4 : wr.cell? ⟨gb111, 4, none⟩ = some (.bool ((rd_T199 l0 x19_1).f4)) := (blk_cell BK111.out 4).trans rfl
                                            have hcz59_5 : wr.cell? ⟨gb111, 5, none⟩ = some (.bool ((rd_T199 l0 x19_1).f5)) := (blk_cell BK111.out 5).trans rfl
                                            have hfz59_0 := blk_frozen BK111.out 0
                                            have hfz59_1 := blk_frozen BK111.out 1
                                            have hfz59_2 := blk_frozen BK111.out 2
                                            have hfz59_3 := blk_frozen BK111.out 3
                                            have hfz59_4 := blk_frozen BK111.out 4
                                            have hfz59_5 := blk_frozen BK111.out 5
                                            try go_wp2
                                            have n0_ := Aside0.mk (Kd.R_drew HO_8.out)
                                            have n1_ := Aside0.mk (Kd.R_drew HO_27.out)
                                            have n2_ := Aside0.mk (blk_drew BK111.out)
                                            have n3_ := Aside0.mk (below_drew1 HB.out)
                                            clear HO_8
                                            clear HO_27
                                            clear BK111
                                            clear HB
                                            have HO_8 := n0_
                                            have HO_27 := n1_
                                            have BK111 := n2_
                                            have HB := n3_
                                            clear n0_ n1_ n2_ n3_
                                            have p52 : 0 ≤ (x29_2 : Int) := of_decide_eq_true (by first | (with_reducible assumption) | assumption)
                                            have q52 : x29_2 < (a1.size : Int) := of_decide_eq_true (by first | (with_reducible assumption) | assumption)
                                            have hx52 := bt_at a1 x29_2
                                            replace p52 := eq_true p52
                                            replace q52 := eq_true q52
                                            refine start_ (n := 15) (S := fun w' => w'.cell? ⟨gb111, 0, none⟩ = some (.int .u8 ((rd_T199 l0 x19_1).f0)) ∧ w'.cell? ⟨gb111, 1, none⟩ = some (.int .u8 ((rd_T199 l0 x19_1).f1)) ∧ w'.cell? ⟨gb111, 2, none⟩ = some (.string ((rd_T199 l0 x19_1).f2)) ∧ w'.cell? ⟨gb111, 3, none⟩ = some (.slice A110_3 ((rd_T199 l0 x19_1).f3).length c110_3) ∧ w'.cell? ⟨gb111, 4, none⟩ = some (.bool ((rd_T199 l0 x19_1).f4)) ∧ w'.cell? ⟨gb111, 5, none⟩ = some (.bool ((rd_T199 l0 x19_1).f5))) (ds := []) #[false, false, false, false, false, false, false, false, false, false, false, false, false, false, false] (by kernel_rfl) rfl rfl ⟨(blk_cell BK111.out 0).trans rfl, (blk_cell BK111.out 1).trans rfl, (blk_cell BK111.out 2).trans rfl, (blk_cell BK111.out 3).trans rfl, (blk_cell BK111.out 4).trans rfl, (blk_cell BK111.out 5).trans rfl⟩ (fun hHeld => ?_); refine with_tabW pat_matched.tab12 pat_matched.bits12 (fun HT_ HW_ => ?_)
                                            generalize wr.drew = w60 at HO_8 HO_27 BK111 HB hHeld ⊢
                                            refine pure_ (i := 0) (N := some 54) (v := ?_) (a' := ?_) #[true, false, false, false, false, false, false, false, false, false, false, false, false, false, false] rfl rfl (any_of HT_.out (by kernel_rfl)) (fun _ _ _ h => h) (Or.inl ⟨by rfl, ?_⟩) ?_ ?_
                                            rotate_left
                                            · intro w'
                                              go_simp
                                              with_reducible rfl
                                            rotate_left
                                            · simp only [Act.put, List.setIfInBounds_toArray, List.set_cons_zero, List.set_cons_succ, i64_w, i32_w]
                                              rfl
                                            refine pure_ (i := 1) (N := some 55) (v := ?_) (a' := ?_) #[true, true, false, false, false, false, false, false, false, false, false, false, false, false, false] rfl rfl (any_of HT_.out (by kernel_rfl)) (fun _ _ _ h => h) (Or.inl ⟨by rfl, ?_⟩) ?_ ?_
                                            rotate_left
                                            · intro w'
                                              go_simp
                                              with_reducible rfl
                                            rotate_left
                                            · simp only [Act.put, List.setIfInBounds_toArray, List.set_cons_zero, List.set_cons_succ, i64_w, i32_w]
                                              rfl
                                            refine pure_ (i := 2) (N := some 56) (v := ?_) (a' := ?_) #[true, true, true, false, false, false, false, false, false, false, false, false, false, false, false] rfl rfl (any_of HT_.out (by kernel_rfl)) (fun _ _ _ h => h) (Or.inl ⟨by rfl, ?_⟩) ?_ ?_
                                            rotate_left
                                            · intro w'
                                              go_simp
                                              with_reducible rfl
                                            rotate_left
                                            · simp only [Act.put, List.setIfInBounds_toArray, List.set_cons_zero, List.set_cons_succ, i64_w, i32_w]
                                              rfl
                                            refine pure_ (i := 3) (N := some 57) (v := ?_) (a' := ?_) #[true, true, true, true, false, false, false, false, false, false, false, false, false, false, false] rfl rfl (any_of HT_.out (by kernel_rfl)) (fun _ _ _ h => h) (Or.inl ⟨by rfl, ?_⟩) ?_ ?_
                                            rotate_left
                                            · intro w'
                                              go_simp
                                              with_reducible rfl
                                            rotate_left
                                            · simp only [Act.put, List.setIfInBounds_toArray, List.set_cons_zero, List.set_cons_succ, i64_w, i32_w]
                                              rfl
                                            refine pure_ (i := 4) (N := some 58) (v := ?_) (a' := ?_) #[true, true, true, true, true, false, false, false, false, false, false, false, false, false, false] rfl rfl (any_of HT_.out (by kernel_rfl)) (fun _ _ _ h => h) (Or.inl ⟨by rfl, ?_⟩) ?_ ?_
                                            rotate_left
                                            · intro w'
                                              go_simp
                                              with_reducible rfl
                                            rotate_left
                                            · simp only [Act.put, List.setIfInBounds_toArray, List.set_cons_zero, List.set_cons_succ, i64_w, i32_w]
                                              rfl
                                            refine pure_ (i := 5) (N := some 59) (v := ?_) (a' := ?_) #[true, true, true, true, true, true, false, false, false, false, false, false, false, false, false] rfl rfl (any_of HT_.out (by kernel_rfl)) (fun _ _ _ h => h) (Or.inl ⟨by rfl, ?_⟩) ?_ ?_
                                            rotate_left
                                            · intro w'
                                              go_simp
                                              with_reducible rfl
                                            rotate_left
                                            · simp only [Act.put, List.setIfInBounds_toArray, List.set_cons_zero, List.set_cons_succ, i64_w, i32_w]
                                              rfl
                                            refine pure_ (i := 6) (N := some 60) (v := ?_) (a' := ?_) #[true, true, true, true, true, true, true, false, false, false, false, false, false, false, false] rfl rfl (any_of HT_.out (by kernel_rfl)) (fun _ _ _ h => h) (Or.inl ⟨by rfl, ?_⟩) ?_ ?_
                                            rotate_left
                                            · intro w'
                                              go_simp
                                              with_reducible rfl
                                            rotate_left
                                            · simp only [Act.put, List.setIfInBounds_toArray, List.set_cons_zero, List.set_cons_succ, i64_w, i32_w]
                                              rfl
                                            refine pure_ (i := 7) (N := some 61) (v := ?_) (a' := ?_) #[true, true, true, true, true, true, true, true, false, false, false, false, false, false, false] rfl rfl (any_of HT_.out (by kernel_rfl)) (fun _ _ _ h => h) (Or.inl ⟨by rfl, ?_⟩) ?_ ?_
                                            rotate_left
                                            · intro w'
                                              go_simp
                                              with_reducible rfl
                                            rotate_left
                                            · simp only [Act.put, List.setIfInBounds_toArray, List.set_cons_zero, List.set_cons_succ, i64_w, i32_w]
                                              rfl
                                            refine pure_ (i := 9) (N := some 63) (v := ?_) (a' := ?_) #[true, true, true, true, true, true, true, true, false, true, false, false, false, false, false] rfl rfl (any_of HT_.out (by kernel_rfl)) (fun _ _ _ h => h) (Or.inl ⟨by rfl, ?_⟩) ?_ ?_
                                            rotate_left
                                            · intro w'
                                              go_simp
                                              with_reducible rfl
                                            rotate_left
                                            · simp only [Act.put, List.setIfInBounds_toArray, List.set_cons_zero, List.set_cons_succ, i64_w, i32_w]
                                              rfl
                                            refine pure_ (i := 10) (N := some 64) (v := ?_) (a' := ?_) #[true, true, true, true, true, true, true, true, false, true, true, false, false, false, false] rfl rfl (any_of HT_.out (by kernel_rfl)) (fun _ _ _ h => h) (Or.inl ⟨by rfl, ?_⟩) ?_ ?_
                                            rotate_left
                                            · intro w'
                                              go_simp
                                              with_reducible rfl
                                            rotate_left
                                            · simp only [Act.put, List.setIfInBounds_toArray, List.set_cons_zero, List.set_cons_succ, i64_w, i32_w]
                                              rfl
                                            refine take_ (i := 8) (N := some 62) (v := ?_) (a' := ?_) #[true, true, true, true, true, true, true, true, true, true, true, false, false, false, false] rfl rfl (take_ofW HT_.out HW_.out (by kernel_rfl)) (fun _ _ _ h => h) (Or.inl ⟨by rfl, ?_⟩) hHeld ?_ ?_
                                            rotate_left
                                            · rintro w' ⟨s0, s1, s2, s3, s4, s5⟩
                                              go_simp
                                              with_reducible rfl
                                            rotate_left
                                            · simp only [Act.put, List.setIfInBounds_toArray, List.set_cons_zero, List.set_cons_succ, i64_w, i32_w]
                                              rfl
                                            refine take_ (i := 11) (N := some 65) (v := ?_) (a' := ?_) #[true, true, true, true, true, true, true, true, true, true, true, true, false, false, false] rfl rfl (take_ofW HT_.out HW_.out (by kernel_rfl)) (fun _ _ _ h => h) (Or.inl ⟨by rfl, ?_⟩) hHeld ?_ ?_
                                            rotate_left
                                            · rintro w' ⟨s0, s1, s2, s3, s4, s5⟩
                                              go_simp
                                              with_reducible rfl
                                            rotate_left
                                            · simp only [Act.put, List.setIfInBounds_toArray, List.set_cons_zero, List.set_cons_succ, i64_w, i32_w]
                                              rfl
                                            refine one_ (i := 12) (N := some 66) #[true, true, true, true, true, true, true, true, true, true, true, true, true, false, false] rfl rfl (one_of HT_.out (by kernel_rfl)) (by decide) (fun K hK => ?_)
                                            refine goes_ Try.func172 (by kernel_rfl) rfl #[.agg #[.int .u8 ((rd_T199 l0 x19_1).f0), .int .u8 ((rd_T199 l0 x19_1).f1), .string ((rd_T199 l0 x19_1).f2), .slice A110_3 ((rd_T199 l0 x19_1).f3).length c110_3, .bool ((rd_T199 l0 x19_1).f4), .bool ((rd_T199 l0 x19_1).f5)], .int .u8 (bt a1 x29_2)] (by rfl) rfl rfl (by (try simp only [List.map_toArray, List.map_cons, List.map_nil]); first | done | rfl | (simp only [List.length_drop, List.length_take]; rfl)) ?_
                                            with_reducible refine (pat_item_one.calls k2 ((rd_T199 l0 x19_1).f0) ((rd_T199 l0 x19_1).f1) ((rd_T199 l0 x19_1).f2) _ _ ((rd_T199 l0 x19_1).f3) ((rd_T199 l0 x19_1).f4) ((rd_T199 l0 x19_1).f5) (bt a1 x29_2) true _ ?side1 ?side2 A53.out).mono ?_
                                            (case side1 => repeat (first | exact (Kd.C_below HR110_3.out HB.out) | (with_reducible refine Kd.C_alloc ?_ _) | (with_reducible refine Kd.C_drewN ?_ _) | (with_reducible refine Kd.C_drew ?_)))
                                            (case side2 => exact HC110_3.out)
                                            rintro e w61 ⟨rfl, hb⟩
                                            refine ⟨_, rfl, ?_⟩
                                            have n0_ := Aside0.mk (Kd.R_below (by (with_reducible repeat (first | apply Kd.R_alloc | apply Kd.R_drewN | apply Kd.R_drew)); exact HO_8.out) hb)
                                            have n1_ := Aside0.mk (Kd.R_below (by (with_reducible repeat (first | apply Kd.R_alloc | apply Kd.R_drewN | apply Kd.R_drew)); exact HO_27.out) hb)
                                            have n2_ := Aside0.mk (blk_below (g := gb111) (o := .cells #[.int .u8 ((rd_T199 l0 x19_1).f0), .int .u8 ((rd_T199 l0 x19_1).f1), .string ((rd_T199 l0 x19_1).f2), .slice A110_3 ((rd_T199 l0 x19_1).f3).length c110_3, .bool ((rd_T199 l0 x19_1).f4), .bool ((rd_T199 l0 x19_1).f5)] 199 (0, 0)) (by (with_reducible repeat (first | refine blk_drewN ?_ _ | refine blk_drew ?_ | refine blk_alloc ?_ _)); exact BK111.out) hb)
                                            have n3_ := Aside0.mk (below_step (by repeat (first | (with_reducible first | exact HB.out | apply below_alloc | apply pw_below_drewN | apply below_drew1 | refine below_set ?_ GE111.out) | exact HB.out)) hb)
                                            clear HO_8
                                            clear HO_27
                                            clear BK111
                                            clear HB
                                            have HO_8 := n0_
                                            have HO_27 := n1_
                                            have BK111 := n2_
                                            have HB := n3_
                                            clear n0_ n1_ n2_ n3_
                                            (try clear hb)
                                            (try clear hb2)
                                            (try clear hk)
                                            (try clear hi)
                                            refine hK.out _ _ ⟨(blk_cell BK111.out 0).trans rfl, (blk_cell BK111.out 1).trans rfl, (blk_cell BK111.out 2).trans rfl, (blk_cell BK111.out 3).trans rfl, (blk_cell BK111.out 4).trans rfl, (blk_cell BK111.out 5).trans rfl⟩ (fun hHeld => ?_)
                                            clear hK K
                                            refine norm_ (a' := ?_) ?_ ?_
                                            rotate_left
                                            · show Act.put _ (some 66) _ = _
                                              simp only [Act.put, List.setIfInBounds_toArray, List.set_cons_zero, List.set_cons_succ, i64_w, i32_w]
                                              rfl
                                            refine pure_ (i := 13) (N := some 67) (v := ?_) (a' := ?_) #[true, true, true, true, true, true, true, true, true, true, true, true, true, true, false] rfl rfl (any_of HT_.out (by kernel_rfl)) (fun _ _ _ h => h) (Or.inl ⟨by rfl, ?_⟩) ?_ ?_
                                            rotate_left
                                            · intro w'
                                              go_simp
                                              with_reducible rfl
                                            rotate_left
                                            · simp only [Act.put, List.setIfInBounds_toArray, List.set_cons_zero, List.set_cons_succ, i64_w, i32_w]
                                              rfl
                                            refine pure_ (i := 14) (N := some 53) (v := ?_) (a' := ?_) #[true, true, true, true, true, true, true, true, true, true, true, true, true, true, true] rfl rfl (any_of HT_.out (by kernel_rfl)) (fun _ _ _ h => h) (Or.inl ⟨by rfl, ?_⟩) ?_ ?_
                                            rotate_left
                                            · intro w'
                                              go_simp
                                              with_reducible rfl
                                            rotate_left
                                            · simp only [Act.put, List.setIfInBounds_toArray, List.set_cons_zero, List.set_cons_succ, i64_w, i32_w]
                                              rfl
                                            refine done_ (done_of HT_.out (by kernel_rfl)) ?_
                                            have p58 : 0 ≤ ((ji55) : Int) := of_decide_eq_true (by first | (with_reducible assumption) | assumption)
                                            have q58 : ((ji55) : Int) < ((x8_2.length : Int) : Int) := of_decide_eq_true (by first | (with_reducible assumption) | assumption)
                                            obtain ⟨go58, co58, eo58, gb58, gl58, cl58, HG58⟩ := Kd.R_form HO_8.out (by omega)
                                            (first | cases eo58 | (injection eo58 with ea_ en_ ec_; (first | subst ea_ | (injection ea_ with ea_; subst ea_)); subst ec_; clear en_))
                                            have GB58 := Aside0.mk gb58
                                            have GG58 := Aside0.mk HG58
                                            clear gb58 gl58 HG58
                                            obtain ⟨hx58_0, hf58_0⟩ := Kd.R_celln false HO_8.out ((ji55) : Int) p58 q58
                                            replace p58 := eq_true p58
                                            replace q58 := eq_true q58
                                            obtain ⟨hy62_, hz62_⟩ := Kd.R_celln false HO_8.out ((ji55) : Int) (of_decide_eq_true (by first | (with_reducible assumption) | assumption)) (of_decide_eq_true (by first | (with_reducible assumption) | assumption))
                                            have HP62 := Kd.R_putg HO_8.out ((ji55) : Int) true
                                            try go_wp2_with (first | ((with_reducible refine gate_store (t := 4) (p := 71) rfl ?_); refine store_event (t := 4) (p := 71) (v := ?vo_w63) (w1 := (w61.setCell ⟨go58, ((ji55) : Int).toNat, none⟩ (.bool true))) ?hg ?ho ?hn ?hr ?_; (case ho => rfl); (case hg => rfl); (case hn => rfl); (case hr => first | (go_simp; done) | (go_simp; rfl)); intro w63 hw; have hg : w61.grownBy w63 (some go58) := (by rw [hw]; exact HP62.2); have hp_ : Kd.R Kd.bool 4 w63 w.heap.size (fun k_ => some k_ ≠ (.slice (some ad115) x5_1.length co22 : Value).ownBlock) (.slice (some ⟨go58, 0, none⟩) x8_2.length co58) y121 := (by rw [hw, Ny121.out]; exact HP62.1); clear HP62; have n0_ := Aside0.mk (hp_); have n1_ := Aside0.mk (Kd.R_after (v := (.slice (some ⟨go58, 0, none⟩) x8_2.length co58)) (v1 := (.slice (some ⟨go58, 0, none⟩) x8_2.length co58)) (ok := (fun _ => True)) (by (with_reducible repeat (first | apply Kd.R_alloc | apply Kd.R_drewN | apply Kd.R_drew)); exact Kd.R_mono HO_27.out (fun _ hk => ⟨trivial, hk⟩)) hg (.inl rfl)); have n2_ := Aside0.mk (blk_grown (g := gb111) (o := .cells #[.int .u8 ((rd_T199 l0 x19_1).f0), .int .u8 ((rd_T199 l0 x19_1).f1), .string ((rd_T199 l0 x19_1).f2), .slice A110_3 ((rd_T199 l0 x19_1).f3).length c110_3, .bool ((rd_T199 l0 x19_1).f4), .bool ((rd_T199 l0 x19_1).f5)] 199 (0, 0)) (by (with_reducible repeat (first | refine blk_drewN ?_ _ | refine blk_drew ?_ | refine blk_alloc ?_ _)); exact BK111.out) hg (Kd.R_ne HO_8.out BK111.out (by decide))); have n3_ := Aside0.mk ((by rw [hw]; exact below_set (HB.out) GB58.out : Below w.heap.size w w63)); clear HO_8; clear HO_27; clear BK111; clear HB; have HO_8 := n0_; have HO_27 := n1_; have BK111 := n2_; have HB := n3_; clear n0_ n1_ n2_ n3_; clear hg hw hp_))
                                            go_roundg k2
                                            case measure => have := HK1.out; have := HK2.out; omega
                                            case rel => exact ⟨(y121), (ji55), (by first | rfl | (simp; done) | (simp only [← hji55] <;> (first | rfl | simp)) | (simp [*]; done)), H', ⟨by have := HK1.out; have := HK2.out; omega⟩, ⟨by (with_reducible repeat (first | apply Kd.R_alloc | apply Kd.R_drewN | apply Kd.R_drew)); exact HO_8.out⟩, ⟨by (with_reducible repeat (first | apply Kd.R_alloc | apply Kd.R_drewN | apply Kd.R_drew)); exact Kd.R_mono HO_27.out (fun _ hk => hk.2)⟩, ⟨by (with_reducible repeat (first | refine blk_drewN ?_ _ | refine blk_drew ?_ | refine blk_alloc ?_ _)); exact BK111.out⟩, ⟨by repeat (first | (with_reducible first | exact HB.out | apply below_alloc | apply pw_below_drewN | apply below_drew1 | refine below_set ?_ GE111.out) | exact HB.out)⟩⟩
                                          · rw [if_neg c57] at H
                                            exact absurd H (by simp)
                                        · rw [if_neg c56] at H
                                          exact absurd H (by simp)
                                      · replace c54 := Bool.eq_false_iff.mpr c54
                                        subst c54
                                        have H1 : (pat_matched.l1 k2 a1 x8_2 l0 (l0.length : Int) x19_1 x5_1 (x5_1.length : Int) (wrap64 (x29_2 + 1)) ((rd_T199 l0 x19_1).f0) ((rd_T199 l0 x19_1).f1) ((rd_T199 l0 x19_1).f2) ((rd_T199 l0 x19_1).f3) ((rd_T199 l0 x19_1).f4) ((rd_T199 l0 x19_1).f5)) = some r := by rw [if_neg (show ¬ (false = true) by decide)] at H; exact H
                                        clear H
                                        have H := H1
                                        clear H1
                                        have H' := Aside0.mk H
                                        clear H
                                        have p115 : 0 ≤ (x29_2 : Int) := of_decide_eq_true (by first | (with_reducible assumption) | assumption)
                                        have q115 : x29_2 < (x5_1.length : Int) := of_decide_eq_true (by first | (with_reducible assumption) | assumption)
                                        obtain ⟨ad115, e115, hx115_0⟩ := Kd.at_bool (Kd.R_reads' HO_27.out).2.2 x29_2 p115 q115
                                        (try rw [← Nbq49.out] at hx115_0)
                                        cases e115
                                        replace p115 := eq_true p115
                                        replace q115 := eq_true q115
                                        have hcz64_0 : wr.cell? ⟨gb111, 0, none⟩ = some (.int .u8 ((rd_T199 l0 x19_1).f0)) := (blk_cell BK111.out 0).trans rfl
                                        have hcz64_1 : wr.cell? ⟨gb111, 1, none⟩ = some (.int .u8 ((rd_T199 l0 x19_1).f1)) := (blk_cell BK111.out 1).trans rfl
                                        have hcz64_2 : wr.cell? ⟨gb111, 2, none⟩ = some (.string ((rd_T199 l0 x19_1).f2)) := (blk_cell BK111.out 2).trans rfl
                                        have hcz64_3 : wr.cell? ⟨gb111, 3, none⟩ = some (.slice A110_3 ((rd_T199 l0 x19_1).f3).length c110_3) := (blk_cell BK111.out 3).trans rfl
                                        have hcz64_4 : wr.cell? ⟨gb111, 4, none⟩ = some (.bool ((rd_T199 l0 x19_1).f4)) := (blk_cell BK111.out 4).trans rfl
                                        have hcz64_5 : wr.cell? ⟨gb111, 5, none⟩ = some (.bool ((rd_T199 l0 x19_1).f5)) := (blk_cell BK111.out 5).trans rfl
                                        have hfz64_0 := blk_frozen BK111.out 0
                                        have hfz64_1 := blk_frozen BK111.out 1
                                        have hfz64_2 := blk_frozen BK111.out 2
                                        have hfz64_3 := blk_frozen BK111.out 3
                                        have hfz64_4 := blk_frozen BK111.out 4
                                        have hfz64_5 := blk_frozen BK111.out 5
                                        try go_wp2
                                        have n0_ := Aside0.mk (Kd.R_drew HO_8.out)
                                        have n1_ := Aside0.mk (Kd.R_drew HO_27.out)
                                        have n2_ := Aside0.mk (blk_drew BK111.out)
                                        have n3_ := Aside0.mk (below_drew1 HB.out)
                                        clear HO_8
                                        clear HO_27
                                        clear BK111
                                        clear HB
                                        have HO_8 := n0_
                                        have HO_27 := n1_
                                        have BK111 := n2_
                                        have HB := n3_
                                        clear n0_ n1_ n2_ n3_
                                        have p52 : 0 ≤ (x29_2 : Int) := of_decide_eq_true (by first | (with_reducible assumption) | assumption)
                                        have q52 : x29_2 < (a1.size : Int) := of_decide_eq_true (by first | (with_reducible assumption) | assumption)
                                        have hx52 := bt_at a1 x29_2
                                        replace p52 := eq_true p52
                                        replace q52 := eq_true q52
                                        refine start_ (n := 15) (S := fun w' => w'.cell? ⟨gb111, 0, none⟩ = some (.int .u8 ((rd_T199 l0 x19_1).f0)) ∧ w'.cell? ⟨gb111, 1, none⟩ = some (.int .u8 ((rd_T199 l0 x19_1).f1)) ∧ w'.cell? ⟨gb111, 2, none⟩ = some (.string ((rd_T199 l0 x19_1).f2)) ∧ w'.cell? ⟨gb111, 3, none⟩ = some (.slice A110_3 ((rd_T199 l0 x19_1).f3).length c110_3) ∧ w'.cell? ⟨gb111, 4, none⟩ = some (.bool ((rd_T199 l0 x19_1).f4)) ∧ w'.cell? ⟨gb111, 5, none⟩ = some (.bool ((rd_T199 l0 x19_1).f5))) (ds := []) #[false, false, false, false, false, false, false, false, false, false, false, false, false, false, false] (by kernel_rfl) rfl rfl ⟨(blk_cell BK111.out 0).trans rfl, (blk_cell BK111.out 1).trans rfl, (blk_cell BK111.out 2).trans rfl, (blk_cell BK111.out 3).trans rfl, (blk_cell BK111.out 4).trans rfl, (blk_cell BK111.out 5).trans rfl⟩ (fun hHeld => ?_); refine with_tabW pat_matched.tab12 pat_matched.bits12 (fun HT_ HW_ => ?_)
                                        generalize wr.drew = w65 at HO_8 HO_27 BK111 HB hHeld ⊢
                                        refine pure_ (i := 0) (N := some 54) (v := ?_) (a' := ?_) #[true, false, false, false, false, false, false, false, false, false, false, false, false, false, false] rfl rfl (any_of HT_.out (by kernel_rfl)) (fun _ _ _ h => h) (Or.inl ⟨by rfl, ?_⟩) ?_ ?_
                                        rotate_left
                                        · intro w'
                                          go_simp
                                          with_reducible rfl
                                        rotate_left
                                        · simp only [Act.put, List.setIfInBounds_toArray, List.set_cons_zero, List.set_cons_succ, i64_w, i32_w]
                                          rfl
                                        refine pure_ (i := 1) (N := some 55) (v := ?_) (a' := ?_) #[true, true, false, false, false, false, false, false, false, false, false, false, false, false, false] rfl rfl (any_of HT_.out (by kernel_rfl)) (fun _ _ _ h => h) (Or.inl ⟨by rfl, ?_⟩) ?_ ?_
                                        rotate_left
                                        · intro w'
                                          go_simp
                                          with_reducible rfl
                                        rotate_left
                                        · simp only [Act.put, List.setIfInBounds_toArray, List.set_cons_zero, List.set_cons_succ, i64_w, i32_w]
                                          rfl
                                        refine pure_ (i := 2) (N := some 56) (v := ?_) (a' := ?_) #[true, true, true, false, false, false, false, false, false, false, false, false, false, false, false] rfl rfl (any_of HT_.out (by kernel_rfl)) (fun _ _ _ h => h) (Or.inl ⟨by rfl, ?_⟩) ?_ ?_
                                        rotate_left
                                        · intro w'
                                          go_simp
                                          with_reducible rfl
                                        rotate_left
                                        · simp only [Act.put, List.setIfInBounds_toArray, List.set_cons_zero, List.set_cons_succ, i64_w, i32_w]
                                          rfl
                                        refine pure_ (i := 3) (N := some 57) (v := ?_) (a' := ?_) #[true, true, true, true, false, false, false, false, false, false, false, false, false, false, false] rfl rfl (any_of HT_.out (by kernel_rfl)) (fun _ _ _ h => h) (Or.inl ⟨by rfl, ?_⟩) ?_ ?_
                                        rotate_left
                                        · intro w'
                                          go_simp
                                          with_reducible rfl
                                        rotate_left
                                        · simp only [Act.put, List.setIfInBounds_toArray, List.set_cons_zero, List.set_cons_succ, i64_w, i32_w]
                                          rfl
                                        refine pure_ (i := 4) (N := some 58) (v := ?_) (a' := ?_) #[true, true, true, true, true, false, false, false, false, false, false, false, false, false, false] rfl rfl (any_of HT_.out (by kernel_rfl)) (fun _ _ _ h => h) (Or.inl ⟨by rfl, ?_⟩) ?_ ?_
                                        rotate_left
                                        · intro w'
                                          go_simp
                                          with_reducible rfl
                                        rotate_left
                                        · simp only [Act.put, List.setIfInBounds_toArray, List.set_cons_zero, List.set_cons_succ, i64_w, i32_w]
                                          rfl
                                        refine pure_ (i := 5) (N := some 59) (v := ?_) (a' := ?_) #[true, true, true, true, true, true, false, false, false, false, false, false, false, false, false] rfl rfl (any_of HT_.out (by kernel_rfl)) (fun _ _ _ h => h) (Or.inl ⟨by rfl, ?_⟩) ?_ ?_
                                        rotate_left
                                        · intro w'
                                          go_simp
                                          with_reducible rfl
                                        rotate_left
                                        · simp only [Act.put, List.setIfInBounds_toArray, List.set_cons_zero, List.set_cons_succ, i64_w, i32_w]
                                          rfl
                                        refine pure_ (i := 6) (N := some 60) (v := ?_) (a' := ?_) #[true, true, true, true, true, true, true, false, false, false, false, false, false, false, false] rfl rfl (any_of HT_.out (by kernel_rfl)) (fun _ _ _ h => h) (Or.inl ⟨by rfl, ?_⟩) ?_ ?_
                                        rotate_left
                                        · intro w'
                                          go_simp
                                          with_reducible rfl
                                        rotate_left
                                        · simp only [Act.put, List.setIfInBounds_toArray, List.set_cons_zero, List.set_cons_succ, i64_w, i32_w]
                                          rfl
                                        refine pure_ (i := 7) (N := some 61) (v := ?_) (a' := ?_) #[true, true, true, true, true, true, true, true, false, false, false, false, false, false, false] rfl rfl (any_of HT_.out (by kernel_rfl)) (fun _ _ _ h => h) (Or.inl ⟨by rfl, ?_⟩) ?_ ?_
                                        rotate_left
                                        · intro w'
                                          go_simp
                                          with_reducible rfl
                                        rotate_left
                                        · simp only [Act.put, List.setIfInBounds_toArray, List.set_cons_zero, List.set_cons_succ, i64_w, i32_w]
                                          rfl
                                        refine pure_ (i := 9) (N := some 63) (v := ?_) (a' := ?_) #[true, true, true, true, true, true, true, true, false, true, false, false, false, false, false] rfl rfl (any_of HT_.out (by kernel_rfl)) (fun _ _ _ h => h) (Or.inl ⟨by rfl, ?_⟩) ?_ ?_
                                        rotate_left
                                        · intro w'
                                          go_simp
                                          with_reducible rfl
                                        rotate_left
                                        · simp only [Act.put, List.setIfInBounds_toArray, List.set_cons_zero, List.set_cons_succ, i64_w, i32_w]
                                          rfl
                                        refine pure_ (i := 10) (N := some 64) (v := ?_) (a' := ?_) #[true, true, true, true, true, true, true, true, false, true, true, false, false, false, false] rfl rfl (any_of HT_.out (by kernel_rfl)) (fun _ _ _ h => h) (Or.inl ⟨by rfl, ?_⟩) ?_ ?_
                                        rotate_left
                                        · intro w'
                                          go_simp
                                          with_reducible rfl
                                        rotate_left
                                        · simp only [Act.put, List.setIfInBounds_toArray, List.set_cons_zero, List.set_cons_succ, i64_w, i32_w]
                                          rfl
                                        refine take_ (i := 8) (N := some 62) (v := ?_) (a' := ?_) #[true, true, true, true, true, true, true, true, true, true, true, false, false, false, false] rfl rfl (take_ofW HT_.out HW_.out (by kernel_rfl)) (fun _ _ _ h => h) (Or.inl ⟨by rfl, ?_⟩) hHeld ?_ ?_
                                        rotate_left
                                        · rintro w' ⟨s0, s1, s2, s3, s4, s5⟩
                                          go_simp
                                          with_reducible rfl
                                        rotate_left
                                        · simp only [Act.put, List.setIfInBounds_toArray, List.set_cons_zero, List.set_cons_succ, i64_w, i32_w]
                                          rfl
                                        refine take_ (i := 11) (N := some 65) (v := ?_) (a' := ?_) #[true, true, true, true, true, true, true, true, true, true, true, true, false, false, false] rfl rfl (take_ofW HT_.out HW_.out (by kernel_rfl)) (fun _ _ _ h => h) (Or.inl ⟨by rfl, ?_⟩) hHeld ?_ ?_
                                        rotate_left
                                        · rintro w' ⟨s0, s1, s2, s3, s4, s5⟩
                                          go_simp
                                          with_reducible rfl
                                        rotate_left
                                        · simp only [Act.put, List.setIfInBounds_toArray, List.set_cons_zero, List.set_cons_succ, i64_w, i32_w]
                                          rfl
                                        refine one_ (i := 12) (N := some 66) #[true, true, true, true, true, true, true, true, true, true, true, true, true, false, false] rfl rfl (one_of HT_.out (by kernel_rfl)) (by decide) (fun K hK => ?_)
                                        refine goes_ Try.func172 (by kernel_rfl) rfl #[.agg #[.int .u8 ((rd_T199 l0 x19_1).f0), .int .u8 ((rd_T199 l0 x19_1).f1), .string ((rd_T199 l0 x19_1).f2), .slice A110_3 ((rd_T199 l0 x19_1).f3).length c110_3, .bool ((rd_T199 l0 x19_1).f4), .bool ((rd_T199 l0 x19_1).f5)], .int .u8 (bt a1 x29_2)] (by rfl) rfl rfl (by (try simp only [List.map_toArray, List.map_cons, List.map_nil]); first | done | rfl | (simp only [List.length_drop, List.length_take]; rfl)) ?_
                                        with_reducible refine (pat_item_one.calls k2 ((rd_T199 l0 x19_1).f0) ((rd_T199 l0 x19_1).f1) ((rd_T199 l0 x19_1).f2) _ _ ((rd_T199 l0 x19_1).f3) ((rd_T199 l0 x19_1).f4) ((rd_T199 l0 x19_1).f5) (bt a1 x29_2) false _ ?side1 ?side2 A53.out).mono ?_
                                        (case side1 => repeat (first | exact (Kd.C_below HR110_3.out HB.out) | (with_reducible refine Kd.C_alloc ?_ _) | (with_reducible refine Kd.C_drewN ?_ _) | (with_reducible refine Kd.C_drew ?_)))
                                        (case side2 => exact HC110_3.out)
                                        rintro e w66 ⟨rfl, hb⟩
                                        refine ⟨_, rfl, ?_⟩
                                        have n0_ := Aside0.mk (Kd.R_below (by (with_reducible repeat (first | apply Kd.R_alloc | apply Kd.R_drewN | apply Kd.R_drew)); exact HO_8.out) hb)
                                        have n1_ := Aside0.mk (Kd.R_below (by (with_reducible repeat (first | apply Kd.R_alloc | apply Kd.R_drewN | apply Kd.R_drew)); exact HO_27.out) hb)
                                        have n2_ := Aside0.mk (blk_below (g := gb111) (o := .cells #[.int .u8 ((rd_T199 l0 x19_1).f0), .int .u8 ((rd_T199 l0 x19_1).f1), .string ((rd_T199 l0 x19_1).f2), .slice A110_3 ((rd_T199 l0 x19_1).f3).length c110_3, .bool ((rd_T199 l0 x19_1).f4), .bool ((rd_T199 l0 x19_1).f5)] 199 (0, 0)) (by (with_reducible repeat (first | refine blk_drewN ?_ _ | refine blk_drew ?_ | refine blk_alloc ?_ _)); exact BK111.out) hb)
                                        have n3_ := Aside0.mk (below_step (by repeat (first | (with_reducible first | exact HB.out | apply below_alloc | apply pw_below_drewN | apply below_drew1 | refine below_set ?_ GE111.out) | exact HB.out)) hb)
                                        clear HO_8
                                        clear HO_27
                                        clear BK111
                                        clear HB
                                        have HO_8 := n0_
                                        have HO_27 := n1_
                                        have BK111 := n2_
                                        have HB := n3_
                                        clear n0_ n1_ n2_ n3_
                                        (try clear hb)
                                        (try clear hb2)
                                        (try clear hk)
                                        (try clear hi)
                                        refine hK.out _ _ ⟨(blk_cell BK111.out 0).trans rfl, (blk_cell BK111.out 1).trans rfl, (blk_cell BK111.out 2).trans rfl, (blk_cell BK111.out 3).trans rfl, (blk_cell BK111.out 4).trans rfl, (blk_cell BK111.out 5).trans rfl⟩ (fun hHeld => ?_)
                                        clear hK K
                                        refine norm_ (a' := ?_) ?_ ?_
                                        rotate_left
                                        · show Act.put _ (some 66) _ = _
                                          simp only [Act.put, List.setIfInBounds_toArray, List.set_cons_zero, List.set_cons_succ, i64_w, i32_w]
                                          rfl
                                        refine pure_ (i := 13) (N := some 67) (v := ?_) (a' := ?_) #[true, true, true, true, true, true, true, true, true, true, true, true, true, true, false] rfl rfl (any_of HT_.out (by kernel_rfl)) (fun _ _ _ h => h) (Or.inl ⟨by rfl, ?_⟩) ?_ ?_
                                        rotate_left
                                        · intro w'
                                          go_simp
                                          with_reducible rfl
                                        rotate_left
                                        · simp only [Act.put, List.setIfInBounds_toArray, List.set_cons_zero, List.set_cons_succ, i64_w, i32_w]
                                          rfl
                                        refine pure_ (i := 14) (N := some 53) (v := ?_) (a' := ?_) #[true, true, true, true, true, true, true, true, true, true, true, true, true, true, true] rfl rfl (any_of HT_.out (by kernel_rfl)) (fun _ _ _ h => h) (Or.inl ⟨by rfl, ?_⟩) ?_ ?_
                                        rotate_left
                                        · intro w'
                                          go_simp
                                          with_reducible rfl
                                        rotate_left
                                        · simp only [Act.put, List.setIfInBounds_toArray, List.set_cons_zero, List.set_cons_succ, i64_w, i32_w]
                                          rfl
                                        refine done_ (done_of HT_.out (by kernel_rfl)) ?_
                                        try go_wp2
                                        go_roundg k2
                                        case measure => have := HK1.out; have := HK2.out; omega
                                        case rel => exact ⟨(x8_2), (wrap64 (x29_2 + 1)), (by first | rfl | (simp; done) | (simp [*]; done)), H', ⟨by have := HK1.out; have := HK2.out; omega⟩, ⟨by (with_reducible repeat (first | apply Kd.R_alloc | apply Kd.R_drewN | apply Kd.R_drew)); exact HO_8.out⟩, ⟨by (with_reducible repeat (first | apply Kd.R_alloc | apply Kd.R_drewN | apply Kd.R_drew)); exact HO_27.out⟩, ⟨by (with_reducible repeat (first | refine blk_drewN ?_ _ | refine blk_drew ?_ | refine blk_alloc ?_ _)); exact BK111.out⟩, ⟨by repeat (first | (with_reducible first | exact HB.out | apply below_alloc | apply pw_below_drewN | apply below_drew1 | refine below_set ?_ GE111.out) | exact HB.out)⟩⟩
                                    · rw [if_neg c51] at H
                                      have c51b0 : decide (x29_2 < (a1.size : Int)) = false := decide_eq_false c51
                                      clear c51
                                      have H' := Aside0.mk H
                                      clear H
                                      have p115 : 0 ≤ (x29_2 : Int) := of_decide_eq_true (by first | (with_reducible assumption) | assumption)
                                      have q115 : x29_2 < (x5_1.length : Int) := of_decide_eq_true (by first | (with_reducible assumption) | assumption)
                                      obtain ⟨ad115, e115, hx115_0⟩ := Kd.at_bool (Kd.R_reads' HO_27.out).2.2 x29_2 p115 q115
                                      (try rw [← Nbq49.out] at hx115_0)
                                      cases e115
                                      replace p115 := eq_true p115
                                      replace q115 := eq_true q115
                                      have hcz67_0 : wr.cell? ⟨gb111, 0, none⟩ = some (.int .u8 ((rd_T199 l0 x19_1).f0)) := (blk_cell BK111.out 0).trans rfl
                                      have hcz67_1 : wr.cell? ⟨gb111, 1, none⟩ = some (.int .u8 ((rd_T199 l0 x19_1).f1)) := (blk_cell BK111.out 1).trans rfl
                                      have hcz67_2 : wr.cell? ⟨gb111, 2, none⟩ = some (.string ((rd_T199 l0 x19_1).f2)) := (blk_cell BK111.out 2).trans rfl
                                      have hcz67_3 : wr.cell? ⟨gb111, 3, none⟩ = some (.slice A110_3 ((rd_T199 l0 x19_1).f3).length c110_3) := (blk_cell BK111.out 3).trans rfl
                                      have hcz67_4 : wr.cell? ⟨gb111, 4, none⟩ = some (.bool ((rd_T199 l0 x19_1).f4)) := (blk_cell BK111.out 4).trans rfl
                                      have hcz67_5 : wr.cell? ⟨gb111, 5, none⟩ = some (.bool ((rd_T199 l0 x19_1).f5)) := (blk_cell BK111.out 5).trans rfl
                                      have hfz67_0 := blk_frozen BK111.out 0
                                      have hfz67_1 := blk_frozen BK111.out 1
                                      have hfz67_2 := blk_frozen BK111.out 2
                                      have hfz67_3 := blk_frozen BK111.out 3
                                      have hfz67_4 := blk_frozen BK111.out 4
                                      have hfz67_5 := blk_frozen BK111.out 5
                                      try go_wp2
                                      have n0_ := Aside0.mk (Kd.R_drew HO_8.out)
                                      have n1_ := Aside0.mk (Kd.R_drew HO_27.out)
                                      have n2_ := Aside0.mk (blk_drew BK111.out)
                                      have n3_ := Aside0.mk (below_drew1 HB.out)
                                      clear HO_8
                                      clear HO_27
                                      clear BK111
                                      clear HB
                                      have HO_8 := n0_
                                      have HO_27 := n1_
                                      have BK111 := n2_
                                      have HB := n3_
                                      clear n0_ n1_ n2_ n3_
                                      refine start_ (n := 15) (S := fun w' => True) (ds := []) #[false, false, false, false, false, false, false, false, false, false, false, false, false, false, false] (by kernel_rfl) rfl rfl trivial (fun hHeld => ?_); refine with_tabW pat_matched.tab12 pat_matched.bits12 (fun HT_ HW_ => ?_)
                                      generalize wr.drew = w68 at HO_8 HO_27 BK111 HB hHeld ⊢
                                      refine pure_ (i := 0) (N := some 54) (v := ?_) (a' := ?_) #[true, false, false, false, false, false, false, false, false, false, false, false, false, false, false] rfl rfl (any_of HT_.out (by kernel_rfl)) (fun _ _ _ h => h) (Or.inl ⟨by rfl, ?_⟩) ?_ ?_
                                      rotate_left
                                      · intro w'
                                        go_simp
                                        with_reducible rfl
                                      rotate_left
                                      · simp only [Act.put, List.setIfInBounds_toArray, List.set_cons_zero, List.set_cons_succ, i64_w, i32_w]
                                        rfl
                                      refine pure_ (i := 1) (N := some 55) (v := ?_) (a' := ?_) #[true, true, false, false, false, false, false, false, false, false, false, false, false, false, false] rfl rfl (any_of HT_.out (by kernel_rfl)) (fun _ _ _ h => h) (Or.inl ⟨by rfl, ?_⟩) ?_ ?_
                                      rotate_left
                                      · intro w'
                                        go_simp
                                        with_reducible rfl
                                      rotate_left
                                      · simp only [Act.put, List.setIfInBounds_toArray, List.set_cons_zero, List.set_cons_succ, i64_w, i32_w]
                                        rfl
                                      refine pure_ (i := 2) (N := some 56) (v := ?_) (a' := ?_) #[true, true, true, false, false, false, false, false, false, false, false, false, false, false, false] rfl rfl (any_of HT_.out (by kernel_rfl)) (fun _ _ _ h => h) (Or.inl ⟨by rfl, ?_⟩) ?_ ?_
                                      rotate_left
                                      · intro w'
                                        go_simp
                                        with_reducible rfl
                                      rotate_left
                                      · simp only [Act.put, List.setIfInBounds_toArray, List.set_cons_zero, List.set_cons_succ, i64_w, i32_w]
                                        rfl
                                      refine pure_ (i := 3) (N := some 57) (v := ?_) (a' := ?_) #[true, true, true, true, false, false, false, false, false, false, false, false, false, false, false] rfl rfl (any_of HT_.out (by kernel_rfl)) (fun _ _ _ h => h) (Or.inl ⟨by rfl, ?_⟩) ?_ ?_
                                      rotate_left
                                      · intro w'
                                        go_simp
                                        with_reducible rfl
                                      rotate_left
                                      · simp only [Act.put, List.setIfInBounds_toArray, List.set_cons_zero, List.set_cons_succ, i64_w, i32_w]
                                        rfl
                                      refine pure_ (i := 4) (N := some 58) (v := ?_) (a' := ?_) #[true, true, true, true, true, false, false, false, false, false, false, false, false, false, false] rfl rfl (any_of HT_.out (by kernel_rfl)) (fun _ _ _ h => h) (Or.inl ⟨by rfl, ?_⟩) ?_ ?_
                                      rotate_left
                                      · intro w'
                                        go_simp
                                        with_reducible rfl
                                      rotate_left
                                      · simp only [Act.put, List.setIfInBounds_toArray, List.set_cons_zero, List.set_cons_succ, i64_w, i32_w]
                                        rfl
                                      refine pure_ (i := 5) (N := some 59) (v := ?_) (a' := ?_) #[true, true, true, true, true, true, false, false, false, false, false, false, false, false, false] rfl rfl (any_of HT_.out (by kernel_rfl)) (fun _ _ _ h => h) (Or.inl ⟨by rfl, ?_⟩) ?_ ?_
                                      rotate_left
                                      · intro w'
                                        go_simp
                                        with_reducible rfl
                                      rotate_left
                                      · simp only [Act.put, List.setIfInBounds_toArray, List.set_cons_zero, List.set_cons_succ, i64_w, i32_w]
                                        rfl
                                      refine pure_ (i := 6) (N := some 60) (v := ?_) (a' := ?_) #[true, true, true, true, true, true, true, false, false, false, false, false, false, false, false] rfl rfl (any_of HT_.out (by kernel_rfl)) (fun _ _ _ h => h) (Or.inl ⟨by rfl, ?_⟩) ?_ ?_
                                      rotate_left
                                      · intro w'
                                        go_simp
                                        with_reducible rfl
                                      rotate_left
                                      · simp only [Act.put, List.setIfInBounds_toArray, List.set_cons_zero, List.set_cons_succ, i64_w, i32_w]
                                        rfl
                                      refine pure_ (i := 7) (N := some 61) (v := ?_) (a' := ?_) #[true, true, true, true, true, true, true, true, false, false, false, false, false, false, false] rfl rfl (any_of HT_.out (by kernel_rfl)) (fun _ _ _ h => h) (Or.inl ⟨by rfl, ?_⟩) ?_ ?_
                                      rotate_left
                                      · intro w'
                                        go_simp
                                        with_reducible rfl
                                      rotate_left
                                      · simp only [Act.put, List.setIfInBounds_toArray, List.set_cons_zero, List.set_cons_succ, i64_w, i32_w]
                                        rfl
                                      refine pure_ (i := 8) (N := some 62) (v := undef) (a' := ?_) #[true, true, true, true, true, true, true, true, true, false, false, false, false, false, false] rfl rfl (any_of HT_.out (by kernel_rfl)) (fun _ _ _ h => h) (Or.inr ⟨by rfl, rfl⟩) ?_ ?_
                                      rotate_left
                                      · simp only [Act.put, List.setIfInBounds_toArray, List.set_cons_zero, List.set_cons_succ, i64_w, i32_w]
                                        rfl
                                      refine pure_ (i := 9) (N := some 63) (v := undef) (a' := ?_) #[true, true, true, true, true, true, true, true, true, true, false, false, false, false, false] rfl rfl (any_of HT_.out (by kernel_rfl)) (fun _ _ _ h => h) (Or.inr ⟨by rfl, rfl⟩) ?_ ?_
                                      rotate_left
                                      · simp only [Act.put, List.setIfInBounds_toArray, List.set_cons_zero, List.set_cons_succ, i64_w, i32_w]
                                        rfl
                                      refine pure_ (i := 10) (N := some 64) (v := undef) (a' := ?_) #[true, true, true, true, true, true, true, true, true, true, true, false, false, false, false] rfl rfl (any_of HT_.out (by kernel_rfl)) (fun _ _ _ h => h) (Or.inr ⟨by rfl, rfl⟩) ?_ ?_
                                      rotate_left
                                      · simp only [Act.put, List.setIfInBounds_toArray, List.set_cons_zero, List.set_cons_succ, i64_w, i32_w]
                                        rfl
                                      refine pure_ (i := 11) (N := some 65) (v := undef) (a' := ?_) #[true, true, true, true, true, true, true, true, true, true, true, true, false, false, false] rfl rfl (any_of HT_.out (by kernel_rfl)) (fun _ _ _ h => h) (Or.inr ⟨by rfl, rfl⟩) ?_ ?_
                                      rotate_left
                                      · simp only [Act.put, List.setIfInBounds_toArray, List.set_cons_zero, List.set_cons_succ, i64_w, i32_w]
                                        rfl
                                      refine pure_ (i := 12) (N := some 66) (v := undef) (a' := ?_) #[true, true, true, true, true, true, true, true, true, true, true, true, true, false, false] rfl rfl (any_of HT_.out (by kernel_rfl)) (fun _ _ _ h => h) (Or.inr ⟨by rfl, rfl⟩) ?_ ?_
                                      rotate_left
                                      · simp only [Act.put, List.setIfInBounds_toArray, List.set_cons_zero, List.set_cons_succ, i64_w, i32_w]
                                        rfl
                                      refine pure_ (i := 13) (N := some 67) (v := ?_) (a' := ?_) #[true, true, true, true, true, true, true, true, true, true, true, true, true, true, false] rfl rfl (any_of HT_.out (by kernel_rfl)) (fun _ _ _ h => h) (Or.inl ⟨by rfl, ?_⟩) ?_ ?_
                                      rotate_left
                                      · intro w'
                                        go_simp
                                        with_reducible rfl
                                      rotate_left
                                      · simp only [Act.put, List.setIfInBounds_toArray, List.set_cons_zero, List.set_cons_succ, i64_w, i32_w]
                                        rfl
                                      refine pure_ (i := 14) (N := some 53) (v := ?_) (a' := ?_) #[true, true, true, true, true, true, true, true, true, true, true, true, true, true, true] rfl rfl (any_of HT_.out (by kernel_rfl)) (fun _ _ _ h => h) (Or.inl ⟨by rfl, ?_⟩) ?_ ?_
                                      rotate_left
                                      · intro w'
                                        go_simp
                                        with_reducible rfl
                                      rotate_left
                                      · simp only [Act.put, List.setIfInBounds_toArray, List.set_cons_zero, List.set_cons_succ, i64_w, i32_w]
                                        rfl
                                      refine done_ (done_of HT_.out (by kernel_rfl)) ?_
                                      try go_wp2
                                      go_roundg k2
                                      case measure => have := HK1.out; have := HK2.out; omega
                                      case rel => exact ⟨(x8_2), (wrap64 (x29_2 + 1)), (by first | rfl | (simp; done) | (simp [*]; done)), H', ⟨by have := HK1.out; have := HK2.out; omega⟩, ⟨by (with_reducible repeat (first | apply Kd.R_alloc | apply Kd.R_drewN | apply Kd.R_drew)); exact HO_8.out⟩, ⟨by (with_reducible repeat (first | apply Kd.R_alloc | apply Kd.R_drewN | apply Kd.R_drew)); exact HO_27.out⟩, ⟨by (with_reducible repeat (first | refine blk_drewN ?_ _ | refine blk_drew ?_ | refine blk_alloc ?_ _)); exact BK111.out⟩, ⟨by repeat (first | (with_reducible first | exact HB.out | apply below_alloc | apply pw_below_drewN | apply below_drew1 | refine below_set ?_ GE111.out) | exact HB.out)⟩⟩
                                  · replace c50 := Bool.eq_false_iff.mpr c50
                                    subst c50
                                    have H1 : (pat_matched.l1 k2 a1 x8_2 l0 (l0.length : Int) x19_1 x5_1 (x5_1.length : Int) (wrap64 (x29_2 + 1)) ((rd_T199 l0 x19_1).f0) ((rd_T199 l0 x19_1).f1) ((rd_T199 l0 x19_1).f2) ((rd_T199 l0 x19_1).f3) ((rd_T199 l0 x19_1).f4) ((rd_T199 l0 x19_1).f5)) = some r := by rw [if_neg (show ¬ (false = true) by decide)] at H; exact H
                                    clear H
                                    have H := H1
                                    clear H1
                                    have H' := Aside0.mk H
                                    clear H
                                    have p115 : 0 ≤ (x29_2 : Int) := of_decide_eq_true (by first | (with_reducible assumption) | assumption)
                                    have q115 : x29_2 < (x5_1.length : Int) := of_decide_eq_true (by first | (with_reducible assumption) | assumption)
                                    obtain ⟨ad115, e115, hx115_0⟩ := Kd.at_bool (Kd.R_reads' HO_27.out).2.2 x29_2 p115 q115
                                    (try rw [← Nbq49.out] at hx115_0)
                                    cases e115
                                    replace p115 := eq_true p115
                                    replace q115 := eq_true q115
                                    have hcz69_0 : wr.cell? ⟨gb111, 0, none⟩ = some (.int .u8 ((rd_T199 l0 x19_1).f0)) := (blk_cell BK111.out 0).trans rfl
                                    have hcz69_1 : wr.cell? ⟨gb111, 1, none⟩ = some (.int .u8 ((rd_T199 l0 x19_1).f1)) := (blk_cell BK111.out 1).trans rfl
                                    have hcz69_2 : wr.cell? ⟨gb111, 2, none⟩ = some (.string ((rd_T199 l0 x19_1).f2)) := (blk_cell BK111.out 2).trans rfl
                                    have hcz69_3 : wr.cell? ⟨gb111, 3, none⟩ = some (.slice A110_3 ((rd_T199 l0 x19_1).f3).length c110_3) := (blk_cell BK111.out 3).trans rfl
                                    have hcz69_4 : wr.cell? ⟨gb111, 4, none⟩ = some (.bool ((rd_T199 l0 x19_1).f4)) := (blk_cell BK111.out 4).trans rfl
                                    have hcz69_5 : wr.cell? ⟨gb111, 5, none⟩ = some (.bool ((rd_T199 l0 x19_1).f5)) := (blk_cell BK111.out 5).trans rfl
                                    have hfz69_0 := blk_frozen BK111.out 0
                                    have hfz69_1 := blk_frozen BK111.out 1
                                    have hfz69_2 := blk_frozen BK111.out 2
                                    have hfz69_3 := blk_frozen BK111.out 3
                                    have hfz69_4 := blk_frozen BK111.out 4
                                    have hfz69_5 := blk_frozen BK111.out 5
                                    try go_wp2
                                    have n0_ := Aside0.mk (Kd.R_drew HO_8.out)
                                    have n1_ := Aside0.mk (Kd.R_drew HO_27.out)
                                    have n2_ := Aside0.mk (blk_drew BK111.out)
                                    have n3_ := Aside0.mk (below_drew1 HB.out)
                                    clear HO_8
                                    clear HO_27
                                    clear BK111
                                    clear HB
                                    have HO_8 := n0_
                                    have HO_27 := n1_
                                    have BK111 := n2_
                                    have HB := n3_
                                    clear n0_ n1_ n2_ n3_
                                    refine start_ (n := 15) (S := fun w' => True) (ds := []) #[false, false, false, false, false, false, false, false, false, false, false, false, false, false, false] (by kernel_rfl) rfl rfl trivial (fun hHeld => ?_); refine with_tabW pat_matched.tab12 pat_matched.bits12 (fun HT_ HW_ => ?_)
                                    generalize wr.drew = w70 at HO_8 HO_27 BK111 HB hHeld ⊢
                                    refine pure_ (i := 0) (N := some 54) (v := ?_) (a' := ?_) #[true, false, false, false, false, false, false, false, false, false, false, false, false, false, false] rfl rfl (any_of HT_.out (by kernel_rfl)) (fun _ _ _ h => h) (Or.inl ⟨by rfl, ?_⟩) ?_ ?_
                                    rotate_left
                                    · intro w'
                                      go_simp
                                      with_reducible rfl
                                    rotate_left
                                    · simp only [Act.put, List.setIfInBounds_toArray, List.set_cons_zero, List.set_cons_succ, i64_w, i32_w]
                                      rfl
                                    refine pure_ (i := 1) (N := some 55) (v := ?_) (a' := ?_) #[true, true, false, false, false, false, false, false, false, false, false, false, false, false, false] rfl rfl (any_of HT_.out (by kernel_rfl)) (fun _ _ _ h => h) (Or.inl ⟨by rfl, ?_⟩) ?_ ?_
                                    rotate_left
                                    · intro w'
                                      go_simp
                                      with_reducible rfl
                                    rotate_left
                                    · simp only [Act.put, List.setIfInBounds_toArray, List.set_cons_zero, List.set_cons_succ, i64_w, i32_w]
                                      rfl
                                    refine pure_ (i := 2) (N := some 56) (v := undef) (a' := ?_) #[true, true, true, false, false, false, false, false, false, false, false, false, false, false, false] rfl rfl (any_of HT_.out (by kernel_rfl)) (fun _ _ _ h => h) (Or.inr ⟨by rfl, rfl⟩) ?_ ?_
                                    rotate_left
                                    · simp only [Act.put, List.setIfInBounds_toArray, List.set_cons_zero, List.set_cons_succ, i64_w, i32_w]
                                      rfl
                                    refine pure_ (i := 3) (N := some 57) (v := undef) (a' := ?_) #[true, true, true, true, false, false, false, false, false, false, false, false, false, false, false] rfl rfl (any_of HT_.out (by kernel_rfl)) (fun _ _ _ h => h) (Or.inr ⟨by rfl, rfl⟩) ?_ ?_
                                    rotate_left
                                    · simp only [Act.put, List.setIfInBounds_toArray, List.set_cons_zero, List.set_cons_succ, i64_w, i32_w]
                                      rfl
                                    refine pure_ (i := 4) (N := some 58) (v := undef) (a' := ?_) #[true, true, true, true, true, false, false, false, false, false, false, false, false, false, false] rfl rfl (any_of HT_.out (by kernel_rfl)) (fun _ _ _ h => h) (Or.inr ⟨by rfl, rfl⟩) ?_ ?_
                                    rotate_left
                                    · simp only [Act.put, List.setIfInBounds_toArray, List.set_cons_zero, List.set_cons_succ, i64_w, i32_w]
                                      rfl
                                    refine pure_ (i := 5) (N := some 59) (v := undef) (a' := ?_) #[true, true, true, true, true, true, false, false, false, false, false, false, false, false, false] rfl rfl (any_of HT_.out (by kernel_rfl)) (fun _ _ _ h => h) (Or.inr ⟨by rfl, rfl⟩) ?_ ?_
                                    rotate_left
                                    · simp only [Act.put, List.setIfInBounds_toArray, List.set_cons_zero, List.set_cons_succ, i64_w, i32_w]
                                      rfl
                                    refine pure_ (i := 6) (N := some 60) (v := ?_) (a' := ?_) #[true, true, true, true, true, true, true, false, false, false, false, false, false, false, false] rfl rfl (any_of HT_.out (by kernel_rfl)) (fun _ _ _ h => h) (Or.inl ⟨by rfl, ?_⟩) ?_ ?_
                                    rotate_left
                                    · intro w'
                                      go_simp
                                      with_reducible rfl
                                    rotate_left
                                    · simp only [Act.put, List.setIfInBounds_toArray, List.set_cons_zero, List.set_cons_succ, i64_w, i32_w]
                                      rfl
                                    refine pure_ (i := 7) (N := some 61) (v := ?_) (a' := ?_) #[true, true, true, true, true, true, true, true, false, false, false, false, false, false, false] rfl rfl (any_of HT_.out (by kernel_rfl)) (fun _ _ _ h => h) (Or.inl ⟨by rfl, ?_⟩) ?_ ?_
                                    rotate_left
                                    · intro w'
                                      go_simp
                                      with_reducible rfl
                                    rotate_left
                                    · simp only [Act.put, List.setIfInBounds_toArray, List.set_cons_zero, List.set_cons_succ, i64_w, i32_w]
                                      rfl
                                    refine pure_ (i := 8) (N := some 62) (v := undef) (a' := ?_) #[true, true, true, true, true, true, true, true, true, false, false, false, false, false, false] rfl rfl (any_of HT_.out (by kernel_rfl)) (fun _ _ _ h => h) (Or.inr ⟨by rfl, rfl⟩) ?_ ?_
                                    rotate_left
                                    · simp only [Act.put, List.setIfInBounds_toArray, List.set_cons_zero, List.set_cons_succ, i64_w, i32_w]
                                      rfl
                                    refine pure_ (i := 9) (N := some 63) (v := undef) (a' := ?_) #[true, true, true, true, true, true, true, true, true, true, false, false, false, false, false] rfl rfl (any_of HT_.out (by kernel_rfl)) (fun _ _ _ h => h) (Or.inr ⟨by rfl, rfl⟩) ?_ ?_
                                    rotate_left
                                    · simp only [Act.put, List.setIfInBounds_toArray, List.set_cons_zero, List.set_cons_succ, i64_w, i32_w]
                                      rfl
                                    refine pure_ (i := 10) (N := some 64) (v := undef) (a' := ?_) #[true, true, true, true, true, true, true, true, true, true, true, false, false, false, false] rfl rfl (any_of HT_.out (by kernel_rfl)) (fun _ _ _ h => h) (Or.inr ⟨by rfl, rfl⟩) ?_ ?_
                                    rotate_left
                                    · simp only [Act.put, List.setIfInBounds_toArray, List.set_cons_zero, List.set_cons_succ, i64_w, i32_w]
                                      rfl
                                    refine pure_ (i := 11) (N := some 65) (v := undef) (a' := ?_) #[true, true, true, true, true, true, true, true, true, true, true, true, false, false, false] rfl rfl (any_of HT_.out (by kernel_rfl)) (fun _ _ _ h => h) (Or.inr ⟨by rfl, rfl⟩) ?_ ?_
                                    rotate_left
                                    · simp only [Act.put, List.setIfInBounds_toArray, List.set_cons_zero, List.set_cons_succ, i64_w, i32_w]
                                      rfl
                                    refine pure_ (i := 12) (N := some 66) (v := undef) (a' := ?_) #[true, true, true, true, true, true, true, true, true, true, true, true, true, false, false] rfl rfl (any_of HT_.out (by kernel_rfl)) (fun _ _ _ h => h) (Or.inr ⟨by rfl, rfl⟩) ?_ ?_
                                    rotate_left
                                    · simp only [Act.put, List.setIfInBounds_toArray, List.set_cons_zero, List.set_cons_succ, i64_w, i32_w]
                                      rfl
                                    refine pure_ (i := 13) (N := some 67) (v := ?_) (a' := ?_) #[true, true, true, true, true, true, true, true, true, true, true, true, true, true, false] rfl rfl (any_of HT_.out (by kernel_rfl)) (fun _ _ _ h => h) (Or.inl ⟨by rfl, ?_⟩) ?_ ?_
                                    rotate_left
                                    · intro w'
                                      go_simp
                                      with_reducible rfl
                                    rotate_left
                                    · simp only [Act.put, List.setIfInBounds_toArray, List.set_cons_zero, List.set_cons_succ, i64_w, i32_w]
                                      rfl
                                    refine pure_ (i := 14) (N := some 53) (v := ?_) (a' := ?_) #[true, true, true, true, true, true, true, true, true, true, true, true, true, true, true] rfl rfl (any_of HT_.out (by kernel_rfl)) (fun _ _ _ h => h) (Or.inl ⟨by rfl, ?_⟩) ?_ ?_
                                    rotate_left
                                    · intro w'
                                      go_simp
                                      with_reducible rfl
                                    rotate_left
                                    · simp only [Act.put, List.setIfInBounds_toArray, List.set_cons_zero, List.set_cons_succ, i64_w, i32_w]
                                      rfl
                                    refine done_ (done_of HT_.out (by kernel_rfl)) ?_
                                    try go_wp2
                                    go_roundg k2
                                    case measure => have := HK1.out; have := HK2.out; omega
                                    case rel => exact ⟨(x8_2), (wrap64 (x29_2 + 1)), (by first | rfl | (simp; done) | (simp [*]; done)), H', ⟨by have := HK1.out; have := HK2.out; omega⟩, ⟨by (with_reducible repeat (first | apply Kd.R_alloc | apply Kd.R_drewN | apply Kd.R_drew)); exact HO_8.out⟩, ⟨by (with_reducible repeat (first | apply Kd.R_alloc | apply Kd.R_drewN | apply Kd.R_drew)); exact HO_27.out⟩, ⟨by (with_reducible repeat (first | refine blk_drewN ?_ _ | refine blk_drew ?_ | refine blk_alloc ?_ _)); exact BK111.out⟩, ⟨by repeat (first | (with_reducible first | exact HB.out | apply below_alloc | apply pw_below_drewN | apply below_drew1 | refine below_set ?_ GE111.out) | exact HB.out)⟩⟩
                              · rw [if_neg c25] at H
                                exact absurd H (by simp)
                            · rw [if_neg c24] at H
                              exact absurd H (by simp)
                          · rw [if_neg c23] at H
                            have c23b0 : decide (x29_2 < (x5_1.length : Int)) = false := decide_eq_false c23
                            clear c23
                            have H' := Aside0.mk H
                            clear H
                            go_wp2
                            go_roundg k2
                            case measure => have := HK1.out; have := HK2.out; omega
                            case rel => exact ⟨(x8_2), (wrap64 (x19_1 + 1)), (by first | rfl | (simp; done) | (simp [*]; done)), H', ⟨by have := HK1.out; have := HK2.out; omega⟩, ⟨by (with_reducible repeat (first | apply Kd.R_alloc | apply Kd.R_drewN | apply Kd.R_drew)); exact Kd.R_mono HO_8.out (fun _ hk => trivial)⟩, ⟨by repeat (first | (with_reducible first | exact HB.out | apply below_alloc | apply pw_below_drewN | apply below_drew1 | refine below_set ?_ GE111.out) | exact HB.out)⟩⟩
                    · rw [if_neg c17] at H
                      exact absurd H (by simp)
                  · rw [if_neg c16] at H
                    exact absurd H (by simp)
                · rw [if_neg c14] at H
                  exact absurd H (by simp)
              · rw [if_neg c13] at H
                exact absurd H (by simp)
            · rw [if_neg c12] at H
              have c12b0 : decide (x19_1 < (l0.length : Int)) = false := decide_eq_false c12
              clear c12
              by_cases c71 : 0 ≤ (a1.size : Int)
              · rw [if_pos c71] at H
                have c71b0 : decide (0 ≤ (a1.size : Int)) = true := decide_eq_true c71
                have c71b1 : decide (0 ≤ a1.size) = true := decide_eq_true (by omega)
                clear c71
                by_cases c72 : (a1.size : Int) < (x5_1.length : Int)
                · rw [if_pos c72] at H
                  have c72b0 : decide ((a1.size : Int) < (x5_1.length : Int)) = true := decide_eq_true c72
                  have c72b1 : decide (a1.size < x5_1.length) = true := decide_eq_true (Int.ofNat_lt.mp c72)
                  clear c72
                  obtain rfl := Option.some.inj H
                  obtain ⟨Ao73, co73, eo73⟩ := Kd.R_slice HO_5.out
                  subst eo73
                  have p109 : 0 ≤ ((a1.size : Int) : Int) := of_decide_eq_true (by first | (with_reducible assumption) | assumption)
                  have q109 : (a1.size : Int) < (x5_1.length : Int) := of_decide_eq_true (by first | (with_reducible assumption) | assumption)
                  obtain ⟨ad109, e109, hx109_0⟩ := Kd.at_bool (Kd.R_reads' HO_5.out).2.2 (a1.size : Int) p109 q109
                  cases e109
                  try rw [Int.toNat_natCast] at hx109_0
                  replace p109 := eq_true p109
                  replace q109 := eq_true q109
                  go_wp2
                  go_ret
                  exact ⟨by first | rfl | (simp [errW_none, errW_some] <;> rfl) | (simp only [← hji3]; first | rfl | (simp [errW_none, errW_some] <;> rfl)) | (simp [*, errW_none, errW_some] <;> rfl), by repeat (first | (with_reducible first | exact HB.out | apply below_alloc | apply pw_below_drewN | apply below_drew1) | exact HB.out)⟩
                · rw [if_neg c72] at H
                  exact absurd H (by simp)
              · rw [if_neg c71] at H
                exact absurd H (by simp)
      · rw [if_neg c6] at H
        exact absurd H (by simp)
    · rw [if_neg c5] at H
      exact absurd H (by simp)
  · rw [if_neg c4] at H
    exact absurd H (by simp)

end Go.Proofs.Ytfdjbjinomfgiaa.GrTree
