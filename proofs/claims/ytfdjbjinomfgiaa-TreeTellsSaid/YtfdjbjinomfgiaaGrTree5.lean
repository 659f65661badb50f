-- PRINTED by print.py (a twelfth state) out of the translation. Not trusted: Lean checks it.
import Derived.Test.YtfdjbjinomfgiaaGrTree0
import Derived.Test.YtfdjbjinomfgiaaGrTree4
namespace Go.Proofs.Ytfdjbjinomfgiaa.GrTree
open Go.RowKit Go.Proofs.YtfdjbjinomfgiaaW.PrintWords Go.Proofs.YtfdjbjinomfgiaaW.PrintLast Go.Proofs.YtfdjbjinomfgiaaW.PrintMore
attribute [local go_sem] max2_int min2_int max_two min_two max_three min_three max_four min_four   -- for this text's walks alone
set_option linter.unusedVariables false
set_option linter.unusedSimpArgs false

/-! ### pat_set: function 174 -/
mutual
def pat_set.j0 : Nat → Int → Int → Bool → ByteArray → List Bool → Int → Int → ByteArray → Bool → Bool → Option (Int × Int × ByteArray × List Bool × Bool × Bool × Int)
  | 0, _, _, _, _, _, _, _, _, _, _ => none
  | k + 1, x1, x6, x29, x125000, x125001, x127000, x127001, x127002, x127004, x127005 => if x29 = true then (pat_set.j1 k x1 (wrap64 (x6 + 1)) x125000 x125001 x127000 x127001 x127002 true x127005) else (pat_set.j1 k x1 x6 x125000 x125001 x127000 x127001 x127002 x127004 x127005)
def pat_set.j1 : Nat → Int → Int → ByteArray → List Bool → Int → Int → ByteArray → Bool → Bool → Option (Int × Int × ByteArray × List Bool × Bool × Bool × Int)
  | 0, _, _, _, _, _, _, _, _, _ => none
  | k + 1, x1, x6, x125000, x125001, x127000, x127001, x127002, x127004, x127005 => pat_set.l0 k x1 x6 x6 x125000 x125001 x127000 x127001 x127002 ([] : List Bool) x127004 x127005
def pat_set.l0 : Nat → Int → Int → Int → ByteArray → List Bool → Int → Int → ByteArray → List Bool → Bool → Bool → Option (Int × Int × ByteArray × List Bool × Bool × Bool × Int)
  | 0, _, _, _, _, _, _, _, _, _, _, _ => none
  | k + 1, x1, x6, x8, x125000, x125001, x127000, x127001, x127002, x127003, x127004, x127005 => if x6 < (x125000.size : Int) then (if x6 > x8 then (if 0 ≤ x6 then (if (bt x125000 x6) = 93 then ((pat_live.f x125000 x125001 x6).bind fun t128 => (pat_set.j3 k x1 x6 x8 t128 x125000 x125001 x127000 x127001 x127002 x127003 x127004 x127005)) else (pat_set.j3 k x1 x6 x8 false x125000 x125001 x127000 x127001 x127002 x127003 x127004 x127005)) else (none)) else (pat_set.j3 k x1 x6 x8 false x125000 x125001 x127000 x127001 x127002 x127003 x127004 x127005)) else (some (0, 0, (⟨#[]⟩ : ByteArray), ([] : List Bool), false, false, 0))
def pat_set.j3 : Nat → Int → Int → Int → Bool → ByteArray → List Bool → Int → Int → ByteArray → List Bool → Bool → Bool → Option (Int × Int × ByteArray × List Bool × Bool × Bool × Int)
  | 0, _, _, _, _, _, _, _, _, _, _, _, _ => none
  | k + 1, x1, x6, x8, x55, x125000, x125001, x127000, x127001, x127002, x127003, x127004, x127005 => if x55 = true then (if 0 ≤ x8 then (if x8 ≤ x6 then (if x6 ≤ (x125000.size : Int) then (pat_set.l1 k x1 x6 x8 x125000 x125001 x127000 x127001 (x125000.extract (x8 : Int).toNat (x6 : Int).toNat) x127003 x127004 x127005) else (none)) else (none)) else (none)) else (pat_set.l0 k x1 (wrap64 (x6 + 1)) x8 x125000 x125001 x127000 x127001 x127002 x127003 x127004 x127005)
def pat_set.l1 : Nat → Int → Int → Int → ByteArray → List Bool → Int → Int → ByteArray → List Bool → Bool → Bool → Option (Int × Int × ByteArray × List Bool × Bool × Bool × Int)
  | 0, _, _, _, _, _, _, _, _, _, _, _ => none
  | k + 1, x1, x6, x9, x125000, x125001, x127000, x127001, x127002, x127003, x127004, x127005 => if x9 < x6 then ((pat_live.f x125000 x125001 x9).bind fun t129 => (if x127003.length < 140737488355328 then (pat_set.l1 k x1 x6 (wrap64 (x9 + 1)) x125000 x125001 x127000 x127001 x127002 (x127003 ++ [t129]) x127004 x127005) else (none))) else (some (x127000, x127001, x127002, x127003, x127004, x127005, wrap64 ((wrap64 (x6 + 1)) - x1)))
end
def pat_set.f (k : Nat) (a0_0 : ByteArray) (l0_1 : List Bool) (a1 : Int) : Option (Int × Int × ByteArray × List Bool × Bool × Bool × Int) := if (wrap64 (a1 + 1)) < (a0_0.size : Int) then (if 0 ≤ (wrap64 (a1 + 1)) then (if (bt a0_0 (wrap64 (a1 + 1))) = 33 then ((pat_live.f a0_0 l0_1 (wrap64 (a1 + 1))).bind fun t127 => (pat_set.j0 k a1 (wrap64 (a1 + 1)) t127 a0_0 l0_1 91 0 (⟨#[]⟩ : ByteArray) false false)) else (pat_set.j0 k a1 (wrap64 (a1 + 1)) false a0_0 l0_1 91 0 (⟨#[]⟩ : ByteArray) false false)) else (none)) else (pat_set.j0 k a1 (wrap64 (a1 + 1)) false a0_0 l0_1 91 0 (⟨#[]⟩ : ByteArray) false false)
theorem pat_set.mono_l : ∀ k, (∀ y0 y1 y2 y3 y4 y5 y6 y7 y8 y9, LeO (pat_set.j0 k y0 y1 y2 y3 y4 y5 y6 y7 y8 y9) (pat_set.j0 (k + 1) y0 y1 y2 y3 y4 y5 y6 y7 y8 y9)) ∧ (∀ y0 y1 y2 y3 y4 y5 y6 y7 y8, LeO (pat_set.j1 k y0 y1 y2 y3 y4 y5 y6 y7 y8) (pat_set.j1 (k + 1) y0 y1 y2 y3 y4 y5 y6 y7 y8)) ∧ (∀ y0 y1 y2 y3 y4 y5 y6 y7 y8 y9 y10, LeO (pat_set.l0 k y0 y1 y2 y3 y4 y5 y6 y7 y8 y9 y10) (pat_set.l0 (k + 1) y0 y1 y2 y3 y4 y5 y6 y7 y8 y9 y10)) ∧ (∀ y0 y1 y2 y3 y4 y5 y6 y7 y8 y9 y10 y11, LeO (pat_set.j3 k y0 y1 y2 y3 y4 y5 y6 y7 y8 y9 y10 y11) (pat_set.j3 (k + 1) y0 y1 y2 y3 y4 y5 y6 y7 y8 y9 y10 y11)) ∧ (∀ y0 y1 y2 y3 y4 y5 y6 y7 y8 y9 y10, LeO (pat_set.l1 k y0 y1 y2 y3 y4 y5 y6 y7 y8 y9 y10) (pat_set.l1 (k + 1) y0 y1 y2 y3 y4 y5 y6 y7 y8 y9 y10))
  | 0 => ⟨fun _ _ _ _ _ _ _ _ _ _ r h => by simp [pat_set.j0] at h, fun _ _ _ _ _ _ _ _ _ r h => by simp [pat_set.j1] at h, fun _ _ _ _ _ _ _ _ _ _ _ r h => by simp [pat_set.l0] at h, fun _ _ _ _ _ _ _ _ _ _ _ _ r h => by simp [pat_set.j3] at h, fun _ _ _ _ _ _ _ _ _ _ _ r h => by simp [pat_set.l1] at h⟩
  | k + 1 => by
    obtain ⟨ih0, ih1, ih2, ih3, ih4⟩ := pat_set.mono_l k
    refine ⟨?_, ?_, ?_, ?_, ?_⟩
    · intro y0 y1 y2 y3 y4 y5 y6 y7 y8 y9
      unfold pat_set.j0
      repeat' first
      | (with_reducible exact ih0 _ _ _ _ _ _ _ _ _ _)
      | (with_reducible exact ih1 _ _ _ _ _ _ _ _ _)
      | (with_reducible exact ih2 _ _ _ _ _ _ _ _ _ _ _)
      | (with_reducible exact ih3 _ _ _ _ _ _ _ _ _ _ _ _)
      | (with_reducible exact ih4 _ _ _ _ _ _ _ _ _ _ _)
      | (with_reducible exact LeO.refl _)
      | (with_reducible exact LeO.none _)
      | (with_reducible refine LeO.ite ?_ ?_)
      | (with_reducible refine LeO.bind ?_ (fun _ => ?_))
      | exact ih0 _ _ _ _ _ _ _ _ _ _
      | exact ih1 _ _ _ _ _ _ _ _ _
      | exact ih2 _ _ _ _ _ _ _ _ _ _ _
      | exact ih3 _ _ _ _ _ _ _ _ _ _ _ _
      | exact ih4 _ _ _ _ _ _ _ _ _ _ _
      | exact LeO.none _
      | refine LeO.ite ?_ ?_
      | refine LeO.bind ?_ (fun _ => ?_)
    · intro y0 y1 y2 y3 y4 y5 y6 y7 y8
      unfold pat_set.j1
      repeat' first
      | (with_reducible exact ih0 _ _ _ _ _ _ _ _ _ _)
      | (with_reducible exact ih1 _ _ _ _ _ _ _ _ _)
      | (with_reducible exact ih2 _ _ _ _ _ _ _ _ _ _ _)
      | (with_reducible exact ih3 _ _ _ _ _ _ _ _ _ _ _ _)
      | (with_reducible exact ih4 _ _ _ _ _ _ _ _ _ _ _)
      | (with_reducible exact LeO.refl _)
      | (with_reducible exact LeO.none _)
      | (with_reducible refine LeO.ite ?_ ?_)
      | (with_reducible refine LeO.bind ?_ (fun _ => ?_))
      | exact ih0 _ _ _ _ _ _ _ _ _ _
      | exact ih1 _ _ _ _ _ _ _ _ _
      | exact ih2 _ _ _ _ _ _ _ _ _ _ _
      | exact ih3 _ _ _ _ _ _ _ _ _ _ _ _
      | exact ih4 _ _ _ _ _ _ _ _ _ _ _
      | exact LeO.none _
      | refine LeO.ite ?_ ?_
      | refine LeO.bind ?_ (fun _ => ?_)
    · intro y0 y1 y2 y3 y4 y5 y6 y7 y8 y9 y10
      unfold pat_set.l0
      repeat' first
      | (with_reducible exact ih0 _ _ _ _ _ _ _ _ _ _)
      | (with_reducible exact ih1 _ _ _ _ _ _ _ _ _)
      | (with_reducible exact ih2 _ _ _ _ _ _ _ _ _ _ _)
      | (with_reducible exact ih3 _ _ _ _ _ _ _ _ _ _ _ _)
      | (with_reducible exact ih4 _ _ _ _ _ _ _ _ _ _ _)
      | (with_reducible exact LeO.refl _)
      | (with_reducible exact LeO.none _)
      | (with_reducible refine LeO.ite ?_ ?_)
      | (with_reducible refine LeO.bind ?_ (fun _ => ?_))
      | exact ih0 _ _ _ _ _ _ _ _ _ _
      | exact ih1 _ _ _ _ _ _ _ _ _
      | exact ih2 _ _ _ _ _ _ _ _ _ _ _
      | exact ih3 _ _ _ _ _ _ _ _ _ _ _ _
      | exact ih4 _ _ _ _ _ _ _ _ _ _ _
      | exact LeO.none _
      | refine LeO.ite ?_ ?_
      | refine LeO.bind ?_ (fun _ => ?_)
    · intro y0 y1 y2 y3 y4 y5 y6 y7 y8 y9 y10 y11
      unfold pat_set.j3
      repeat' first
      | (with_reducible exact ih0 _ _ _ _ _ _ _ _ _ _)
      | (with_reducible exact ih1 _ _ _ _ _ _ _ _ _)
      | (with_reducible exact ih2 _ _ _ _ _ _ _ _ _ _ _)
      | (with_reducible exact ih3 _ _ _ _ _ _ _ _ _ _ _ _)
      | (with_reducible exact ih4 _ _ _ _ _ _ _ _ _ _ _)
      | (with_reducible exact LeO.refl _)
      | (with_reducible exact LeO.none _)
      | (with_reducible refine LeO.ite ?_ ?_)
      | (with_reducible refine LeO.bind ?_ (fun _ => ?_))
      | exact ih0 _ _ _ _ _ _ _ _ _ _
      | exact ih1 _ _ _ _ _ _ _ _ _
      | exact ih2 _ _ _ _ _ _ _ _ _ _ _
      | exact ih3 _ _ _ _ _ _ _ _ _ _ _ _
      | exact ih4 _ _ _ _ _ _ _ _ _ _ _
      | exact LeO.none _
      | refine LeO.ite ?_ ?_
      | refine LeO.bind ?_ (fun _ => ?_)
    · intro y0 y1 y2 y3 y4 y5 y6 y7 y8 y9 y10
      unfold pat_set.l1
      repeat' first
      | (with_reducible exact ih0 _ _ _ _ _ _ _ _ _ _)
      | (with_reducible exact ih1 _ _ _ _ _ _ _ _ _)
      | (with_reducible exact ih2 _ _ _ _ _ _ _ _ _ _ _)
      | (with_reducible exact ih3 _ _ _ _ _ _ _ _ _ _ _ _)
      | (with_reducible exact ih4 _ _ _ _ _ _ _ _ _ _ _)
      | (with_reducible exact LeO.refl _)
      | (with_reducible exact LeO.none _)
      | (with_reducible refine LeO.ite ?_ ?_)
      | (with_reducible refine LeO.bind ?_ (fun _ => ?_))
      | exact ih0 _ _ _ _ _ _ _ _ _ _
      | exact ih1 _ _ _ _ _ _ _ _ _
      | exact ih2 _ _ _ _ _ _ _ _ _ _ _
      | exact ih3 _ _ _ _ _ _ _ _ _ _ _ _
      | exact ih4 _ _ _ _ _ _ _ _ _ _ _
      | exact LeO.none _
      | refine LeO.ite ?_ ?_
      | refine LeO.bind ?_ (fun _ => ?_)
theorem pat_set.mono : ∀ a0 a1 a2 k, LeO (pat_set.f k a0 a1 a2) (pat_set.f (k + 1) a0 a1 a2) := by
  intro a0 a1 a2 k
  obtain ⟨ih0, ih1, ih2, ih3, ih4⟩ := pat_set.mono_l k
  unfold pat_set.f
  repeat' first
      | (with_reducible exact ih0 _ _ _ _ _ _ _ _ _ _)
      | (with_reducible exact ih1 _ _ _ _ _ _ _ _ _)
      | (with_reducible exact ih2 _ _ _ _ _ _ _ _ _ _ _)
      | (with_reducible exact ih3 _ _ _ _ _ _ _ _ _ _ _ _)
      | (with_reducible exact ih4 _ _ _ _ _ _ _ _ _ _ _)
      | (with_reducible exact LeO.refl _)
      | (with_reducible exact LeO.none _)
      | (with_reducible refine LeO.ite ?_ ?_)
      | (with_reducible refine LeO.bind ?_ (fun _ => ?_))
      | exact ih0 _ _ _ _ _ _ _ _ _ _
      | exact ih1 _ _ _ _ _ _ _ _ _
      | exact ih2 _ _ _ _ _ _ _ _ _ _ _
      | exact ih3 _ _ _ _ _ _ _ _ _ _ _ _
      | exact ih4 _ _ _ _ _ _ _ _ _ _ _
      | exact LeO.none _
      | refine LeO.ite ?_ ?_
      | refine LeO.bind ?_ (fun _ => ?_)
def pat_set.T14 : Bool × List (List Nat × List Nat) := (true, [([], []), ([0], [0]), ([], []), ([], []), ([2, 3], [2, 3]), ([4], [4]), ([1, 5, 4], [1, 5]), ([0, 1, 2, 3, 4, 5, 6], []), ([7, 6, 6, 0, 1, 2, 3, 4, 5, 6], [6, 7])])
def pat_set.B14 : List Nat := [0, 1, 0, 0, 12, 28, 63, 127, 255]
theorem pat_set.tab14 : rtab .any (opsOf Try.f174 14) = pat_set.T14 := by kernel_rfl
theorem pat_set.bits14 : waitsOk pat_set.T14.2 pat_set.B14 = true := by kernel_rfl
set_option maxHeartbeats 8000000 in
set_option maxRecDepth 100000 in
theorem pat_set.calls (k : Nat) (a0_0 : ByteArray) (A0_1 : Option Addr) (c0_1 : Nat) (l0_1 : List Bool) (a1 : Int) (r1 : Int) (r2 : Int) (r3 : ByteArray) (r4 : List Bool) (r5 : Bool) (r6 : Bool) (r7 : Int) (w : World) (hr0_1 : Kd.C Kd.bool w A0_1 l0_1.length l0_1) (hc0_1 : l0_1.length ≤ c0_1) (h : pat_set.f k a0_0 l0_1 a1 = some (r1, r2, r3, r4, r5, r6, r7)) :
    Calls Try.prog 174 #[.agg #[.string a0_0, .slice A0_1 l0_1.length c0_1], .int .i64 a1] w fun e w' => ∃ v3_ : Value, e = .returned (.tuple #[.agg #[.int .u8 r1, .int .u8 r2, .string r3, v3_, .bool r5, .bool r6], .int .i64 r7]) ∧ Kd.R Kd.bool 4 w' w.heap.size (fun _ => True) v3_ r4 ∧ Below w.heap.size w w' := by
  have hu60 := Try.underlying60
  have hu199 := Try.underlying199
  have HR0_1 := Aside0.mk hr0_1
  have HC0_1 := Aside0.mk hc0_1
  clear hr0_1 hc0_1
  have HB := Aside0.mk (Below.refl w.heap.size w)
  have H : (if (wrap64 (a1 + 1)) < (a0_0.size : Int) then (if 0 ≤ (wrap64 (a1 + 1)) then (if (bt a0_0 (wrap64 (a1 + 1))) = 33 then ((pat_live.f a0_0 l0_1 (wrap64 (a1 + 1))).bind fun t127 => (pat_set.j0 k a1 (wrap64 (a1 + 1)) t127 a0_0 l0_1 91 0 (⟨#[]⟩ : ByteArray) false false)) else (pat_set.j0 k a1 (wrap64 (a1 + 1)) false a0_0 l0_1 91 0 (⟨#[]⟩ : ByteArray) false false)) else (none)) else (pat_set.j0 k a1 (wrap64 (a1 + 1)) false a0_0 l0_1 91 0 (⟨#[]⟩ : ByteArray) false false)) = some (r1, r2, r3, r4, r5, r6, r7) := h
  clear h
  have HC3 := Aside0.mk H
  clear H
  go_enter Try.func174, Try.ntmps174
  go_upto_region 3 with (first | ((with_reducible refine gate_dst (N := 2) rfl ?_); refine box_event ?hg (N := 2) ?hd (cs := #[.string a0_0, .slice A0_1 l0_1.length c0_1]) (t := 60) ?hr ?_; (case hd => rfl); (case hg => rfl); (case hr => first | (go_simp; done) | (go_simp; rfl)); intro gb124 hg w4 hbox hb; have n0_ := Aside0.mk (below_step (by repeat (first | (with_reducible first | exact HB.out | apply below_alloc | apply pw_below_drewN | apply below_drew1) | exact HB.out)) hb); have n1_ := Aside0.mk (hbox); have n2_ := Aside0.mk ((by rw [hg]; exact (below_size (by repeat (first | (with_reducible first | exact HB.out | apply below_alloc | apply pw_below_drewN | apply below_drew1) | exact HB.out))) : w.heap.size ≤ gb124)); have n3_ := Aside0.mk ((by rw [hg]; exact (below_size (by repeat (first | (with_reducible first | exact HB.out | apply below_alloc | apply pw_below_drewN | apply below_drew1) | exact HB.out))) : w.heap.size ≤ gb124)); clear HB; have HB := n0_; have BK124 := n1_; have GW124 := n2_; have GE124 := n3_; clear n0_ n1_ n2_ n3_; clear hb hbox hg) | ((with_reducible refine gate_dst (N := 4) rfl ?_); refine box_event ?hg (N := 4) ?hd (cs := #[.int .u8 0, .int .u8 0, .string (⟨#[]⟩ : ByteArray), .slice none 0 0, .bool false, .bool false]) (t := 199) ?hr ?_; (case hd => rfl); (case hg => rfl); (case hr => first | (go_simp; done) | (go_simp; rfl)); intro gb125 hg w5 hbox hb; have n0_ := Aside0.mk (blk_below (g := gb124) (o := .cells #[.string a0_0, .slice A0_1 l0_1.length c0_1] 60 (0, 0)) (by (with_reducible repeat (first | refine blk_drewN ?_ _ | refine blk_drew ?_ | refine blk_alloc ?_ _)); exact BK124.out) hb); have n1_ := Aside0.mk (below_step (by repeat (first | (with_reducible first | exact HB.out | apply below_alloc | apply pw_below_drewN | apply below_drew1 | refine below_set ?_ GE124.out) | exact HB.out)) hb); have n2_ := Aside0.mk (hbox); have n3_ := Aside0.mk ((by rw [hg]; exact (below_size (by repeat (first | (with_reducible first | exact HB.out | apply below_alloc | apply pw_below_drewN | apply below_drew1 | refine below_set ?_ GE124.out) | exact HB.out))) : w.heap.size ≤ gb125)); have n4_ := Aside0.mk ((by rw [hg]; exact (below_size (by repeat (first | (with_reducible first | exact HB.out | apply below_alloc | apply pw_below_drewN | apply below_drew1 | refine below_set ?_ GE124.out) | exact HB.out))) : w.heap.size ≤ gb125)); have n5_ := Aside0.mk ((by rw [hg]; exact Nat.ne_of_lt (blk_lt (g := gb124) (o := .cells #[.string a0_0, .slice A0_1 l0_1.length c0_1] 60 (0, 0)) (by (with_reducible repeat (first | refine blk_drewN ?_ _ | refine blk_drew ?_ | refine blk_alloc ?_ _)); exact BK124.out)) : gb124 ≠ gb125)); have n6_ := Aside0.mk ((by rw [hg]; exact Nat.ne_of_gt (blk_lt (g := gb124) (o := .cells #[.string a0_0, .slice A0_1 l0_1.length c0_1] 60 (0, 0)) (by (with_reducible repeat (first | refine blk_drewN ?_ _ | refine blk_drew ?_ | refine blk_alloc ?_ _)); exact BK124.out)) : gb125 ≠ gb124)); clear BK124; clear HB; have BK124 := n0_; have HB := n1_; have BK125 := n2_; have GW125 := n3_; have GE125 := n4_; have NB124_125 := n5_; have NB125_124 := n6_; clear n0_ n1_ n2_ n3_ n4_ n5_ n6_; clear hb hbox hg) | ((with_reducible refine gate_dst (N := 7) rfl ?_); refine box_event ?hg (N := 7) ?hd (cs := #[.int .u8 0, .int .u8 0, .string (⟨#[]⟩ : ByteArray), .slice none 0 0, .bool false, .bool false]) (t := 199) ?hr ?_; (case hd => rfl); (case hg => rfl); (case hr => first | (go_simp; done) | (go_simp; rfl)); intro gb126 hg w6 hbox hb; have n0_ := Aside0.mk (blk_below (g := gb124) (o := .cells #[.string a0_0, .slice A0_1 l0_1.length c0_1] 60 (0, 0)) (by (with_reducible repeat (first | refine blk_drewN ?_ _ | refine blk_drew ?_ | refine blk_alloc ?_ _)); exact BK124.out) hb); have n1_ := Aside0.mk (blk_below (g := gb125) (o := .cells #[.int .u8 0, .int .u8 0, .string (⟨#[]⟩ : ByteArray), .slice none 0 0, .bool false, .bool false] 199 (0, 0)) (by (with_reducible repeat (first | refine blk_drewN ?_ _ | refine blk_drew ?_ | refine blk_alloc ?_ _)); exact BK125.out) hb); have n2_ := Aside0.mk (below_step (by repeat (first | (with_reducible first | exact HB.out | apply below_alloc | apply pw_below_drewN | apply below_drew1 | refine below_set ?_ GE124.out | refine below_set ?_ GE125.out) | exact HB.out)) hb); have n3_ := Aside0.mk (hbox); have n4_ := Aside0.mk ((by rw [hg]; exact (below_size (by repeat (first | (with_reducible first | exact HB.out | apply below_alloc | apply pw_below_drewN | apply below_drew1 | refine below_set ?_ GE124.out | refine below_set ?_ GE125.out) | exact HB.out))) : w.heap.size ≤ gb126)); have n5_ := Aside0.mk ((by rw [hg]; exact (below_size (by repeat (first | (with_reducible first | exact HB.out | apply below_alloc | apply pw_below_drewN | apply below_drew1 | refine below_set ?_ GE124.out | refine below_set ?_ GE125.out) | exact HB.out))) : w.heap.size ≤ gb126)); have n6_ := Aside0.mk ((by rw [hg]; exact Nat.ne_of_lt (blk_lt (g := gb124) (o := .cells #[.string a0_0, .slice A0_1 l0_1.length c0_1] 60 (0, 0)) (by (with_reducible repeat (first | refine blk_drewN ?_ _ | refine blk_drew ?_ | refine blk_alloc ?_ _)); exact BK124.out)) : gb124 ≠ gb126)); have n7_ := Aside0.mk ((by rw [hg]; exact Nat.ne_of_gt (blk_lt (g := gb124) (o := .cells #[.string a0_0, .slice A0_1 l0_1.length c0_1] 60 (0, 0)) (by (with_reducible repeat (first | refine blk_drewN ?_ _ | refine blk_drew ?_ | refine blk_alloc ?_ _)); exact BK124.out)) : gb126 ≠ gb124)); have n8_ := Aside0.mk ((by rw [hg]; exact Nat.ne_of_lt (blk_lt (g := gb125) (o := .cells #[.int .u8 0, .int .u8 0, .string (⟨#[]⟩ : ByteArray), .slice none 0 0, .bool false, .bool false] 199 (0, 0)) (by (with_reducible repeat (first | refine blk_drewN ?_ _ | refine blk_drew ?_ | refine blk_alloc ?_ _)); exact BK125.out)) : gb125 ≠ gb126)); have n9_ := Aside0.mk ((by rw [hg]; exact Nat.ne_of_gt (blk_lt (g := gb125) (o := .cells #[.int .u8 0, .int .u8 0, .string (⟨#[]⟩ : ByteArray), .slice none 0 0, .bool false, .bool false] 199 (0, 0)) (by (with_reducible repeat (first | refine blk_drewN ?_ _ | refine blk_drew ?_ | refine blk_alloc ?_ _)); exact BK125.out)) : gb126 ≠ gb125)); clear BK124; clear BK125; clear HB; have BK124 := n0_; have BK125 := n1_; have HB := n2_; have BK126 := n3_; have GW126 := n4_; have GE126 := n5_; have NB124_126 := n6_; have NB126_124 := n7_; have NB125_126 := n8_; have NB126_125 := n9_; clear n0_ n1_ n2_ n3_ n4_ n5_ n6_ n7_ n8_ n9_; clear hb hbox hg; have hnb7 := NB126_124.out; have hnc7 := NB124_126.out; have hnb8 := NB126_125.out; have hnc8 := NB125_126.out; have hcz9_0 : w6.cell? ⟨gb126, 0, none⟩ = some (.int .u8 0) := (blk_cell BK126.out 0).trans rfl; have hcz9_1 : w6.cell? ⟨gb126, 1, none⟩ = some (.int .u8 0) := (blk_cell BK126.out 1).trans rfl; have hcz9_2 : w6.cell? ⟨gb126, 2, none⟩ = some (.string (⟨#[]⟩ : ByteArray)) := (blk_cell BK126.out 2).trans rfl; have hcz9_3 : w6.cell? ⟨gb126, 3, none⟩ = some (.slice none 0 0) := (blk_cell BK126.out 3).trans rfl; have hcz9_4 : w6.cell? ⟨gb126, 4, none⟩ = some (.bool false) := (blk_cell BK126.out 4).trans rfl; have hcz9_5 : w6.cell? ⟨gb126, 5, none⟩ = some (.bool false) := (blk_cell BK126.out 5).trans rfl; have hfz9_0 := blk_frozen BK126.out 0; have hfz9_1 := blk_frozen BK126.out 1; have hfz9_2 := blk_frozen BK126.out 2; have hfz9_3 := blk_frozen BK126.out 3; have hfz9_4 := blk_frozen BK126.out 4; have hfz9_5 := blk_frozen BK126.out 5))
  (try simp only [Act.put, List.setIfInBounds_toArray, List.set_cons_zero, List.set_cons_succ])
  go_cut [29] (fun v29 wc => ∃ (kq : Nat) (x29_2 : Bool), v29 = .bool x29_2 ∧ Aside0 (pat_set.j0 kq a1 (wrap64 (a1 + 1)) x29_2 a0_0 l0_1 91 0 (⟨#[]⟩ : ByteArray) false false = some (r1, r2, r3, r4, r5, r6, r7)) ∧ Aside0 (kq ≤ k) ∧ Aside0 (wc.heap[gb124]? = some (.cells #[.string a0_0, (.slice A0_1 l0_1.length c0_1)] 60 (0, 0))) ∧ Aside0 (wc.heap[gb125]? = some (.cells #[.int .u8 0, .int .u8 0, .string (⟨#[]⟩ : ByteArray), (.slice none 0 0), .bool false, .bool false] 199 (0, 0))) ∧ Aside0 (wc.heap[gb126]? = some (.cells #[.int .u8 91, .int .u8 0, .string (⟨#[]⟩ : ByteArray), (.slice none 0 0), .bool false, .bool false] 199 (0, 0))) ∧ Aside0 (Below w.heap.size w wc))
  case first =>
    have H := HC3.out
    clear HC3
    by_cases c10 : (wrap64 (a1 + 1)) < (a0_0.size : Int)
    · rw [if_pos c10] at H
      have c10b0 : decide ((wrap64 (a1 + 1)) < (a0_0.size : Int)) = true := decide_eq_true c10
      clear c10
      (first | rw [c10b0] | (simp only [i64_w, i32_w]; rw [c10b0]) | skip)
      obtain ⟨ji11, hji11⟩ : ∃ j_ : Int, (wrap64 (a1 + 1)) = j_ := ⟨_, rfl⟩
      replace H : (if 0 ≤ (ji11) then (if (bt a0_0 (ji11)) = 33 then ((pat_live.f a0_0 l0_1 (ji11)).bind fun t127 => (pat_set.j0 k a1 ji11 t127 a0_0 l0_1 91 0 (⟨#[]⟩ : ByteArray) false false)) else (pat_set.j0 k a1 ji11 false a0_0 l0_1 91 0 (⟨#[]⟩ : ByteArray) false false)) else (none)) = some (r1, r2, r3, r4, r5, r6, r7) := by first | (rw [hji11] at H; exact H) | (simp only [hji11] at H ⊢; exact H)
      (try rw [hji11] at c10b0)
      have hji11w : (IntKind.i64.wrap (a1 + 1)) = ji11 := (i64_w _).trans hji11
      by_cases c12 : 0 ≤ (ji11)
      · rw [if_pos c12] at H
        have c12b0 : decide (0 ≤ (ji11)) = true := decide_eq_true c12
        clear c12
        by_cases c14 : (bt a0_0 (ji11)) = 33
        · rw [if_pos c14] at H
          have c14b0 : ((bt a0_0 (ji11)) == 33) = true := beq_iff_eq.mpr c14
          have c14b1 : ((bt a0_0 (ji11)) != 33) = false := bne_eq_false_iff_eq.mpr c14
          clear c14
          replace H := Option.bind_eq_some_iff.mp H
          obtain ⟨t127, A150, H⟩ := H
          replace H : (pat_set.j0 k a1 ji11 t127 a0_0 l0_1 91 0 (⟨#[]⟩ : ByteArray) false false) = some (r1, r2, r3, r4, r5, r6, r7) := H
          have A15 := Aside0.mk A150
          clear A150
          have H' := Aside0.mk H
          clear H
          have hnb16 := NB124_125.out
          have hnc16 := NB125_124.out
          have hnb17 := NB124_126.out
          have hnc17 := NB126_124.out
          have hcz18_0 : w6.cell? ⟨gb124, 0, none⟩ = some (.string a0_0) := (blk_cell BK124.out 0).trans rfl
          have hcz18_1 : w6.cell? ⟨gb124, 1, none⟩ = some (.slice A0_1 l0_1.length c0_1) := (blk_cell BK124.out 1).trans rfl
          have hfz18_0 := blk_frozen BK124.out 0
          have hfz18_1 := blk_frozen BK124.out 1
          have p13 : 0 ≤ ((ji11) : Int) := of_decide_eq_true (by first | (with_reducible assumption) | assumption)
          have q13 : (ji11) < (a0_0.size : Int) := of_decide_eq_true (by first | (with_reducible assumption) | assumption)
          have hx13 := bt_at a0_0 (ji11)
          replace p13 := eq_true p13
          replace q13 := eq_true q13
          go_wp2_with (first | (go_at_call 173; (with_reducible refine (pat_live.calls a0_0 _ _ l0_1 ji11 t127 _ ?side1 ?side2 A15.out).mono ?_); (case side1 => exact Kd.C_below HR0_1.out (by repeat (first | (with_reducible first | exact HB.out | apply below_alloc | apply pw_below_drewN | apply below_drew1 | refine below_set ?_ GE124.out | refine below_set ?_ GE125.out | refine below_set ?_ GE126.out) | exact HB.out))); (case side2 => exact HC0_1.out); rintro e w19 ⟨rfl, hb⟩; have n0_ := Aside0.mk (blk_below (g := gb124) (o := .cells #[.string a0_0, .slice A0_1 l0_1.length c0_1] 60 (0, 0)) (by (with_reducible repeat (first | refine blk_drewN ?_ _ | refine blk_drew ?_ | refine blk_alloc ?_ _)); refine blk_far ?_ NB124_126.out _; (with_reducible repeat (first | refine blk_drewN ?_ _ | refine blk_drew ?_ | refine blk_alloc ?_ _)); refine blk_far ?_ NB124_126.out _; (with_reducible repeat (first | refine blk_drewN ?_ _ | refine blk_drew ?_ | refine blk_alloc ?_ _)); refine blk_far ?_ NB124_126.out _; (with_reducible repeat (first | refine blk_drewN ?_ _ | refine blk_drew ?_ | refine blk_alloc ?_ _)); refine blk_far ?_ NB124_126.out _; (with_reducible repeat (first | refine blk_drewN ?_ _ | refine blk_drew ?_ | refine blk_alloc ?_ _)); refine blk_far ?_ NB124_126.out _; (with_reducible repeat (first | refine blk_drewN ?_ _ | refine blk_drew ?_ | refine blk_alloc ?_ _)); refine blk_far ?_ NB124_126.out _; (with_reducible repeat (first | refine blk_drewN ?_ _ | refine blk_drew ?_ | refine blk_alloc ?_ _)); exact BK124.out) hb); have n1_ := Aside0.mk (blk_below (g := gb125) (o := .cells #[.int .u8 0, .int .u8 0, .string (⟨#[]⟩ : ByteArray), .slice none 0 0, .bool false, .bool false] 199 (0, 0)) (by (with_reducible repeat (first | refine blk_drewN ?_ _ | refine blk_drew ?_ | refine blk_alloc ?_ _)); refine blk_far ?_ NB125_126.out _; (with_reducible repeat (first | refine blk_drewN ?_ _ | refine blk_drew ?_ | refine blk_alloc ?_ _)); refine blk_far ?_ NB125_126.out _; (with_reducible repeat (first | refine blk_drewN ?_ _ | refine blk_drew ?_ | refine blk_alloc ?_ _)); refine blk_far ?_ NB125_126.out _; (with_reducible repeat (first | refine blk_drewN ?_ _ | refine blk_drew ?_ | refine blk_alloc ?_ _)); refine blk_far ?_ NB125_126.out _; (with_reducible repeat (first | refine blk_drewN ?_ _ | refine blk_drew ?_ | refine blk_alloc ?_ _)); refine blk_far ?_ NB125_126.out _; (with_reducible repeat (first | refine blk_drewN ?_ _ | refine blk_drew ?_ | refine blk_alloc ?_ _)); refine blk_far ?_ NB125_126.out _; (with_reducible repeat (first | refine blk_drewN ?_ _ | refine blk_drew ?_ | refine blk_alloc ?_ _)); exact BK125.out) hb); have n2_ := Aside0.mk (blk_below (g := gb126) (o := .cells #[.int .u8 91, .int .u8 0, .string (⟨#[]⟩ : ByteArray), .slice none 0 0, .bool false, .bool false] 199 (0, 0)) (by (with_reducible repeat (first | refine blk_drewN ?_ _ | refine blk_drew ?_ | refine blk_alloc ?_ _)); refine blk_put (cs := #[.int .u8 91, .int .u8 0, .string (⟨#[]⟩ : ByteArray), .slice none 0 0, .bool false, .bool false]) ?_ 5 _ rfl; (with_reducible repeat (first | refine blk_drewN ?_ _ | refine blk_drew ?_ | refine blk_alloc ?_ _)); refine blk_put (cs := #[.int .u8 91, .int .u8 0, .string (⟨#[]⟩ : ByteArray), .slice none 0 0, .bool false, .bool false]) ?_ 4 _ rfl; (with_reducible repeat (first | refine blk_drewN ?_ _ | refine blk_drew ?_ | refine blk_alloc ?_ _)); refine blk_put (cs := #[.int .u8 91, .int .u8 0, .string (⟨#[]⟩ : ByteArray), .slice none 0 0, .bool false, .bool false]) ?_ 3 _ rfl; (with_reducible repeat (first | refine blk_drewN ?_ _ | refine blk_drew ?_ | refine blk_alloc ?_ _)); refine blk_put (cs := #[.int .u8 91, .int .u8 0, .string (⟨#[]⟩ : ByteArray), .slice none 0 0, .bool false, .bool false]) ?_ 2 _ rfl; (with_reducible repeat (first | refine blk_drewN ?_ _ | refine blk_drew ?_ | refine blk_alloc ?_ _)); refine blk_put (cs := #[.int .u8 91, .int .u8 0, .string (⟨#[]⟩ : ByteArray), .slice none 0 0, .bool false, .bool false]) ?_ 1 _ rfl; (with_reducible repeat (first | refine blk_drewN ?_ _ | refine blk_drew ?_ | refine blk_alloc ?_ _)); refine blk_put (cs := #[.int .u8 0, .int .u8 0, .string (⟨#[]⟩ : ByteArray), .slice none 0 0, .bool false, .bool false]) ?_ 0 _ rfl; (with_reducible repeat (first | refine blk_drewN ?_ _ | refine blk_drew ?_ | refine blk_alloc ?_ _)); exact BK126.out) hb); have n3_ := Aside0.mk (below_step (by repeat (first | (with_reducible first | exact HB.out | apply below_alloc | apply pw_below_drewN | apply below_drew1 | refine below_set ?_ GE124.out | refine below_set ?_ GE125.out | refine below_set ?_ GE126.out) | exact HB.out)) hb); clear BK124; clear BK125; clear BK126; clear HB; have BK124 := n0_; have BK125 := n1_; have BK126 := n2_; have HB := n3_; clear n0_ n1_ n2_ n3_; (try clear hb); (try clear hb2); (try clear hk); (try clear hi)))
          try subst hji11
          go_meet
          case rel => exact ⟨_, (t127), (by first | rfl | (simp; done) | (simp [*]; done)), H', ⟨by first | omega | exact Nat.le_refl _⟩, ⟨by (with_reducible repeat (first | refine blk_drewN ?_ _ | refine blk_drew ?_ | refine blk_alloc ?_ _)); exact BK124.out⟩, ⟨by (with_reducible repeat (first | refine blk_drewN ?_ _ | refine blk_drew ?_ | refine blk_alloc ?_ _)); exact BK125.out⟩, ⟨by (with_reducible repeat (first | refine blk_drewN ?_ _ | refine blk_drew ?_ | refine blk_alloc ?_ _)); exact BK126.out⟩, ⟨by repeat (first | (with_reducible first | exact HB.out | apply below_alloc | apply pw_below_drewN | apply below_drew1 | refine below_set ?_ GE124.out | refine below_set ?_ GE125.out | refine below_set ?_ GE126.out) | exact HB.out)⟩⟩
        · rw [if_neg c14] at H
          have c14b0 : ((bt a0_0 (ji11)) == 33) = false := beq_eq_false_iff_ne.mpr c14
          have c14b1 : ((bt a0_0 (ji11)) != 33) = true := bne_iff_ne.mpr c14
          have H' := Aside0.mk H
          clear H
          have hnb20 := NB124_125.out
          have hnc20 := NB125_124.out
          have hnb21 := NB124_126.out
          have hnc21 := NB126_124.out
          have hcz22_0 : w6.cell? ⟨gb124, 0, none⟩ = some (.string a0_0) := (blk_cell BK124.out 0).trans rfl
          have hcz22_1 : w6.cell? ⟨gb124, 1, none⟩ = some (.slice A0_1 l0_1.length c0_1) := (blk_cell BK124.out 1).trans rfl
          have hfz22_0 := blk_frozen BK124.out 0
          have hfz22_1 := blk_frozen BK124.out 1
          have p13 : 0 ≤ ((ji11) : Int) := of_decide_eq_true (by first | (with_reducible assumption) | assumption)
          have q13 : (ji11) < (a0_0.size : Int) := of_decide_eq_true (by first | (with_reducible assumption) | assumption)
          have hx13 := bt_at a0_0 (ji11)
          replace p13 := eq_true p13
          replace q13 := eq_true q13
          go_wp2
          try subst hji11
          go_meet
          case rel => exact ⟨_, (false), (by first | rfl | (simp; done) | (simp [*]; done)), H', ⟨by first | omega | exact Nat.le_refl _⟩, ⟨by (with_reducible repeat (first | refine blk_drewN ?_ _ | refine blk_drew ?_ | refine blk_alloc ?_ _)); refine blk_far ?_ NB124_126.out _; (with_reducible repeat (first | refine blk_drewN ?_ _ | refine blk_drew ?_ | refine blk_alloc ?_ _)); refine blk_far ?_ NB124_126.out _; (with_reducible repeat (first | refine blk_drewN ?_ _ | refine blk_drew ?_ | refine blk_alloc ?_ _)); refine blk_far ?_ NB124_126.out _; (with_reducible repeat (first | refine blk_drewN ?_ _ | refine blk_drew ?_ | refine blk_alloc ?_ _)); refine blk_far ?_ NB124_126.out _; (with_reducible repeat (first | refine blk_drewN ?_ _ | refine blk_drew ?_ | refine blk_alloc ?_ _)); refine blk_far ?_ NB124_126.out _; (with_reducible repeat (first | refine blk_drewN ?_ _ | refine blk_drew ?_ | refine blk_alloc ?_ _)); refine blk_far ?_ NB124_126.out _; (with_reducible repeat (first | refine blk_drewN ?_ _ | refine blk_drew ?_ | refine blk_alloc ?_ _)); exact BK124.out⟩, ⟨by (with_reducible repeat (first | refine blk_drewN ?_ _ | refine blk_drew ?_ | refine blk_alloc ?_ _)); refine blk_far ?_ NB125_126.out _; (with_reducible repeat (first | refine blk_drewN ?_ _ | refine blk_drew ?_ | refine blk_alloc ?_ _)); refine blk_far ?_ NB125_126.out _; (with_reducible repeat (first | refine blk_drewN ?_ _ | refine blk_drew ?_ | refine blk_alloc ?_ _)); refine blk_far ?_ NB125_126.out _; (with_reducible repeat (first | refine blk_drewN ?_ _ | refine blk_drew ?_ | refine blk_alloc ?_ _)); refine blk_far ?_ NB125_126.out _; (with_reducible repeat (first | refine blk_drewN ?_ _ | refine blk_drew ?_ | refine blk_alloc ?_ _)); refine blk_far ?_ NB125_126.out _; (with_reducible repeat (first | refine blk_drewN ?_ _ | refine blk_drew ?_ | refine blk_alloc ?_ _)); refine blk_far ?_ NB125_126.out _; (with_reducible repeat (first | refine blk_drewN ?_ _ | refine blk_drew ?_ | refine blk_alloc ?_ _)); exact BK125.out⟩, ⟨by (with_reducible repeat (first | refine blk_drewN ?_ _ | refine blk_drew ?_ | refine blk_alloc ?_ _)); refine blk_put (cs := #[.int .u8 91, .int .u8 0, .string (⟨#[]⟩ : ByteArray), .slice none 0 0, .bool false, .bool false]) ?_ 5 _ rfl; (with_reducible repeat (first | refine blk_drewN ?_ _ | refine blk_drew ?_ | refine blk_alloc ?_ _)); refine blk_put (cs := #[.int .u8 91, .int .u8 0, .string (⟨#[]⟩ : ByteArray), .slice none 0 0, .bool false, .bool false]) ?_ 4 _ rfl; (with_reducible repeat (first | refine blk_drewN ?_ _ | refine blk_drew ?_ | refine blk_alloc ?_ _)); refine blk_put (cs := #[.int .u8 91, .int .u8 0, .string (⟨#[]⟩ : ByteArray), .slice none 0 0, .bool false, .bool false]) ?_ 3 _ rfl; (with_reducible repeat (first | refine blk_drewN ?_ _ | refine blk_drew ?_ | refine blk_alloc ?_ _)); refine blk_put (cs := #[.int .u8 91, .int .u8 0, .string (⟨#[]⟩ : ByteArray), .slice none 0 0, .bool false, .bool false]) ?_ 2 _ rfl; (with_reducible repeat (first | refine blk_drewN ?_ _ | refine blk_drew ?_ | refine blk_alloc ?_ _)); refine blk_put (cs := #[.int .u8 91, .int .u8 0, .string (⟨#[]⟩ : ByteArray), .slice none 0 0, .bool false, .bool false]) ?_ 1 _ rfl; (with_reducible repeat (first | refine blk_drewN ?_ _ | refine blk_drew ?_ | refine blk_alloc ?_ _)); refine blk_put (cs := #[.int .u8 0, .int .u8 0, .string (⟨#[]⟩ : ByteArray), .slice none 0 0, .bool false, .bool false]) ?_ 0 _ rfl; (with_reducible repeat (first | refine blk_drewN ?_ _ | refine blk_drew ?_ | refine blk_alloc ?_ _)); exact BK126.out⟩, ⟨by repeat (first | (with_reducible first | exact HB.out | apply below_alloc | apply pw_below_drewN | apply below_drew1 | refine below_set ?_ GE124.out | refine below_set ?_ GE125.out | refine below_set ?_ GE126.out) | exact HB.out)⟩⟩
      · rw [if_neg c12] at H
        exact absurd H (by simp)
    · rw [if_neg c10] at H
      have c10b0 : decide ((wrap64 (a1 + 1)) < (a0_0.size : Int)) = false := decide_eq_false c10
      clear c10
      (first | rw [c10b0] | (simp only [i64_w, i32_w]; rw [c10b0]) | skip)
      have H' := Aside0.mk H
      clear H
      have hnb23 := NB124_125.out
      have hnc23 := NB125_124.out
      have hnb24 := NB124_126.out
      have hnc24 := NB126_124.out
      have hcz25_0 : w6.cell? ⟨gb124, 0, none⟩ = some (.string a0_0) := (blk_cell BK124.out 0).trans rfl
      have hcz25_1 : w6.cell? ⟨gb124, 1, none⟩ = some (.slice A0_1 l0_1.length c0_1) := (blk_cell BK124.out 1).trans rfl
      have hfz25_0 := blk_frozen BK124.out 0
      have hfz25_1 := blk_frozen BK124.out 1
      go_wp2
      go_meet
      case rel => exact ⟨_, (false), (by first | rfl | (simp; done) | (simp [*]; done)), H', ⟨by first | omega | exact Nat.le_refl _⟩, ⟨by (with_reducible repeat (first | refine blk_drewN ?_ _ | refine blk_drew ?_ | refine blk_alloc ?_ _)); refine blk_far ?_ NB124_126.out _; (with_reducible repeat (first | refine blk_drewN ?_ _ | refine blk_drew ?_ | refine blk_alloc ?_ _)); refine blk_far ?_ NB124_126.out _; (with_reducible repeat (first | refine blk_drewN ?_ _ | refine blk_drew ?_ | refine blk_alloc ?_ _)); refine blk_far ?_ NB124_126.out _; (with_reducible repeat (first | refine blk_drewN ?_ _ | refine blk_drew ?_ | refine blk_alloc ?_ _)); refine blk_far ?_ NB124_126.out _; (with_reducible repeat (first | refine blk_drewN ?_ _ | refine blk_drew ?_ | refine blk_alloc ?_ _)); refine blk_far ?_ NB124_126.out _; (with_reducible repeat (first | refine blk_drewN ?_ _ | refine blk_drew ?_ | refine blk_alloc ?_ _)); refine blk_far ?_ NB124_126.out _; (with_reducible repeat (first | refine blk_drewN ?_ _ | refine blk_drew ?_ | refine blk_alloc ?_ _)); exact BK124.out⟩, ⟨by (with_reducible repeat (first | refine blk_drewN ?_ _ | refine blk_drew ?_ | refine blk_alloc ?_ _)); refine blk_far ?_ NB125_126.out _; (with_reducible repeat (first | refine blk_drewN ?_ _ | refine blk_drew ?_ | refine blk_alloc ?_ _)); refine blk_far ?_ NB125_126.out _; (with_reducible repeat (first | refine blk_drewN ?_ _ | refine blk_drew ?_ | refine blk_alloc ?_ _)); refine blk_far ?_ NB125_126.out _; (with_reducible repeat (first | refine blk_drewN ?_ _ | refine blk_drew ?_ | refine blk_alloc ?_ _)); refine blk_far ?_ NB125_126.out _; (with_reducible repeat (first | refine blk_drewN ?_ _ | refine blk_drew ?_ | refine blk_alloc ?_ _)); refine blk_far ?_ NB125_126.out _; (with_reducible repeat (first | refine blk_drewN ?_ _ | refine blk_drew ?_ | refine blk_alloc ?_ _)); refine blk_far ?_ NB125_126.out _; (with_reducible repeat (first | refine blk_drewN ?_ _ | refine blk_drew ?_ | refine blk_alloc ?_ _)); exact BK125.out⟩, ⟨by (with_reducible repeat (first | refine blk_drewN ?_ _ | refine blk_drew ?_ | refine blk_alloc ?_ _)); refine blk_put (cs := #[.int .u8 91, .int .u8 0, .string (⟨#[]⟩ : ByteArray), .slice none 0 0, .bool false, .bool false]) ?_ 5 _ rfl; (with_reducible repeat (first | refine blk_drewN ?_ _ | refine blk_drew ?_ | refine blk_alloc ?_ _)); refine blk_put (cs := #[.int .u8 91, .int .u8 0, .string (⟨#[]⟩ : ByteArray), .slice none 0 0, .bool false, .bool false]) ?_ 4 _ rfl; (with_reducible repeat (first | refine blk_drewN ?_ _ | refine blk_drew ?_ | refine blk_alloc ?_ _)); refine blk_put (cs := #[.int .u8 91, .int .u8 0, .string (⟨#[]⟩ : ByteArray), .slice none 0 0, .bool false, .bool false]) ?_ 3 _ rfl; (with_reducible repeat (first | refine blk_drewN ?_ _ | refine blk_drew ?_ | refine blk_alloc ?_ _)); refine blk_put (cs := #[.int .u8 91, .int .u8 0, .string (⟨#[]⟩ : ByteArray), .slice none 0 0, .bool false, .bool false]) ?_ 2 _ rfl; (with_reducible repeat (first | refine blk_drewN ?_ _ | refine blk_drew ?_ | refine blk_alloc ?_ _)); refine blk_put (cs := #[.int .u8 91, .int .u8 0, .string (⟨#[]⟩ : ByteArray), .slice none 0 0, .bool false, .bool false]) ?_ 1 _ rfl; (with_reducible repeat (first | refine blk_drewN ?_ _ | refine blk_drew ?_ | refine blk_alloc ?_ _)); refine blk_put (cs := #[.int .u8 0, .int .u8 0, .string (⟨#[]⟩ : ByteArray), .slice none 0 0, .bool false, .bool false]) ?_ 0 _ rfl; (with_reducible repeat (first | refine blk_drewN ?_ _ | refine blk_drew ?_ | refine blk_alloc ?_ _)); exact BK126.out⟩, ⟨by repeat (first | (with_reducible first | exact HB.out | apply below_alloc | apply pw_below_drewN | apply below_drew1 | refine below_set ?_ GE124.out | refine below_set ?_ GE125.out | refine below_set ?_ GE126.out) | exact HB.out)⟩⟩
  case rest =>
    clear HC3
    try clear c1
    try clear p1
    try clear q1
    try clear hx1
    try clear c2
    try clear p2
    try clear p6
    try clear c7
    try clear c8
    try clear c10
    try clear c10b0
    try clear c12
    try clear c12b0
    try clear p13
    try clear q13
    try clear hx13
    try clear c14
    try clear c14b0
    try clear c14b1
    try clear c16
    try clear c17
    try clear c20
    try clear c21
    try clear c23
    try clear c24
    try clear hcz18_0
    try clear hcz18_1
    try clear hcz22_0
    try clear hcz22_1
    try clear hcz25_0
    try clear hcz25_1
    try clear hcz9_0
    try clear hcz9_1
    try clear hcz9_2
    try clear hcz9_3
    try clear hcz9_4
    try clear hcz9_5
    try clear hfz18_0
    try clear hfz18_1
    try clear hfz22_0
    try clear hfz22_1
    try clear hfz25_0
    try clear hfz25_1
    try clear hfz9_0
    try clear hfz9_1
    try clear hfz9_2
    try clear hfz9_3
    try clear hfz9_4
    try clear hfz9_5
    try clear p13
    try clear q13
    obtain ⟨kq, x29_2, rfl, HA, HJ2, BK124, BK125, BK126, HB⟩ := hcut
    cases kq with
    | zero => exact absurd HA.out (by simp [pat_set.j0])
    | succ kj2 =>
      have H := HA.out
      clear HA
      simp only [pat_set.j0] at H
      have HC26 := Aside0.mk H
      clear H
      go_upto_if 29 with (fail)
      go_cut [6] (fun v6 wc => ∃ (kq : Nat) (x6_25 : Int) (x127004_25 : Bool), v6 = .int .i64 x6_25 ∧ Aside0 (pat_set.j1 kq a1 x6_25 a0_0 l0_1 91 0 (⟨#[]⟩ : ByteArray) x127004_25 false = some (r1, r2, r3, r4, r5, r6, r7)) ∧ Aside0 (kq ≤ kj2) ∧ Aside0 (wc.heap[gb124]? = some (.cells #[.string a0_0, (.slice A0_1 l0_1.length c0_1)] 60 (0, 0))) ∧ Aside0 (wc.heap[gb125]? = some (.cells #[.int .u8 0, .int .u8 0, .string (⟨#[]⟩ : ByteArray), (.slice none 0 0), .bool false, .bool false] 199 (0, 0))) ∧ Aside0 (wc.heap[gb126]? = some (.cells #[.int .u8 91, .int .u8 0, .string (⟨#[]⟩ : ByteArray), (.slice none 0 0), .bool x127004_25, .bool false] 199 (0, 0))) ∧ Aside0 (Below w.heap.size w wc))
      case first =>
        have H := HC26.out
        clear HC26
        by_cases c27 : x29_2 = true
        · subst c27
          have H1 : (pat_set.j1 kj2 a1 (wrap64 ((wrap64 (a1 + 1)) + 1)) a0_0 l0_1 91 0 (⟨#[]⟩ : ByteArray) true false) = some (r1, r2, r3, r4, r5, r6, r7) := by rw [if_pos rfl] at H; exact H
          clear H
          have H := H1
          clear H1
          have H' := Aside0.mk H
          clear H
          have hnb28 := NB126_124.out
          have hnc28 := NB124_126.out
          have hnb29 := NB126_125.out
          have hnc29 := NB125_126.out
          have hcz30_0 : wc.cell? ⟨gb126, 0, none⟩ = some (.int .u8 91) := (blk_cell BK126.out 0).trans rfl
          have hcz30_1 : wc.cell? ⟨gb126, 1, none⟩ = some (.int .u8 0) := (blk_cell BK126.out 1).trans rfl
          have hcz30_2 : wc.cell? ⟨gb126, 2, none⟩ = some (.string (⟨#[]⟩ : ByteArray)) := (blk_cell BK126.out 2).trans rfl
          have hcz30_3 : wc.cell? ⟨gb126, 3, none⟩ = some (.slice none 0 0) := (blk_cell BK126.out 3).trans rfl
          have hcz30_4 : wc.cell? ⟨gb126, 4, none⟩ = some (.bool false) := (blk_cell BK126.out 4).trans rfl
          have hcz30_5 : wc.cell? ⟨gb126, 5, none⟩ = some (.bool false) := (blk_cell BK126.out 5).trans rfl
          have hfz30_0 := blk_frozen BK126.out 0
          have hfz30_1 := blk_frozen BK126.out 1
          have hfz30_2 := blk_frozen BK126.out 2
          have hfz30_3 := blk_frozen BK126.out 3
          have hfz30_4 := blk_frozen BK126.out 4
          have hfz30_5 := blk_frozen BK126.out 5
          go_wp2
          go_meet
          case rel => exact ⟨_, (wrap64 ((wrap64 (a1 + 1)) + 1)), (true), (by first | rfl | (simp; done) | (simp [*]; done)), H', ⟨by have := HJ2.out; first | omega | exact Nat.le_refl _⟩, ⟨by (with_reducible repeat (first | refine blk_drewN ?_ _ | refine blk_drew ?_ | refine blk_alloc ?_ _)); refine blk_far ?_ NB124_126.out _; (with_reducible repeat (first | refine blk_drewN ?_ _ | refine blk_drew ?_ | refine blk_alloc ?_ _)); exact BK124.out⟩, ⟨by (with_reducible repeat (first | refine blk_drewN ?_ _ | refine blk_drew ?_ | refine blk_alloc ?_ _)); refine blk_far ?_ NB125_126.out _; (with_reducible repeat (first | refine blk_drewN ?_ _ | refine blk_drew ?_ | refine blk_alloc ?_ _)); exact BK125.out⟩, ⟨by (with_reducible repeat (first | refine blk_drewN ?_ _ | refine blk_drew ?_ | refine blk_alloc ?_ _)); refine blk_put (cs := #[.int .u8 91, .int .u8 0, .string (⟨#[]⟩ : ByteArray), .slice none 0 0, .bool false, .bool false]) ?_ 4 _ rfl; (with_reducible repeat (first | refine blk_drewN ?_ _ | refine blk_drew ?_ | refine blk_alloc ?_ _)); exact BK126.out⟩, ⟨by repeat (first | (with_reducible first | exact HB.out | apply below_alloc | apply pw_below_drewN | apply below_drew1 | refine below_set ?_ GE124.out | refine below_set ?_ GE125.out | refine below_set ?_ GE126.out) | exact HB.out)⟩⟩
        · replace c27 := Bool.eq_false_iff.mpr c27
          subst c27
          have H1 : (pat_set.j1 kj2 a1 (wrap64 (a1 + 1)) a0_0 l0_1 91 0 (⟨#[]⟩ : ByteArray) false false) = some (r1, r2, r3, r4, r5, r6, r7) := by rw [if_neg (show ¬ (false = true) by decide)] at H; exact H
          clear H
          have H := H1
          clear H1
          have H' := Aside0.mk H
          clear H
          go_wp2
          go_meet
          case rel => exact ⟨_, ((wrap64 (a1 + 1))), (false), (by first | rfl | (simp; done) | (simp [*]; done)), H', ⟨by have := HJ2.out; first | omega | exact Nat.le_refl _⟩, ⟨by (with_reducible repeat (first | refine blk_drewN ?_ _ | refine blk_drew ?_ | refine blk_alloc ?_ _)); exact BK124.out⟩, ⟨by (with_reducible repeat (first | refine blk_drewN ?_ _ | refine blk_drew ?_ | refine blk_alloc ?_ _)); exact BK125.out⟩, ⟨by (with_reducible repeat (first | refine blk_drewN ?_ _ | refine blk_drew ?_ | refine blk_alloc ?_ _)); exact BK126.out⟩, ⟨by repeat (first | (with_reducible first | exact HB.out | apply below_alloc | apply pw_below_drewN | apply below_drew1 | refine below_set ?_ GE124.out | refine below_set ?_ GE125.out | refine below_set ?_ GE126.out) | exact HB.out)⟩⟩
      case rest =>
        clear HC26
        try clear c1
        try clear p1
        try clear q1
        try clear hx1
        try clear c2
        try clear p2
        try clear p6
        try clear c7
        try clear c8
        try clear c10
        try clear c10b0
        try clear c12
        try clear c12b0
        try clear p13
        try clear q13
        try clear hx13
        try clear c14
        try clear c14b0
        try clear c14b1
        try clear c16
        try clear c17
        try clear c20
        try clear c21
        try clear c23
        try clear c24
        try clear c27
        try clear c28
        try clear c29
        try clear hcz18_0
        try clear hcz18_1
        try clear hcz22_0
        try clear hcz22_1
        try clear hcz25_0
        try clear hcz25_1
        try clear hcz30_0
        try clear hcz30_1
        try clear hcz30_2
        try clear hcz30_3
        try clear hcz30_4
        try clear hcz30_5
        try clear hcz9_0
        try clear hcz9_1
        try clear hcz9_2
        try clear hcz9_3
        try clear hcz9_4
        try clear hcz9_5
        try clear hfz18_0
        try clear hfz18_1
        try clear hfz22_0
        try clear hfz22_1
        try clear hfz25_0
        try clear hfz25_1
        try clear hfz30_0
        try clear hfz30_1
        try clear hfz30_2
        try clear hfz30_3
        try clear hfz30_4
        try clear hfz30_5
        try clear hfz9_0
        try clear hfz9_1
        try clear hfz9_2
        try clear hfz9_3
        try clear hfz9_4
        try clear hfz9_5
        try clear p1
        try clear p13
        try clear p2
        try clear p6
        try clear q1
        try clear q13
        obtain ⟨kq, x6_25, x127004_25, rfl, HA, HJ25, BK124, BK125, BK126, HB⟩ := hcut
        cases kq with
        | zero => exact absurd HA.out (by simp [pat_set.j1])
        | succ kj25 =>
          have H := HA.out
          clear HA
          simp only [pat_set.j1] at H
          have H' := Aside0.mk H
          clear H
          go_wp2
          go_loopg [6] kj25 (fun kq v6 w' => ∃ (x6_3 : Int) (x126000_3 : Int) (x126001_3 : Int) (x126002_3 : ByteArray) (x126004_3 : Bool) (x126005_3 : Bool) (x127002_3 : ByteArray) (x127003_3 : List Bool) (u127003 : Value), v6 = .int .i64 x6_3 ∧ Aside0 (pat_set.l0 kq a1 x6_3 x6_25 a0_0 l0_1 91 0 x127002_3 x127003_3 x127004_25 false = some (r1, r2, r3, r4, r5, r6, r7)) ∧ Aside0 (kq ≤ kj25) ∧ Aside0 (Kd.R Kd.bool 4 w' w.heap.size (fun _ => True) u127003 x127003_3) ∧ Aside0 (w'.heap[gb124]? = some (.cells #[.string a0_0, (.slice A0_1 l0_1.length c0_1)] 60 (0, 0))) ∧ Aside0 (w'.heap[gb125]? = some (.cells #[.int .u8 x126000_3, .int .u8 x126001_3, .string x126002_3, (.slice none 0 0), .bool x126004_3, .bool x126005_3] 199 (0, 0))) ∧ Aside0 (w'.heap[gb126]? = some (.cells #[.int .u8 91, .int .u8 0, .string x127002_3, u127003, .bool x127004_25, .bool false] 199 (0, 0))) ∧ Aside0 (Below w.heap.size w w'))
          case atStart => exact ⟨(x6_25), (0), (0), ((⟨#[]⟩ : ByteArray)), (false), (false), ((⟨#[]⟩ : ByteArray)), (([] : List Bool)), (.slice none 0 0), (by first | rfl | (simp; done) | (simp [*]; done)), H', ⟨Nat.le_refl _⟩, ⟨by first | exact Kd.R_nil _ _ _ _ _ | exact Kd.N_nil _ _ _ _ _ | exact Kd.V_nil _ _ _ _ _ | exact Kd.Q_nil _ _ _ _ _ | exact Kd.S_nil _ _ _ _ _⟩, ⟨by (with_reducible repeat (first | refine blk_drewN ?_ _ | refine blk_drew ?_ | refine blk_alloc ?_ _)); exact BK124.out⟩, ⟨by (with_reducible repeat (first | refine blk_drewN ?_ _ | refine blk_drew ?_ | refine blk_alloc ?_ _)); exact BK125.out⟩, ⟨by (with_reducible repeat (first | refine blk_drewN ?_ _ | refine blk_drew ?_ | refine blk_alloc ?_ _)); exact BK126.out⟩, ⟨by repeat (first | (with_reducible first | exact HB.out | apply below_alloc | apply pw_below_drewN | apply below_drew1 | refine below_set ?_ GE124.out | refine below_set ?_ GE125.out | refine below_set ?_ GE126.out) | exact HB.out)⟩⟩
          case round =>
            clear H'
            try clear c1
            try clear p1
            try clear q1
            try clear hx1
            try clear c2
            try clear p2
            try clear p6
            try clear c7
            try clear c8
            try clear c10
            try clear c10b0
            try clear c12
            try clear c12b0
            try clear p13
            try clear q13
            try clear hx13
            try clear c14
            try clear c14b0
            try clear c14b1
            try clear c16
            try clear c17
            try clear c20
            try clear c21
            try clear c23
            try clear c24
            try clear c27
            try clear c28
            try clear c29
            try clear hcz18_0
            try clear hcz18_1
            try clear hcz22_0
            try clear hcz22_1
            try clear hcz25_0
            try clear hcz25_1
            try clear hcz30_0
            try clear hcz30_1
            try clear hcz30_2
            try clear hcz30_3
            try clear hcz30_4
            try clear hcz30_5
            try clear hcz9_0
            try clear hcz9_1
            try clear hcz9_2
            try clear hcz9_3
            try clear hcz9_4
            try clear hcz9_5
            try clear hfz18_0
            try clear hfz18_1
            try clear hfz22_0
            try clear hfz22_1
            try clear hfz25_0
            try clear hfz25_1
            try clear hfz30_0
            try clear hfz30_1
            try clear hfz30_2
            try clear hfz30_3
            try clear hfz30_4
            try clear hfz30_5
            try clear hfz9_0
            try clear hfz9_1
            try clear hfz9_2
            try clear hfz9_3
            try clear hfz9_4
            try clear hfz9_5
            try clear p1
            try clear p13
            try clear p2
            try clear p6
            try clear q1
            try clear q13
            obtain ⟨x6_3, x126000_3, x126001_3, x126002_3, x126004_3, x126005_3, x127002_3, x127003_3, u127003, rfl, HA, HK3, HO_127003, BK124, BK125, BK126, HB⟩ := hrel
            cases gk with
            | zero => exact absurd HA.out (by simp [pat_set.l0])
            | succ k3 =>
              have H := HA.out
              clear HA
              simp only [pat_set.l0] at H
              by_cases c31 : x6_3 < (a0_0.size : Int)
              · rw [if_pos c31] at H
                have c31b0 : decide (x6_3 < (a0_0.size : Int)) = true := decide_eq_true c31
                clear c31
                have HC32 := Aside0.mk H
                clear H
                have hnb33 := NB124_125.out
                have hnc33 := NB125_124.out
                have hnb34 := NB124_126.out
                have hnc34 := NB126_124.out
                have hcz35_0 : wr.cell? ⟨gb124, 0, none⟩ = some (.string a0_0) := (blk_cell BK124.out 0).trans rfl
                have hcz35_1 : wr.cell? ⟨gb124, 1, none⟩ = some (.slice A0_1 l0_1.length c0_1) := (blk_cell BK124.out 1).trans rfl
                have hfz35_0 := blk_frozen BK124.out 0
                have hfz35_1 := blk_frozen BK124.out 1
                go_upto_region 9 with (fail)
                go_cut [55] (fun v55 wc => ∃ (kq : Nat) (x55_31 : Bool), v55 = .bool x55_31 ∧ Aside0 (pat_set.j3 kq a1 x6_3 x6_25 x55_31 a0_0 l0_1 91 0 x127002_3 x127003_3 x127004_25 false = some (r1, r2, r3, r4, r5, r6, r7)) ∧ Aside0 (kq ≤ k3) ∧ Aside0 (Kd.R Kd.bool 4 wc w.heap.size (fun _ => True) u127003 x127003_3) ∧ Aside0 (wc.heap[gb124]? = some (.cells #[.string a0_0, (.slice A0_1 l0_1.length c0_1)] 60 (0, 0))) ∧ Aside0 (wc.heap[gb125]? = some (.cells #[.int .u8 x126000_3, .int .u8 x126001_3, .string x126002_3, (.slice none 0 0), .bool x126004_3, .bool x126005_3] 199 (0, 0))) ∧ Aside0 (wc.heap[gb126]? = some (.cells #[.int .u8 91, .int .u8 0, .string x127002_3, u127003, .bool x127004_25, .bool false] 199 (0, 0))) ∧ Aside0 (Below w.heap.size w wc))
                case first =>
                  have H := HC32.out
                  clear HC32
                  by_cases c36 : x6_3 > x6_25
                  · rw [if_pos c36] at H
                    have c36b0 : decide (x6_25 < x6_3) = true := decide_eq_true c36
                    clear c36
                    (first | rw [c36b0] | (simp only [i64_w, i32_w]; rw [c36b0]) | skip)
                    by_cases c37 : 0 ≤ x6_3
                    · rw [if_pos c37] at H
                      have c37b0 : decide (0 ≤ x6_3) = true := decide_eq_true c37
                      clear c37
                      by_cases c39 : (bt a0_0 x6_3) = 93
                      · rw [if_pos c39] at H
                        have c39b0 : ((bt a0_0 x6_3) == 93) = true := beq_iff_eq.mpr c39
                        have c39b1 : ((bt a0_0 x6_3) != 93) = false := bne_eq_false_iff_eq.mpr c39
                        clear c39
                        replace H := Option.bind_eq_some_iff.mp H
                        obtain ⟨t128, A400, H⟩ := H
                        replace H : (pat_set.j3 k3 a1 x6_3 x6_25 t128 a0_0 l0_1 91 0 x127002_3 x127003_3 x127004_25 false) = some (r1, r2, r3, r4, r5, r6, r7) := H
                        have A40 := Aside0.mk A400
                        clear A400
                        have H' := Aside0.mk H
                        clear H
                        have hnb41 := NB124_125.out
                        have hnc41 := NB125_124.out
                        have hnb42 := NB124_126.out
                        have hnc42 := NB126_124.out
                        have hcz43_0 : wr.cell? ⟨gb124, 0, none⟩ = some (.string a0_0) := (blk_cell BK124.out 0).trans rfl
                        have hcz43_1 : wr.cell? ⟨gb124, 1, none⟩ = some (.slice A0_1 l0_1.length c0_1) := (blk_cell BK124.out 1).trans rfl
                        have hfz43_0 := blk_frozen BK124.out 0
                        have hfz43_1 := blk_frozen BK124.out 1
                        have p38 : 0 ≤ (x6_3 : Int) := of_decide_eq_true (by first | (with_reducible assumption) | assumption)
                        have q38 : x6_3 < (a0_0.size : Int) := of_decide_eq_true (by first | (with_reducible assumption) | assumption)
                        have hx38 := bt_at a0_0 x6_3
                        replace p38 := eq_true p38
                        replace q38 := eq_true q38
                        go_wp2_with (first | (go_at_call 173; (with_reducible refine (pat_live.calls a0_0 _ _ l0_1 x6_3 t128 _ ?side1 ?side2 A40.out).mono ?_); (case side1 => repeat (first | exact (Kd.C_below HR0_1.out HB.out) | (with_reducible refine Kd.C_alloc ?_ _) | (with_reducible refine Kd.C_drewN ?_ _) | (with_reducible refine Kd.C_drew ?_))); (case side2 => exact HC0_1.out); rintro e w44 ⟨rfl, hb⟩; have n0_ := Aside0.mk (Kd.R_below (by (with_reducible repeat (first | apply Kd.R_alloc | apply Kd.R_drewN | apply Kd.R_drew)); exact HO_127003.out) hb); have n1_ := Aside0.mk (blk_below (g := gb124) (o := .cells #[.string a0_0, .slice A0_1 l0_1.length c0_1] 60 (0, 0)) (by (with_reducible repeat (first | refine blk_drewN ?_ _ | refine blk_drew ?_ | refine blk_alloc ?_ _)); exact BK124.out) hb); have n2_ := Aside0.mk (blk_below (g := gb125) (o := .cells #[.int .u8 x126000_3, .int .u8 x126001_3, .string x126002_3, .slice none 0 0, .bool x126004_3, .bool x126005_3] 199 (0, 0)) (by (with_reducible repeat (first | refine blk_drewN ?_ _ | refine blk_drew ?_ | refine blk_alloc ?_ _)); exact BK125.out) hb); have n3_ := Aside0.mk (blk_below (g := gb126) (o := .cells #[.int .u8 91, .int .u8 0, .string x127002_3, u127003, .bool x127004_25, .bool false] 199 (0, 0)) (by (with_reducible repeat (first | refine blk_drewN ?_ _ | refine blk_drew ?_ | refine blk_alloc ?_ _)); exact BK126.out) hb); have n4_ := Aside0.mk (below_step (by repeat (first | (with_reducible first | exact HB.out | apply below_alloc | apply pw_below_drewN | apply below_drew1 | refine below_set ?_ GE124.out | refine below_set ?_ GE125.out | refine below_set ?_ GE126.out) | exact HB.out)) hb); clear HO_127003; clear BK124; clear BK125; clear BK126; clear HB; have HO_127003 := n0_; have BK124 := n1_; have BK125 := n2_; have BK126 := n3_; have HB := n4_; clear n0_ n1_ n2_ n3_ n4_; (try clear hb); (try clear hb2); (try clear hk); (try clear hi)))
                        go_meet
                        case rel => exact ⟨_, (t128), (by first | rfl | (simp; done) | (simp [*]; done)), H', ⟨by have := HJ2.out; have := HJ25.out; have := HK3.out; first | omega | exact Nat.le_refl _⟩, ⟨by (with_reducible repeat (first | apply Kd.R_alloc | apply Kd.R_drewN | apply Kd.R_drew)); exact HO_127003.out⟩, ⟨by (with_reducible repeat (first | refine blk_drewN ?_ _ | refine blk_drew ?_ | refine blk_alloc ?_ _)); exact BK124.out⟩, ⟨by (with_reducible repeat (first | refine blk_drewN ?_ _ | refine blk_drew ?_ | refine blk_alloc ?_ _)); exact BK125.out⟩, ⟨by (with_reducible repeat (first | refine blk_drewN ?_ _ | refine blk_drew ?_ | refine blk_alloc ?_ _)); exact BK126.out⟩, ⟨by repeat (first | (with_reducible first | exact HB.out | apply below_alloc | apply pw_below_drewN | apply below_drew1 | refine below_set ?_ GE124.out | refine below_set ?_ GE125.out | refine below_set ?_ GE126.out) | exact HB.out)⟩⟩
                      · rw [if_neg c39] at H
                        have c39b0 : ((bt a0_0 x6_3) == 93) = false := beq_eq_false_iff_ne.mpr c39
                        have c39b1 : ((bt a0_0 x6_3) != 93) = true := bne_iff_ne.mpr c39
                        have H' := Aside0.mk H
                        clear H
                        have hnb45 := NB124_125.out
                        have hnc45 := NB125_124.out
                        have hnb46 := NB124_126.out
                        have hnc46 := NB126_124.out
                        have hcz47_0 : wr.cell? ⟨gb124, 0, none⟩ = some (.string a0_0) := (blk_cell BK124.out 0).trans rfl
                        have hcz47_1 : wr.cell? ⟨gb124, 1, none⟩ = some (.slice A0_1 l0_1.length c0_1) := (blk_cell BK124.out 1).trans rfl
                        have hfz47_0 := blk_frozen BK124.out 0
                        have hfz47_1 := blk_frozen BK124.out 1
                        have p38 : 0 ≤ (x6_3 : Int) := of_decide_eq_true (by first | (with_reducible assumption) | assumption)
                        have q38 : x6_3 < (a0_0.size : Int) := of_decide_eq_true (by first | (with_reducible assumption) | assumption)
                        have hx38 := bt_at a0_0 x6_3
                        replace p38 := eq_true p38
                        replace q38 := eq_true q38
                        go_wp2
                        go_meet
                        case rel => exact ⟨_, (false), (by first | rfl | (simp; done) | (simp [*]; done)), H', ⟨by have := HJ2.out; have := HJ25.out; have := HK3.out; first | omega | exact Nat.le_refl _⟩, ⟨by (with_reducible repeat (first | apply Kd.R_alloc | apply Kd.R_drewN | apply Kd.R_drew)); exact HO_127003.out⟩, ⟨by (with_reducible repeat (first | refine blk_drewN ?_ _ | refine blk_drew ?_ | refine blk_alloc ?_ _)); exact BK124.out⟩, ⟨by (with_reducible repeat (first | refine blk_drewN ?_ _ | refine blk_drew ?_ | refine blk_alloc ?_ _)); exact BK125.out⟩, ⟨by (with_reducible repeat (first | refine blk_drewN ?_ _ | refine blk_drew ?_ | refine blk_alloc ?_ _)); exact BK126.out⟩, ⟨by repeat (first | (with_reducible first | exact HB.out | apply below_alloc | apply pw_below_drewN | apply below_drew1 | refine below_set ?_ GE124.out | refine below_set ?_ GE125.out | refine below_set ?_ GE126.out) | exact HB.out)⟩⟩
                    · rw [if_neg c37] at H
                      exact absurd H (by simp)
                  · rw [if_neg c36] at H
                    have c36b0 : decide (x6_25 < x6_3) = false := decide_eq_false c36
                    clear c36
                    (first | rw [c36b0] | (simp only [i64_w, i32_w]; rw [c36b0]) | skip)
                    have H' := Aside0.mk H
                    clear H
                    go_wp2
                    go_meet
                    case rel => exact ⟨_, (false), (by first | rfl | (simp; done) | (simp [*]; done)), H', ⟨by have := HJ2.out; have := HJ25.out; have := HK3.out; first | omega | exact Nat.le_refl _⟩, ⟨by (with_reducible repeat (first | apply Kd.R_alloc | apply Kd.R_drewN | apply Kd.R_drew)); exact HO_127003.out⟩, ⟨by (with_reducible repeat (first | refine blk_drewN ?_ _ | refine blk_drew ?_ | refine blk_alloc ?_ _)); exact BK124.out⟩, ⟨by (with_reducible repeat (first | refine blk_drewN ?_ _ | refine blk_drew ?_ | refine blk_alloc ?_ _)); exact BK125.out⟩, ⟨by (with_reducible repeat (first | refine blk_drewN ?_ _ | refine blk_drew ?_ | refine blk_alloc ?_ _)); exact BK126.out⟩, ⟨by repeat (first | (with_reducible first | exact HB.out | apply below_alloc | apply pw_below_drewN | apply below_drew1 | refine below_set ?_ GE124.out | refine below_set ?_ GE125.out | refine below_set ?_ GE126.out) | exact HB.out)⟩⟩
                case rest =>
                  clear HC32
                  try clear c1
                  try clear p1
                  try clear q1
                  try clear hx1
                  try clear c2
                  try clear p2
                  try clear c3
                  try clear p3
                  try clear q3
                  try clear hx3
                  try clear c4
                  try clear p6
                  try clear c7
                  try clear c8
                  try clear c10
                  try clear c10b0
                  try clear c12
                  try clear c12b0
                  try clear p13
                  try clear q13
                  try clear hx13
                  try clear c14
                  try clear c14b0
                  try clear c14b1
                  try clear c16
                  try clear c17
                  try clear c20
                  try clear c21
                  try clear c23
                  try clear c24
                  try clear c27
                  try clear c28
                  try clear c29
                  try clear c31
                  try clear c31b0
                  try clear c33
                  try clear c34
                  try clear c36
                  try clear c36b0
                  try clear c37
                  try clear c37b0
                  try clear p38
                  try clear q38
                  try clear hx38
                  try clear c39
                  try clear c39b0
                  try clear c39b1
                  try clear c41
                  try clear c42
                  try clear c45
                  try clear c46
                  try clear hcz18_0
                  try clear hcz18_1
                  try clear hcz22_0
                  try clear hcz22_1
                  try clear hcz25_0
                  try clear hcz25_1
                  try clear hcz30_0
                  try clear hcz30_1
                  try clear hcz30_2
                  try clear hcz30_3
                  try clear hcz30_4
                  try clear hcz30_5
                  try clear hcz35_0
                  try clear hcz35_1
                  try clear hcz43_0
                  try clear hcz43_1
                  try clear hcz47_0
                  try clear hcz47_1
                  try clear hcz9_0
                  try clear hcz9_1
                  try clear hcz9_2
                  try clear hcz9_3
                  try clear hcz9_4
                  try clear hcz9_5
                  try clear hfz18_0
                  try clear hfz18_1
                  try clear hfz22_0
                  try clear hfz22_1
                  try clear hfz25_0
                  try clear hfz25_1
                  try clear hfz30_0
                  try clear hfz30_1
                  try clear hfz30_2
                  try clear hfz30_3
                  try clear hfz30_4
                  try clear hfz30_5
                  try clear hfz35_0
                  try clear hfz35_1
                  try clear hfz43_0
                  try clear hfz43_1
                  try clear hfz47_0
                  try clear hfz47_1
                  try clear hfz9_0
                  try clear hfz9_1
                  try clear hfz9_2
                  try clear hfz9_3
                  try clear hfz9_4
                  try clear hfz9_5
                  try clear p1
                  try clear p13
                  try clear p2
                  try clear p38
                  try clear p6
                  try clear q1
                  try clear q13
                  try clear q38
                  obtain ⟨kq, x55_31, rfl, HA, HJ31, HO_127003, BK124, BK125, BK126, HB⟩ := hcut
                  cases kq with
                  | zero => exact absurd HA.out (by simp [pat_set.j3])
                  | succ kj31 =>
                    have H := HA.out
                    clear HA
                    simp only [pat_set.j3] at H
                    by_cases c48 : x55_31 = true
                    · subst c48
                      have H1 : (if 0 ≤ x6_25 then (if x6_25 ≤ x6_3 then (if x6_3 ≤ (a0_0.size : Int) then (pat_set.l1 kj31 a1 x6_3 x6_25 a0_0 l0_1 91 0 (a0_0.extract (x6_25 : Int).toNat (x6_3 : Int).toNat) x127003_3 x127004_25 false) else (none)) else (none)) else (none)) = some (r1, r2, r3, r4, r5, r6, r7) := by rw [if_pos rfl] at H; exact H
                      clear H
                      have H := H1
                      clear H1
                      by_cases c49 : 0 ≤ x6_25
                      · rw [if_pos c49] at H
                        have c49b0 := eq_true c49
                        have c49b1 : decide (0 ≤ x6_25) = true := decide_eq_true c49
                        clear c49
                        by_cases c50 : x6_25 ≤ x6_3
                        · rw [if_pos c50] at H
                          have c50b0 := eq_true c50
                          have c50b1 : decide (x6_25 ≤ x6_3) = true := decide_eq_true c50
                          clear c50
                          by_cases c51 : x6_3 ≤ (a0_0.size : Int)
                          · rw [if_pos c51] at H
                            have c51b0 := eq_true c51
                            have c51b1 : decide (x6_3 ≤ (a0_0.size : Int)) = true := decide_eq_true c51
                            clear c51
                            have H' := Aside0.mk H
                            clear H
                            have hnb52 := NB124_125.out
                            have hnc52 := NB125_124.out
                            have hnb53 := NB124_126.out
                            have hnc53 := NB126_124.out
                            have hcz54_0 : wc.cell? ⟨gb124, 0, none⟩ = some (.string a0_0) := (blk_cell BK124.out 0).trans rfl
                            have hcz54_1 : wc.cell? ⟨gb124, 1, none⟩ = some (.slice A0_1 l0_1.length c0_1) := (blk_cell BK124.out 1).trans rfl
                            have hfz54_0 := blk_frozen BK124.out 0
                            have hfz54_1 := blk_frozen BK124.out 1
                            have hnb55 := NB126_125.out
                            have hnc55 := NB125_126.out
                            have hcz56_0 : wc.cell? ⟨gb126, 0, none⟩ = some (.int .u8 91) := (blk_cell BK126.out 0).trans rfl
                            have hcz56_1 : wc.cell? ⟨gb126, 1, none⟩ = some (.int .u8 0) := (blk_cell BK126.out 1).trans rfl
                            have hcz56_2 : wc.cell? ⟨gb126, 2, none⟩ = some (.string x127002_3) := (blk_cell BK126.out 2).trans rfl
                            have hcz56_3 : wc.cell? ⟨gb126, 3, none⟩ = some (u127003) := (blk_cell BK126.out 3).trans rfl
                            have hcz56_4 : wc.cell? ⟨gb126, 4, none⟩ = some (.bool x127004_25) := (blk_cell BK126.out 4).trans rfl
                            have hcz56_5 : wc.cell? ⟨gb126, 5, none⟩ = some (.bool false) := (blk_cell BK126.out 5).trans rfl
                            have hfz56_0 := blk_frozen BK126.out 0
                            have hfz56_1 := blk_frozen BK126.out 1
                            have hfz56_2 := blk_frozen BK126.out 2
                            have hfz56_3 := blk_frozen BK126.out 3
                            have hfz56_4 := blk_frozen BK126.out 4
                            have hfz56_5 := blk_frozen BK126.out 5
                            go_wp2
                            go_loopg [9] kj31 (fun kq v9 w' => ∃ (x9_5 : Int) (x127003_5 : List Bool) (u127003 : Value), v9 = .int .i64 x9_5 ∧ Aside0 (pat_set.l1 kq a1 x6_3 x9_5 a0_0 l0_1 91 0 (a0_0.extract (x6_25 : Int).toNat (x6_3 : Int).toNat) x127003_5 x127004_25 false = some (r1, r2, r3, r4, r5, r6, r7)) ∧ Aside0 (kq ≤ kj31) ∧ Aside0 (Kd.R Kd.bool 4 w' w.heap.size (fun _ => True) u127003 x127003_5) ∧ Aside0 (w'.heap[gb124]? = some (.cells #[.string a0_0, (.slice A0_1 l0_1.length c0_1)] 60 (0, 0))) ∧ Aside0 (w'.heap[gb125]? = some (.cells #[.int .u8 x126000_3, .int .u8 x126001_3, .string x126002_3, (.slice none 0 0), .bool x126004_3, .bool x126005_3] 199 (0, 0))) ∧ Aside0 (w'.heap[gb126]? = some (.cells #[.int .u8 91, .int .u8 0, .string (a0_0.extract (x6_25 : Int).toNat (x6_3 : Int).toNat), u127003, .bool x127004_25, .bool false] 199 (0, 0))) ∧ Aside0 (Below w.heap.size w w'))
                            case atStart => exact ⟨(x6_25), (x127003_3), (u127003), (by first | rfl | (simp; done) | (simp [*]; done)), H', ⟨Nat.le_refl _⟩, ⟨by (with_reducible repeat (first | apply Kd.R_alloc | apply Kd.R_drewN | apply Kd.R_drew)); exact Kd.R_mono (Kd.R_far (p := ⟨gb126, 2, none⟩) (Kd.R_types HO_127003.out BK126.out (by decide)) (fun _ hk => hk.2) (.string (a0_0.extract (x6_25 : Int).toNat (x6_3 : Int).toNat))) (fun _ hk => trivial)⟩, ⟨by (with_reducible repeat (first | refine blk_drewN ?_ _ | refine blk_drew ?_ | refine blk_alloc ?_ _)); refine blk_far ?_ NB124_126.out _; (with_reducible repeat (first | refine blk_drewN ?_ _ | refine blk_drew ?_ | refine blk_alloc ?_ _)); exact BK124.out⟩, ⟨by (with_reducible repeat (first | refine blk_drewN ?_ _ | refine blk_drew ?_ | refine blk_alloc ?_ _)); refine blk_far ?_ NB125_126.out _; (with_reducible repeat (first | refine blk_drewN ?_ _ | refine blk_drew ?_ | refine blk_alloc ?_ _)); exact BK125.out⟩, ⟨by (with_reducible repeat (first | refine blk_drewN ?_ _ | refine blk_drew ?_ | refine blk_alloc ?_ _)); refine blk_put (cs := #[.int .u8 91, .int .u8 0, .string x127002_3, u127003, .bool x127004_25, .bool false]) ?_ 2 _ rfl; (with_reducible repeat (first | refine blk_drewN ?_ _ | refine blk_drew ?_ | refine blk_alloc ?_ _)); exact BK126.out⟩, ⟨by repeat (first | (with_reducible first | exact HB.out | apply below_alloc | apply pw_below_drewN | apply below_drew1 | refine below_set ?_ GE124.out | refine below_set ?_ GE125.out | refine below_set ?_ GE126.out) | exact HB.out)⟩⟩
                            case round =>
                              clear H'
                              try clear c1
                              try clear p1
                              try clear q1
                              try clear hx1
                              try clear c2
                              try clear p2
                              try clear c3
                              try clear p3
                              try clear q3
                              try clear hx3
                              try clear c4
                              try clear c5
                              try clear p6
                              try clear c7
                              try clear c8
                              try clear c10
                              try clear c10b0
                              try clear c12
                              try clear c12b0
                              try clear p13
                              try clear q13
                              try clear hx13
                              try clear c14
                              try clear c14b0
                              try clear c14b1
                              try clear c16
                              try clear c17
                              try clear c20
                              try clear c21
                              try clear c23
                              try clear c24
                              try clear c27
                              try clear c28
                              try clear c29
                              try clear c31
                              try clear c31b0
                              try clear c33
                              try clear c34
                              try clear c36
                              try clear c36b0
                              try clear c37
                              try clear c37b0
                              try clear p38
                              try clear q38
                              try clear hx38
                              try clear c39
                              try clear c39b0
                              try clear c39b1
                              try clear c41
                              try clear c42
                              try clear c45
                              try clear c46
                              try clear c48
                              try clear c49
                              try clear c49b0
                              try clear c49b1
                              try clear c50
                              try clear c50b0
                              try clear c50b1
                              try clear c51
                              try clear c51b0
                              try clear c51b1
                              try clear c52
                              try clear c53
                              try clear c55
                              try clear hcz18_0
                              try clear hcz18_1
                              try clear hcz22_0
                              try clear hcz22_1
                              try clear hcz25_0
                              try clear hcz25_1
                              try clear hcz30_0
                              try clear hcz30_1
                              try clear hcz30_2
                              try clear hcz30_3
                              try clear hcz30_4
                              try clear hcz30_5
                              try clear hcz35_0
                              try clear hcz35_1
                              try clear hcz43_0
                              try clear hcz43_1
                              try clear hcz47_0
                              try clear hcz47_1
                              try clear hcz54_0
                              try clear hcz54_1
                              try clear hcz56_0
                              try clear hcz56_1
                              try clear hcz56_2
                              try clear hcz56_3
                              try clear hcz56_4
                              try clear hcz56_5
                              try clear hcz9_0
                              try clear hcz9_1
                              try clear hcz9_2
                              try clear hcz9_3
                              try clear hcz9_4
                              try clear hcz9_5
                              try clear hfz18_0
                              try clear hfz18_1
                              try clear hfz22_0
                              try clear hfz22_1
                              try clear hfz25_0
                              try clear hfz25_1
                              try clear hfz30_0
                              try clear hfz30_1
                              try clear hfz30_2
                              try clear hfz30_3
                              try clear hfz30_4
                              try clear hfz30_5
                              try clear hfz35_0
                              try clear hfz35_1
                              try clear hfz43_0
                              try clear hfz43_1
                              try clear hfz47_0
                              try clear hfz47_1
                              try clear hfz54_0
                              try clear hfz54_1
                              try clear hfz56_0
                              try clear hfz56_1
                              try clear hfz56_2
                              try clear hfz56_3
                              try clear hfz56_4
                              try clear hfz56_5
                              try clear hfz9_0
                              try clear hfz9_1
                              try clear hfz9_2
                              try clear hfz9_3
                              try clear hfz9_4
                              try clear hfz9_5
                              try clear p1
                              try clear p13
                              try clear p2
                              try clear p3
                              try clear p38
                              try clear p6
                              try clear q1
                              try clear q13
                              try clear q3
                              try clear q38
                              obtain ⟨x9_5, x127003_5, u127003, rfl, HA, HK5, HO_127003, BK124, BK125, BK126, HB⟩ := hrel
                              cases gk with
                              | zero => exact absurd HA.out (by simp [pat_set.l1])
                              | succ k5 =>
                                have H := HA.out
                                clear HA
                                simp only [pat_set.l1] at H
                                by_cases c57 : x9_5 < x6_3
                                · rw [if_pos c57] at H
                                  have c57b0 : decide (x9_5 < x6_3) = true := decide_eq_true c57
                                  clear c57
                                  replace H := Option.bind_eq_some_iff.mp H
                                  obtain ⟨t129, A580, H⟩ := H
                                  replace H : (if x127003_5.length < 140737488355328 then (pat_set.l1 k5 a1 x6_3 (wrap64 (x9_5 + 1)) a0_0 l0_1 91 0 (a0_0.extract (x6_25 : Int).toNat (x6_3 : Int).toNat) (x127003_5 ++ [t129]) x127004_25 false) else (none)) = some (r1, r2, r3, r4, r5, r6, r7) := H
                                  have A58 := Aside0.mk A580
                                  clear A580
                                  by_cases c59 : x127003_5.length < 140737488355328
                                  · rw [if_pos c59] at H
                                    have LMc59 := Aside0.mk c59
                                    clear c59
                                    obtain ⟨y130, hy130⟩ : ∃ y_ : List Bool, y_ = (x127003_5 ++ [t129]) := ⟨_, rfl⟩
                                    replace H : (pat_set.l1 k5 a1 x6_3 (wrap64 (x9_5 + 1)) a0_0 l0_1 91 0 (a0_0.extract (x6_25 : Int).toNat (x6_3 : Int).toNat) y130 x127004_25 false) = some (r1, r2, r3, r4, r5, r6, r7) := by first | (rw [hy130]; with_reducible exact H) | (have H2_ := (Option.bind_some _ _).symm.trans H; rw [hy130]; with_reducible exact H2_) | (have H2_ := (Option.bind_some _ _).symm.trans H; with_reducible exact H2_) | with_reducible exact H | (rw [hy130]; exact H) | exact H
                                    have Ny130 := Aside0.mk hy130
                                    clear hy130
                                    have H' := Aside0.mk H
                                    clear H
                                    try go_wp2
                                    have n0_ := Aside0.mk (Kd.R_drew HO_127003.out)
                                    have n1_ := Aside0.mk (blk_drew BK124.out)
                                    have n2_ := Aside0.mk (blk_drew BK125.out)
                                    have n3_ := Aside0.mk (blk_drew BK126.out)
                                    have n4_ := Aside0.mk (below_drew1 HB.out)
                                    clear HO_127003
                                    clear BK124
                                    clear BK125
                                    clear BK126
                                    clear HB
                                    have HO_127003 := n0_
                                    have BK124 := n1_
                                    have BK125 := n2_
                                    have BK126 := n3_
                                    have HB := n4_
                                    clear n0_ n1_ n2_ n3_ n4_
                                    refine start_ (n := 9) (S := fun w' => w'.cell? ⟨gb126, 0, none⟩ = some (.int .u8 91) ∧ w'.cell? ⟨gb126, 1, none⟩ = some (.int .u8 0) ∧ w'.cell? ⟨gb126, 2, none⟩ = some (.string (a0_0.extract (x6_25 : Int).toNat (x6_3 : Int).toNat)) ∧ w'.cell? ⟨gb126, 3, none⟩ = some (u127003) ∧ w'.cell? ⟨gb126, 4, none⟩ = some (.bool x127004_25) ∧ w'.cell? ⟨gb126, 5, none⟩ = some (.bool false) ∧ w'.cell? ⟨gb124, 0, none⟩ = some (.string a0_0) ∧ w'.cell? ⟨gb124, 1, none⟩ = some (.slice A0_1 l0_1.length c0_1)) (ds := [8]) #[false, false, false, false, false, false, false, false, false] (by kernel_rfl) rfl rfl ⟨(blk_cell BK126.out 0).trans rfl, (blk_cell BK126.out 1).trans rfl, (blk_cell BK126.out 2).trans rfl, (blk_cell BK126.out 3).trans rfl, (blk_cell BK126.out 4).trans rfl, (blk_cell BK126.out 5).trans rfl, (blk_cell BK124.out 0).trans rfl, (blk_cell BK124.out 1).trans rfl⟩ (fun hHeld => ?_); refine with_tabW pat_set.tab14 pat_set.bits14 (fun HT_ HW_ => ?_)
                                    generalize wr.drew = w60 at HO_127003 BK124 BK125 BK126 HB hHeld ⊢
                                    refine pure_ (i := 0) (N := some 68) (v := ?_) (a' := ?_) #[true, false, false, false, false, false, false, false, false] rfl rfl (any_of HT_.out (by kernel_rfl)) (fun _ _ _ h => h) (Or.inl ⟨by rfl, ?_⟩) ?_ ?_
                                    rotate_left
                                    · intro w'
                                      go_simp
                                      with_reducible rfl
                                    rotate_left
                                    · simp only [Act.put, List.setIfInBounds_toArray, List.set_cons_zero, List.set_cons_succ, i64_w, i32_w]
                                      rfl
                                    refine pure_ (i := 3) (N := some 71) (v := ?_) (a' := ?_) #[true, false, false, true, false, false, false, false, false] rfl rfl (any_of HT_.out (by kernel_rfl)) (fun _ _ _ h => h) (Or.inl ⟨by rfl, ?_⟩) ?_ ?_
                                    rotate_left
                                    · intro w'
                                      go_simp
                                      with_reducible rfl
                                    rotate_left
                                    · simp only [Act.put, List.setIfInBounds_toArray, List.set_cons_zero, List.set_cons_succ, i64_w, i32_w]
                                      rfl
                                    refine take_ (i := 1) (N := some 69) (v := ?_) (a' := ?_) #[true, true, false, true, false, false, false, false, false] rfl rfl (take_ofW HT_.out HW_.out (by kernel_rfl)) (fun _ _ _ h => h) (Or.inl ⟨by rfl, ?_⟩) hHeld ?_ ?_
                                    rotate_left
                                    · rintro w' ⟨s0, s1, s2, s3, s4, s5, s6, s7⟩
                                      go_simp
                                      with_reducible rfl
                                    rotate_left
                                    · simp only [Act.put, List.setIfInBounds_toArray, List.set_cons_zero, List.set_cons_succ, i64_w, i32_w]
                                      rfl
                                    refine take_ (i := 2) (N := some 70) (v := ?_) (a' := ?_) #[true, true, true, true, false, false, false, false, false] rfl rfl (take_ofW HT_.out HW_.out (by kernel_rfl)) (fun _ _ _ h => h) (Or.inl ⟨by rfl, ?_⟩) hHeld ?_ ?_
                                    rotate_left
                                    · rintro w' ⟨s0, s1, s2, s3, s4, s5, s6, s7⟩
                                      go_simp
                                      with_reducible rfl
                                    rotate_left
                                    · simp only [Act.put, List.setIfInBounds_toArray, List.set_cons_zero, List.set_cons_succ, i64_w, i32_w]
                                      rfl
                                    refine one_ (i := 4) (N := some 72) #[true, true, true, true, true, false, false, false, false] rfl rfl (one_of HT_.out (by kernel_rfl)) (by decide) (fun K hK => ?_)
                                    refine goes_ Try.func173 (by kernel_rfl) rfl #[.agg #[.string a0_0, .slice A0_1 l0_1.length c0_1], .int .i64 x9_5] (by rfl) rfl rfl (by (try simp only [List.map_toArray, List.map_cons, List.map_nil]); first | done | rfl | (simp only [List.length_drop, List.length_take]; rfl)) ?_
                                    with_reducible refine (pat_live.calls a0_0 _ _ l0_1 x9_5 t129 _ ?side1 ?side2 A58.out).mono ?_
                                    (case side1 => repeat (first | exact (Kd.C_below HR0_1.out HB.out) | (with_reducible refine Kd.C_alloc ?_ _) | (with_reducible refine Kd.C_drewN ?_ _) | (with_reducible refine Kd.C_drew ?_)))
                                    (case side2 => exact HC0_1.out)
                                    rintro e w61 ⟨rfl, hb⟩
                                    refine ⟨_, rfl, ?_⟩
                                    have n0_ := Aside0.mk (Kd.R_below (by (with_reducible repeat (first | apply Kd.R_alloc | apply Kd.R_drewN | apply Kd.R_drew)); exact HO_127003.out) hb)
                                    have n1_ := Aside0.mk (blk_below (g := gb124) (o := .cells #[.string a0_0, .slice A0_1 l0_1.length c0_1] 60 (0, 0)) (by (with_reducible repeat (first | refine blk_drewN ?_ _ | refine blk_drew ?_ | refine blk_alloc ?_ _)); exact BK124.out) hb)
                                    have n2_ := Aside0.mk (blk_below (g := gb125) (o := .cells #[.int .u8 x126000_3, .int .u8 x126001_3, .string x126002_3, .slice none 0 0, .bool x126004_3, .bool x126005_3] 199 (0, 0)) (by (with_reducible repeat (first | refine blk_drewN ?_ _ | refine blk_drew ?_ | refine blk_alloc ?_ _)); exact BK125.out) hb)
                                    have n3_ := Aside0.mk (blk_below (g := gb126) (o := .cells #[.int .u8 91, .int .u8 0, .string (a0_0.extract (x6_25 : Int).toNat (x6_3 : Int).toNat), u127003, .bool x127004_25, .bool false] 199 (0, 0)) (by (with_reducible repeat (first | refine blk_drewN ?_ _ | refine blk_drew ?_ | refine blk_alloc ?_ _)); exact BK126.out) hb)
                                    have n4_ := Aside0.mk (below_step (by repeat (first | (with_reducible first | exact HB.out | apply below_alloc | apply pw_below_drewN | apply below_drew1 | refine below_set ?_ GE124.out | refine below_set ?_ GE125.out | refine below_set ?_ GE126.out) | exact HB.out)) hb)
                                    clear HO_127003
                                    clear BK124
                                    clear BK125
                                    clear BK126
                                    clear HB
                                    have HO_127003 := n0_
                                    have BK124 := n1_
                                    have BK125 := n2_
                                    have BK126 := n3_
                                    have HB := n4_
                                    clear n0_ n1_ n2_ n3_ n4_
                                    (try clear hb)
                                    (try clear hb2)
                                    (try clear hk)
                                    (try clear hi)
                                    refine hK.out _ _ ⟨(blk_cell BK126.out 0).trans rfl, (blk_cell BK126.out 1).trans rfl, (blk_cell BK126.out 2).trans rfl, (blk_cell BK126.out 3).trans rfl, (blk_cell BK126.out 4).trans rfl, (blk_cell BK126.out 5).trans rfl, (blk_cell BK124.out 0).trans rfl, (blk_cell BK124.out 1).trans rfl⟩ (fun hHeld => ?_)
                                    clear hK K
                                    refine norm_ (a' := ?_) ?_ ?_
                                    rotate_left
                                    · show Act.put _ (some 72) _ = _
                                      simp only [Act.put, List.setIfInBounds_toArray, List.set_cons_zero, List.set_cons_succ, i64_w, i32_w]
                                      rfl
                                    refine one_ (i := 5) (N := some 73) #[true, true, true, true, true, true, false, false, false] rfl rfl (one_of HT_.out (by kernel_rfl)) (by decide) (fun K hK => ?_)
                                    refine value_ (w1 := ?_) (v := ?_) (by rfl) rfl ?_ ?_
                                    rotate_left 2
                                    · go_simp
                                      constructor
                                      · rfl
                                      · rfl
                                    refine hK.out _ _ ⟨(blk_cell (blk_alloc BK126.out _) 0).trans rfl, (blk_cell (blk_alloc BK126.out _) 1).trans rfl, (blk_cell (blk_alloc BK126.out _) 2).trans rfl, (blk_cell (blk_alloc BK126.out _) 3).trans rfl, (blk_cell (blk_alloc BK126.out _) 4).trans rfl, (blk_cell (blk_alloc BK126.out _) 5).trans rfl, (blk_cell (blk_alloc BK124.out _) 0).trans rfl, (blk_cell (blk_alloc BK124.out _) 1).trans rfl⟩ (fun hHeld => ?_)
                                    clear hK K
                                    refine norm_ (a' := ?_) ?_ ?_
                                    rotate_left
                                    · show Act.put _ (some 73) _ = _
                                      simp only [Act.put, List.setIfInBounds_toArray, List.set_cons_zero, List.set_cons_succ, i64_w, i32_w]
                                      rfl
                                    refine one_ (i := 6) (N := some 74) #[true, true, true, true, true, true, true, false, false] rfl rfl (one_of HT_.out (by kernel_rfl)) (by decide) (fun K hK => ?_)
                                    refine Kd.R_append_step Kd.bool (w0 := w) w.heap.size (by rfl) (.tmp 69) (.tmp 73) 58 4 (.bool false) 1 rfl Try.underlying58 info4 rfl (by decide) (by omega) u127003 x127003_5 t129 [.bool t129] (fun _ => True) (fun _ => False) rfl rfl ?aP (fun _ hk => hk.elim) ?aF ?aO ?aB ?aS ?aL ?_
                                    (case aP => exact rfl)
                                    (case aB => exact (by repeat (first | (with_reducible first | exact HB.out | apply below_alloc | apply pw_below_drewN | apply below_drew1 | refine below_set ?_ GE124.out | refine below_set ?_ GE125.out | refine below_set ?_ GE126.out) | exact HB.out)))
                                    (case aF => exact (fun _ _ => trivial))
                                    (case aO => exact (by (with_reducible repeat (first | apply Kd.R_alloc | apply Kd.R_drewN | apply Kd.R_drew)); exact HO_127003.out))
                                    (case aS => exact (below_size (by repeat (first | (with_reducible first | exact HB.out | apply below_alloc | apply pw_below_drewN | apply below_drew1 | refine below_set ?_ GE124.out | refine below_set ?_ GE125.out | refine below_set ?_ GE126.out) | exact HB.out))))
                                    (case aL => have := LMc59.out; omega)
                                    intro v131 w62 ho hb hg hat
                                    rw [← Ny130.out] at ho
                                    have n0_ := Aside0.mk (blk_grown (g := gb124) (o := .cells #[.string a0_0, .slice A0_1 l0_1.length c0_1] 60 (0, 0)) (by (with_reducible repeat (first | refine blk_drewN ?_ _ | refine blk_drew ?_ | refine blk_alloc ?_ _)); exact BK124.out) hg (Kd.R_ne HO_127003.out BK124.out (by decide)))
                                    have n1_ := Aside0.mk (blk_grown (g := gb125) (o := .cells #[.int .u8 x126000_3, .int .u8 x126001_3, .string x126002_3, .slice none 0 0, .bool x126004_3, .bool x126005_3] 199 (0, 0)) (by (with_reducible repeat (first | refine blk_drewN ?_ _ | refine blk_drew ?_ | refine blk_alloc ?_ _)); exact BK125.out) hg (Kd.R_ne HO_127003.out BK125.out (by decide)))
                                    have n2_ := Aside0.mk (blk_grown (g := gb126) (o := .cells #[.int .u8 91, .int .u8 0, .string (a0_0.extract (x6_25 : Int).toNat (x6_3 : Int).toNat), u127003, .bool x127004_25, .bool false] 199 (0, 0)) (by (with_reducible repeat (first | refine blk_drewN ?_ _ | refine blk_drew ?_ | refine blk_alloc ?_ _)); exact BK126.out) hg (Kd.R_ne HO_127003.out BK126.out (by decide)))
                                    have n3_ := Aside0.mk (hb)
                                    have n4_ := Aside0.mk (ho)
                                    clear BK124
                                    clear BK125
                                    clear BK126
                                    clear HB
                                    clear HO_127003
                                    have BK124 := n0_
                                    have BK125 := n1_
                                    have BK126 := n2_
                                    have HB := n3_
                                    have HO132 := n4_
                                    clear n0_ n1_ n2_ n3_ n4_
                                    clear ho hb hg hat
                                    obtain ⟨Ao63, co63, eo63⟩ := Kd.R_slice HO132.out
                                    (first | subst eo63 | (injection eo63 with f1_ f2_ f3_; have f4_ := f1_.symm; have f5_ := f3_.symm; clear f1_ f2_ f3_; subst f4_; subst f5_))
                                    refine hK.out _ _ ⟨(blk_cell BK126.out 0).trans rfl, (blk_cell BK126.out 1).trans rfl, (blk_cell BK126.out 2).trans rfl, (blk_cell BK126.out 3).trans rfl, (blk_cell BK126.out 4).trans rfl, (blk_cell BK126.out 5).trans rfl, (blk_cell BK124.out 0).trans rfl, (blk_cell BK124.out 1).trans rfl⟩ (fun hHeld => ?_)
                                    clear hK K
                                    refine norm_ (a' := ?_) ?_ ?_
                                    rotate_left
                                    · show Act.put _ (some 74) _ = _
                                      simp only [Act.put, List.setIfInBounds_toArray, List.set_cons_zero, List.set_cons_succ, i64_w, i32_w]
                                      rfl
                                    refine pure_ (i := 7) (N := some 75) (v := ?_) (a' := ?_) #[true, true, true, true, true, true, true, true, false] rfl rfl (any_of HT_.out (by kernel_rfl)) (fun _ _ _ h => h) (Or.inl ⟨by rfl, ?_⟩) ?_ ?_
                                    rotate_left
                                    · intro w'
                                      go_simp
                                      with_reducible rfl
                                    rotate_left
                                    · simp only [Act.put, List.setIfInBounds_toArray, List.set_cons_zero, List.set_cons_succ, i64_w, i32_w]
                                      rfl
                                    refine last_ (i := 8) (N := none) #[true, true, true, true, true, true, true, true, true] rfl rfl (one_of HT_.out (by kernel_rfl)) (by decide) (fun K hK => ?_)
                                    have hs64 : w62.cell? ⟨gb126, 3, none⟩ = some (u127003) := (blk_cell BK126.out 3).trans rfl
                                    have hfs64 := blk_frozen BK126.out 3
                                    have hns64_0 := NB124_126.out
                                    have hns64_1 := NB125_126.out
                                    have hms64_0 := NB126_124.out
                                    have hms64_1 := NB126_125.out
                                    refine skip_ (w1 := ?_) (by rfl) rfl ?_ ?_
                                    rotate_left
                                    · go_simp
                                      rfl
                                    refine hK.out _ _ ?_
                                    clear hK K
                                    refine done_ (done_of HT_.out (by kernel_rfl)) ?_
                                    try go_wp2
                                    go_roundg k5
                                    case measure => have := HJ2.out; have := HJ25.out; have := HK3.out; have := HJ31.out; have := HK5.out; omega
                                    case rel => exact ⟨(wrap64 (x9_5 + 1)), (y130), (.slice Ao63 y130.length co63), (by first | rfl | (simp; done) | (simp [*]; done)), H', ⟨by have := HJ2.out; have := HJ25.out; have := HK3.out; have := HJ31.out; have := HK5.out; omega⟩, ⟨by (with_reducible repeat (first | apply Kd.R_alloc | apply Kd.R_drewN | apply Kd.R_drew)); exact Kd.R_mono (Kd.R_far (p := ⟨gb126, 3, none⟩) (Kd.R_types HO132.out BK126.out (by decide)) (fun _ hk => hk.2) (.slice Ao63 y130.length co63)) (fun _ hk => trivial)⟩, ⟨by (with_reducible repeat (first | refine blk_drewN ?_ _ | refine blk_drew ?_ | refine blk_alloc ?_ _)); refine blk_far ?_ NB124_126.out _; (with_reducible repeat (first | refine blk_drewN ?_ _ | refine blk_drew ?_ | refine blk_alloc ?_ _)); exact BK124.out⟩, ⟨by (with_reducible repeat (first | refine blk_drewN ?_ _ | refine blk_drew ?_ | refine blk_alloc ?_ _)); refine blk_far ?_ NB125_126.out _; (with_reducible repeat (first | refine blk_drewN ?_ _ | refine blk_drew ?_ | refine blk_alloc ?_ _)); exact BK125.out⟩, ⟨by (with_reducible repeat (first | refine blk_drewN ?_ _ | refine blk_drew ?_ | refine blk_alloc ?_ _)); refine blk_put (cs := #[.int .u8 91, .int .u8 0, .string (a0_0.extract (x6_25 : Int).toNat (x6_3 : Int).toNat), u127003, .bool x127004_25, .bool false]) ?_ 3 _ rfl; (with_reducible repeat (first | refine blk_drewN ?_ _ | refine blk_drew ?_ | refine blk_alloc ?_ _)); exact BK126.out⟩, ⟨by repeat (first | (with_reducible first | exact HB.out | apply below_alloc | apply pw_below_drewN | apply below_drew1 | refine below_set ?_ GE124.out | refine below_set ?_ GE125.out | refine below_set ?_ GE126.out) | exact HB.out)⟩⟩
                                  · rw [if_neg c59] at H
                                    exact absurd H (by simp)
                                · rw [if_neg c57] at H
                                  have c57b0 : decide (x9_5 < x6_3) = false := decide_eq_false c57
                                  clear c57
                                  simp only [Option.some.injEq, Prod.mk.injEq] at H
                                  obtain ⟨rfl, rfl, rfl, rfl, rfl, rfl, rfl⟩ := H
                                  have hnb65 := NB126_124.out
                                  have hnc65 := NB124_126.out
                                  have hnb66 := NB126_125.out
                                  have hnc66 := NB125_126.out
                                  have hcz67_0 : wr.cell? ⟨gb126, 0, none⟩ = some (.int .u8 91) := (blk_cell BK126.out 0).trans rfl
                                  have hcz67_1 : wr.cell? ⟨gb126, 1, none⟩ = some (.int .u8 0) := (blk_cell BK126.out 1).trans rfl
                                  have hcz67_2 : wr.cell? ⟨gb126, 2, none⟩ = some (.string (a0_0.extract (x6_25 : Int).toNat (x6_3 : Int).toNat)) := (blk_cell BK126.out 2).trans rfl
                                  have hcz67_3 : wr.cell? ⟨gb126, 3, none⟩ = some (u127003) := (blk_cell BK126.out 3).trans rfl
                                  have hcz67_4 : wr.cell? ⟨gb126, 4, none⟩ = some (.bool x127004_25) := (blk_cell BK126.out 4).trans rfl
                                  have hcz67_5 : wr.cell? ⟨gb126, 5, none⟩ = some (.bool false) := (blk_cell BK126.out 5).trans rfl
                                  have hfz67_0 := blk_frozen BK126.out 0
                                  have hfz67_1 := blk_frozen BK126.out 1
                                  have hfz67_2 := blk_frozen BK126.out 2
                                  have hfz67_3 := blk_frozen BK126.out 3
                                  have hfz67_4 := blk_frozen BK126.out 4
                                  have hfz67_5 := blk_frozen BK126.out 5
                                  have hnb68 := NB125_124.out
                                  have hnc68 := NB124_125.out
                                  have hcz69_0 : wr.cell? ⟨gb125, 0, none⟩ = some (.int .u8 x126000_3) := (blk_cell BK125.out 0).trans rfl
                                  have hcz69_1 : wr.cell? ⟨gb125, 1, none⟩ = some (.int .u8 x126001_3) := (blk_cell BK125.out 1).trans rfl
                                  have hcz69_2 : wr.cell? ⟨gb125, 2, none⟩ = some (.string x126002_3) := (blk_cell BK125.out 2).trans rfl
                                  have hcz69_3 : wr.cell? ⟨gb125, 3, none⟩ = some (.slice none 0 0) := (blk_cell BK125.out 3).trans rfl
                                  have hcz69_4 : wr.cell? ⟨gb125, 4, none⟩ = some (.bool x126004_3) := (blk_cell BK125.out 4).trans rfl
                                  have hcz69_5 : wr.cell? ⟨gb125, 5, none⟩ = some (.bool x126005_3) := (blk_cell BK125.out 5).trans rfl
                                  have hfz69_0 := blk_frozen BK125.out 0
                                  have hfz69_1 := blk_frozen BK125.out 1
                                  have hfz69_2 := blk_frozen BK125.out 2
                                  have hfz69_3 := blk_frozen BK125.out 3
                                  have hfz69_4 := blk_frozen BK125.out 4
                                  have hfz69_5 := blk_frozen BK125.out 5
                                  obtain ⟨Ao70, co70, eo70⟩ := Kd.R_slice HO_127003.out
                                  subst eo70
                                  go_wp2
                                  refine bodyPost_ret (results_ct rfl _ _ gb125 199 #[.int .u8 91, .int .u8 0, .string (a0_0.extract (x6_25 : Int).toNat (x6_3 : Int).toNat), .slice Ao70 x127003_5.length co70, .bool x127004_25, .bool false] (0, 0) _ rfl (by (with_reducible repeat (first | refine blk_drewN ?_ _ | refine blk_drew ?_ | refine blk_alloc ?_ _)); refine blk_put (cs := #[.int .u8 91, .int .u8 0, .string (a0_0.extract (x6_25 : Int).toNat (x6_3 : Int).toNat), .slice Ao70 x127003_5.length co70, .bool x127004_25, .bool x126005_3]) ?_ 5 _ rfl; (with_reducible repeat (first | refine blk_drewN ?_ _ | refine blk_drew ?_ | refine blk_alloc ?_ _)); refine blk_put (cs := #[.int .u8 91, .int .u8 0, .string (a0_0.extract (x6_25 : Int).toNat (x6_3 : Int).toNat), .slice Ao70 x127003_5.length co70, .bool x126004_3, .bool x126005_3]) ?_ 4 _ rfl; (with_reducible repeat (first | refine blk_drewN ?_ _ | refine blk_drew ?_ | refine blk_alloc ?_ _)); refine blk_put (cs := #[.int .u8 91, .int .u8 0, .string (a0_0.extract (x6_25 : Int).toNat (x6_3 : Int).toNat), .slice none 0 0, .bool x126004_3, .bool x126005_3]) ?_ 3 _ rfl; (with_reducible repeat (first | refine blk_drewN ?_ _ | refine blk_drew ?_ | refine blk_alloc ?_ _)); refine blk_put (cs := #[.int .u8 91, .int .u8 0, .string x126002_3, .slice none 0 0, .bool x126004_3, .bool x126005_3]) ?_ 2 _ rfl; (with_reducible repeat (first | refine blk_drewN ?_ _ | refine blk_drew ?_ | refine blk_alloc ?_ _)); refine blk_put (cs := #[.int .u8 91, .int .u8 x126001_3, .string x126002_3, .slice none 0 0, .bool x126004_3, .bool x126005_3]) ?_ 1 _ rfl; (with_reducible repeat (first | refine blk_drewN ?_ _ | refine blk_drew ?_ | refine blk_alloc ?_ _)); refine blk_put (cs := #[.int .u8 x126000_3, .int .u8 x126001_3, .string x126002_3, .slice none 0 0, .bool x126004_3, .bool x126005_3]) ?_ 0 _ rfl; (with_reducible repeat (first | refine blk_drewN ?_ _ | refine blk_drew ?_ | refine blk_alloc ?_ _)); exact BK125.out) Try.underlying199 rfl (by kernel_rfl)) rfl ?_
                                  exact ⟨_, by first | rfl | (simp [errW_none, errW_some] <;> rfl) | (simp [*, errW_none, errW_some] <;> rfl), by (with_reducible repeat (first | apply Kd.R_alloc | apply Kd.R_drewN | apply Kd.R_drew)); exact Kd.R_mono (Kd.R_far (p := ⟨gb125, 5, none⟩) (Kd.R_far (p := ⟨gb125, 4, none⟩) (Kd.R_far (p := ⟨gb125, 3, none⟩) (Kd.R_far (p := ⟨gb125, 2, none⟩) (Kd.R_far (p := ⟨gb125, 1, none⟩) (Kd.R_far (p := ⟨gb125, 0, none⟩) (Kd.R_types HO_127003.out BK125.out (by decide)) (fun _ hk => hk.2) (.int .u8 91)) (fun _ hk => hk.2) (.int .u8 0)) (fun _ hk => hk.2) (.string (a0_0.extract (x6_25 : Int).toNat (x6_3 : Int).toNat))) (fun _ hk => hk.2) (.slice Ao70 x127003_5.length co70)) (fun _ hk => hk.2) (.bool x127004_25)) (fun _ hk => hk.2) (.bool false)) (fun _ hk => trivial), by repeat (first | (with_reducible first | exact HB.out | apply below_alloc | apply pw_below_drewN | apply below_drew1 | refine below_set ?_ GE124.out | refine below_set ?_ GE125.out | refine below_set ?_ GE126.out) | exact HB.out)⟩
                          · rw [if_neg c51] at H
                            exact absurd H (by simp)
                        · rw [if_neg c50] at H
                          exact absurd H (by simp)
                      · rw [if_neg c49] at H
                        exact absurd H (by simp)
                    · replace c48 := Bool.eq_false_iff.mpr c48
                      subst c48
                      have H1 : (pat_set.l0 kj31 a1 (wrap64 (x6_3 + 1)) x6_25 a0_0 l0_1 91 0 x127002_3 x127003_3 x127004_25 false) = some (r1, r2, r3, r4, r5, r6, r7) := by rw [if_neg (show ¬ (false = true) by decide)] at H; exact H
                      clear H
                      have H := H1
                      clear H1
                      have H' := Aside0.mk H
                      clear H
                      go_wp2
                      go_roundg kj31
                      case measure => have := HJ2.out; have := HJ25.out; have := HK3.out; have := HJ31.out; omega
                      case rel => exact ⟨(wrap64 (x6_3 + 1)), (x126000_3), (x126001_3), (x126002_3), (x126004_3), (x126005_3), (x127002_3), (x127003_3), (u127003), (by first | rfl | (simp; done) | (simp [*]; done)), H', ⟨by have := HJ2.out; have := HJ25.out; have := HK3.out; have := HJ31.out; omega⟩, ⟨by (with_reducible repeat (first | apply Kd.R_alloc | apply Kd.R_drewN | apply Kd.R_drew)); exact HO_127003.out⟩, ⟨by (with_reducible repeat (first | refine blk_drewN ?_ _ | refine blk_drew ?_ | refine blk_alloc ?_ _)); exact BK124.out⟩, ⟨by (with_reducible repeat (first | refine blk_drewN ?_ _ | refine blk_drew ?_ | refine blk_alloc ?_ _)); exact BK125.out⟩, ⟨by (with_reducible repeat (first | refine blk_drewN ?_ _ | refine blk_drew ?_ | refine blk_alloc ?_ _)); exact BK126.out⟩, ⟨by repeat (first | (with_reducible first | exact HB.out | apply below_alloc | apply pw_below_drewN | apply below_drew1 | refine below_set ?_ GE124.out | refine below_set ?_ GE125.out | refine below_set ?_ GE126.out) | exact HB.out)⟩⟩
              · rw [if_neg c31] at H
                have c31b0 : decide (x6_3 < (a0_0.size : Int)) = false := decide_eq_false c31
                clear c31
                simp only [Option.some.injEq, Prod.mk.injEq] at H
                obtain ⟨rfl, rfl, rfl, rfl, rfl, rfl, rfl⟩ := H
                have hnb71 := NB124_125.out
                have hnc71 := NB125_124.out
                have hnb72 := NB124_126.out
                have hnc72 := NB126_124.out
                have hcz73_0 : wr.cell? ⟨gb124, 0, none⟩ = some (.string a0_0) := (blk_cell BK124.out 0).trans rfl
                have hcz73_1 : wr.cell? ⟨gb124, 1, none⟩ = some (.slice A0_1 l0_1.length c0_1) := (blk_cell BK124.out 1).trans rfl
                have hfz73_0 := blk_frozen BK124.out 0
                have hfz73_1 := blk_frozen BK124.out 1
                have hnb74 := NB125_126.out
                have hnc74 := NB126_125.out
                have hcz75_0 : wr.cell? ⟨gb125, 0, none⟩ = some (.int .u8 x126000_3) := (blk_cell BK125.out 0).trans rfl
                have hcz75_1 : wr.cell? ⟨gb125, 1, none⟩ = some (.int .u8 x126001_3) := (blk_cell BK125.out 1).trans rfl
                have hcz75_2 : wr.cell? ⟨gb125, 2, none⟩ = some (.string x126002_3) := (blk_cell BK125.out 2).trans rfl
                have hcz75_3 : wr.cell? ⟨gb125, 3, none⟩ = some (.slice none 0 0) := (blk_cell BK125.out 3).trans rfl
                have hcz75_4 : wr.cell? ⟨gb125, 4, none⟩ = some (.bool x126004_3) := (blk_cell BK125.out 4).trans rfl
                have hcz75_5 : wr.cell? ⟨gb125, 5, none⟩ = some (.bool x126005_3) := (blk_cell BK125.out 5).trans rfl
                have hfz75_0 := blk_frozen BK125.out 0
                have hfz75_1 := blk_frozen BK125.out 1
                have hfz75_2 := blk_frozen BK125.out 2
                have hfz75_3 := blk_frozen BK125.out 3
                have hfz75_4 := blk_frozen BK125.out 4
                have hfz75_5 := blk_frozen BK125.out 5
                go_wp2
                refine bodyPost_ret (results_ct rfl _ _ gb125 199 #[.int .u8 0, .int .u8 0, .string (⟨#[]⟩ : ByteArray), .slice none 0 0, .bool false, .bool false] (0, 0) _ rfl (by (with_reducible repeat (first | refine blk_drewN ?_ _ | refine blk_drew ?_ | refine blk_alloc ?_ _)); refine blk_put (cs := #[.int .u8 0, .int .u8 0, .string (⟨#[]⟩ : ByteArray), .slice none 0 0, .bool false, .bool x126005_3]) ?_ 5 _ rfl; (with_reducible repeat (first | refine blk_drewN ?_ _ | refine blk_drew ?_ | refine blk_alloc ?_ _)); refine blk_put (cs := #[.int .u8 0, .int .u8 0, .string (⟨#[]⟩ : ByteArray), .slice none 0 0, .bool x126004_3, .bool x126005_3]) ?_ 4 _ rfl; (with_reducible repeat (first | refine blk_drewN ?_ _ | refine blk_drew ?_ | refine blk_alloc ?_ _)); refine blk_put (cs := #[.int .u8 0, .int .u8 0, .string (⟨#[]⟩ : ByteArray), .slice none 0 0, .bool x126004_3, .bool x126005_3]) ?_ 3 _ rfl; (with_reducible repeat (first | refine blk_drewN ?_ _ | refine blk_drew ?_ | refine blk_alloc ?_ _)); refine blk_put (cs := #[.int .u8 0, .int .u8 0, .string x126002_3, .slice none 0 0, .bool x126004_3, .bool x126005_3]) ?_ 2 _ rfl; (with_reducible repeat (first | refine blk_drewN ?_ _ | refine blk_drew ?_ | refine blk_alloc ?_ _)); refine blk_put (cs := #[.int .u8 0, .int .u8 x126001_3, .string x126002_3, .slice none 0 0, .bool x126004_3, .bool x126005_3]) ?_ 1 _ rfl; (with_reducible repeat (first | refine blk_drewN ?_ _ | refine blk_drew ?_ | refine blk_alloc ?_ _)); refine blk_put (cs := #[.int .u8 x126000_3, .int .u8 x126001_3, .string x126002_3, .slice none 0 0, .bool x126004_3, .bool x126005_3]) ?_ 0 _ rfl; (with_reducible repeat (first | refine blk_drewN ?_ _ | refine blk_drew ?_ | refine blk_alloc ?_ _)); exact BK125.out) Try.underlying199 rfl (by kernel_rfl)) rfl ?_
                exact ⟨_, by first | rfl | (simp [errW_none, errW_some] <;> rfl) | (simp [*, errW_none, errW_some] <;> rfl), by first | exact Kd.R_nil _ _ _ _ _ | exact Kd.N_nil _ _ _ _ _ | exact Kd.V_nil _ _ _ _ _ | exact Kd.Q_nil _ _ _ _ _ | exact Kd.S_nil _ _ _ _ _, by repeat (first | (with_reducible first | exact HB.out | apply below_alloc | apply pw_below_drewN | apply below_drew1 | refine below_set ?_ GE124.out | refine below_set ?_ GE125.out | refine below_set ?_ GE126.out) | exact HB.out)⟩

end Go.Proofs.Ytfdjbjinomfgiaa.GrTree
