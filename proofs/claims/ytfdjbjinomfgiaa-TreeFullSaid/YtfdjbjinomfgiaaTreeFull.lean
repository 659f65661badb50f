/- TreeFull: the walk. -/
import Derived.Test.YtfdjbjinomfgiaaTreeD
import Derived.Test.YtfdjbjinomfgiaaFullP
namespace Go.Proofs.Ytfdjbjinomfgiaa
open Go.RowKit Go.Proofs.YtfdjbjinomfgiaaW.PrintWords Go.Proofs.YtfdjbjinomfgiaaW.PrintLast Go.Proofs.YtfdjbjinomfgiaaW.PrintMore

theorem info_string : (Try.prog.info? 9).map (fun i => (i.zero, i.size, i.bytes)) = some (some (.string ⟨#[]⟩), 1, 16) := by kernel_rfl
def sAB : ByteArray := ⟨#[97, 47, 98]⟩
def sA0 : ByteArray := ⟨#[97, 0]⟩

theorem tree_Make' (g m : Nat) (L : Names) (s : ByteArray) (b : Bool) (L' : Names) (w : World) (hs : s.size ≤ maxLen) (hL : L.length ≤ 100000) (ht : TreeIs w g m L) (hR : makeF L s = (b, L')) :
    Calls Try.prog 37 #[.pointer (some ⟨g, 0, none⟩), .string s] w fun e w' => e = .returned (.bool b) ∧ TreeIs w' g m L' ∧ Chg (fun k => k = m) w w' := by
  have := tree_Make g m L s w hs hL ht
  rw [hR] at this
  exact this
theorem makeF_eq {L : Names} {s : ByteArray} {b : Bool} (h : (makeF L s).1 = b) : makeF L s = (b, (makeF L s).2) := by rw [← h]
theorem len_makeF {L : Names} (h : Rising L) (s : ByteArray) (hl : L.length ≤ 200) : (makeF L s).2.length ≤ 100000 := by have := makeF_len h s hl; omega

set_option maxHeartbeats 4000000 in
set_option maxRecDepth 100000 in
theorem tree_full (n long : Int) (w : World) : Calls Try.prog 6 #[.int .i64 n, .int .i64 long] w fun e w' => e = .returned (.bool true) ∧ Below w.heap.size w w' := by
  obtain ⟨a, ha, ha7⟩ := mask_nat n 7 3 (by decide) (by omega)
  obtain ⟨b, hb, hb7⟩ := mask_nat long 127 7 (by decide) (by omega)
  have ha8 : (a : Int) ≤ 7 := by omega
  have ha0 : (0 : Int) ≤ (a : Int) := by omega
  have hb8 : (b : Int) ≤ 127 := by omega
  have hb0 : (0 : Int) ≤ (b : Int) := by omega
  have HA := Aside0.mk ha7
  have HB := Aside0.mk hb7
  clear ha7 hb7
  go_enter Try.func6, Try.ntmps6
  go_wp2
  go_loopw [5, 6] (fun v i wr => ∃ k : Nat, k ≤ 198 + a ∧ i = .int .i64 k ∧ Aside0 (Kd.R Kd.string 9 wr w.heap.size (fun _ => True) v (fNames k)) ∧ Aside0 (Below w.heap.size w wr)) (fun _ i _ => 206 - (intOf i).toNat)
  case atStart => exact ⟨0, by omega, rfl, ⟨Kd.R_nil _ _ _ _ _⟩, ⟨Below.refl _ _⟩⟩
  case round =>
    obtain ⟨k, hk, rfl, HR, HBW⟩ := hrel
    by_cases hlt : k < 198 + a
    · have hlt' : (k : Int) < 198 + (a : Int) := by omega
      have hk9 : (k : Int) ≤ 9223372036854775807 := by omega
      have hds := dgs_size k
      have hcat : (9223372036854775807 < 1 + (dgs k).size) = False := eq_false (by omega)
      have HLT := Aside0.mk hlt
      clear hds hlt
      go_wp2_with (first
        | (go_at_call 36; refine (digits_calls _ (by omega) (by omega) _).mono ?_; rw [Int.toNat_natCast]; rintro e w1 ⟨rfl, rfl⟩)
        | (at_builtin; refine Kd.R_append Kd.string (w0 := w) w.heap.size rfl (.tmp 18) (.tmp 22) 22 9 (.string ⟨#[]⟩) 16 rfl Try.underlying22 info_string rfl (by decide) (by omega) _ (fNames k) (fB ++ dgs k) [.string (fB ++ dgs k)] (fun _ => True) (fun _ => False) rfl rfl rfl (fun _ hk => hk.elim) (fun _ _ => trivial) HR.out HBW.out (by have := HBW.out.size; omega) (by rw [fNames_len]; have := HLT.out; omega) ?_; intro v1 w1 hR1 hB1 _ _; have HR1 := Aside0.mk hR1; have HB1 := Aside0.mk hB1; clear hR1 hB1))
      go_roundw
      case rel => exact ⟨k + 1, by have := HLT.out; omega, by go_num, ⟨by rw [fNames_succ]; exact HR1.out⟩, ⟨HB1.out⟩⟩
      case measure => have := HLT.out; simp [intOf]; omega
    · obtain rfl : k = 198 + a := by omega
      obtain ⟨A, c, rfl, hlc, hC⟩ := Kd.R_reads HR.out
      have HC := Aside0.mk hC
      clear hlc hC hlt hk
      go_wp2_with fail
      refine (tree_New A c (fNames (198 + a)) wr HC.out f_size).mono ?_
      rintro e w1 ⟨g, m, rfl, ht, hc, hgg, hmm⟩
      have HGM := Aside0.mk (show w.heap.size ≤ g ∧ w.heap.size ≤ m from ⟨Nat.le_trans HBW.out.size hgg, Nat.le_trans HBW.out.size hmm⟩)
      clear hgg hmm
      have HT := Aside0.mk ht
      have HCW := Aside0.mk ((Chg.of_below HBW.out none_).then_ hc (fun _ h => h.elim))
      clear ht hc
      have hLen := full_len (a := a) (by have := HA.out; omega)
      have HLEN := Aside0.mk hLen
      have HMORE := Aside0.mk (more_not (a := a) (by have := HA.out; omega))
      have HF0 := Aside0.mk (f0_there (a := a))
      have HRI := Aside0.mk (makeAll_inv (fNames (198 + a)) [] (by simp [Rising]) (by simp))
      clear hLen
      generalize makeAll (fNames (198 + a)) [] = L at *
      go_wp2_with fail
      refine (tree_Names g m L w1 (HRI.out.2) HT.out).mono ?_
      rintro e w2 ⟨v2, rfl, hR2, hb2⟩
      obtain ⟨A2, c2, rfl, _, _⟩ := Kd.R_reads hR2
      have HT2 := Aside0.mk (HT.out.below hb2)
      have HCW2 := Aside0.mk (HCW.out.below hb2)
      clear hR2 hb2 HT HCW
      have hne : ((L.length : Int) != min (198 + (a : Int)) 200) = false := by
        rw [HLEN.out, bne_eq_false_iff_eq]; omega
      go_wp2_with fail
      clear hne
      go_loop [8, 9] (fun s i => ∃ k : Nat, k ≤ b ∧ i = .int .i64 k ∧ s = .string (xs k)) (fun _ i => b - (intOf i).toNat)
      case atStart => exact ⟨0, by omega, rfl, rfl⟩
      case round =>
        obtain ⟨k, hk, rfl, rfl⟩ := hrel
        by_cases hlt : k < b
        · have hlt' : (k : Int) < (b : Int) := by omega
          have hk9 : (k : Int) ≤ 9223372036854775807 := by omega
          have hsz := xs_size k
          have hcat : (9223372036854775807 < (xs k).size + 1) = False := eq_false (by omega)
          have HS := Aside0.mk (xs_succ k)
          have HLT := Aside0.mk hlt
          clear hsz hlt
          go_wp2
          go_round
          case rel => exact ⟨k + 1, by have := HLT.out; omega, by go_num, by rw [← HS.out]⟩
          case measure => have := HLT.out; simp [intOf]; omega
        · obtain rfl : k = b := by omega
          clear hlt hk
          have HXOK := Aside0.mk (xs_ok k)
          have hsz := xs_size k
          have HSZ := Aside0.mk hsz
          generalize xs k = s at *
          go_wp2_with fail
          refine (tree_New none 0 [] w2 (Kd.C_nil _ _) (by simp)).mono ?_
          rintro e w3 ⟨g2, m2, rfl, hu, hc, hg2, hm2⟩
          have hlt := HT2.out.lt
          have HNE := Aside0.mk (show g ≠ m ∧ g2 ≠ m ∧ m2 ≠ m ∧ g2 ≠ m2 ∧ g ≠ m2 from ⟨HT2.out.ne, by omega, by omega, hu.ne, by omega⟩)
          have HT3 := Aside0.mk (HT2.out.chg hc (fun h => h) (fun h => h))
          have HU3 := Aside0.mk (show TreeIs w3 g2 m2 [] from hu)
          have HCW3 := Aside0.mk (HCW2.out.then_ hc (fun _ h => h.elim))
          have HM2 := Aside0.mk (show w.heap.size ≤ m2 from Nat.le_trans HCW2.out.size hm2)
          clear hu hc hg2 hm2 hlt HT2 HCW2
          -- the first Make
          obtain ⟨bm, hbm⟩ : ∃ b, decide (198 + (a : Int) < 200) = b := ⟨_, rfl⟩
          have hmk : (makeF L sMore).1 = bm := by
            rw [← hbm]
            by_cases h2 : L.length < 200
            · rw [makeF_put (by decide +kernel) h2]
              have := HLEN.out
              symm
              exact decide_eq_true (by omega)
            · rw [makeF_full HMORE.out (by omega)]
              have := HLEN.out
              symm
              exact decide_eq_false (by omega)
          have HMK := Aside0.mk hmk
          have hbb : (bm == bm) = true := by simp
          clear hmk
          go_wp2_with fail
          refine (tree_Make' g m L sMore bm _ w3 (by decide) (by have := HRI.out.2; omega) HT3.out (makeF_eq HMK.out)).mono ?_
          rintro e w4 ⟨rfl, ht, hc⟩
          have HT4 := Aside0.mk ht
          have HU4 := Aside0.mk (HU3.out.chg hc HNE.out.2.1 HNE.out.2.2.1)
          have HCW4 := Aside0.mk (HCW3.out.then_ hc (fun k h => .inr (by rw [h]; exact HGM.out.2)))
          clear ht hc HT3 HU3 HCW3
          go_wp2_with fail
          refine (tree_Make' g m _ sF0 true _ w4 (by decide) (len_makeF HRI.out.1 _ HRI.out.2) HT4.out (makeF_eq (makeF_there (by decide +kernel) (tget_makeF_some HF0.out)))).mono ?_
          rintro e w5 ⟨rfl, ht, hc⟩
          have HU5 := Aside0.mk (HU4.out.chg hc HNE.out.2.1 HNE.out.2.2.1)
          have HCW5 := Aside0.mk (HCW4.out.then_ hc (fun k h => .inr (by rw [h]; exact HGM.out.2)))
          clear ht hc HT4 HU4 HCW4
          have hfin : ∀ L2 w6, TreeIs w6 g2 m2 L2 → L2.length ≤ 100000 → Chg none_ w w6 → True := fun _ _ _ _ _ => trivial
          clear hfin
          by_cases hb1 : 1 ≤ k
          · by_cases hb2 : k ≤ 100
            · have hb1' : (1 : Int) ≤ (k : Int) := by omega
              have hb2' : (k : Int) ≤ 100 := by omega
              have HMS := Aside0.mk (show makeF [] s = (true, tput [] s ()) from makeF_put (by rw [HXOK.out]; simp [hb1, hb2]) (by simp))
              clear hb1 hb2
              go_wp2_with fail
              refine (tree_Make' g2 m2 [] s true _ w5 (by rw [HSZ.out]; unfold maxLen; omega) (by simp) HU5.out HMS.out).mono ?_
              rintro e w6 ⟨rfl, ht, hc⟩
              have HU6 := Aside0.mk ht
              have HCW6 := Aside0.mk (HCW5.out.then_ hc (fun k h => .inr (by rw [h]; exact HM2.out)))
              clear ht hc HU5 HCW5
              go_wp2_with fail
              refine (tree_Make' g2 m2 _ sAB false _ w6 (by decide) (by rw [tput_length (by simp [Rising])]; simp [tget]) HU6.out (makeF_bad (by decide +kernel))).mono ?_
              rintro e w7 ⟨rfl, ht, hc⟩
              have HU7 := Aside0.mk ht
              have HCW7 := Aside0.mk (HCW6.out.then_ hc (fun k h => .inr (by rw [h]; exact HM2.out)))
              clear ht hc HU6 HCW6
              go_wp2_with fail
              refine (tree_Make' g2 m2 _ sA0 false _ w7 (by decide) (by rw [tput_length (by simp [Rising])]; simp [tget]) HU7.out (makeF_bad (by decide +kernel))).mono ?_
              rintro e w8 ⟨rfl, ht, hc⟩
              have HCW8 := Aside0.mk (HCW7.out.then_ hc (fun k h => .inr (by rw [h]; exact HM2.out)))
              clear ht hc HU7 HCW7
              go_wp2_with fail
              refine (awake12 w8).mono ?_
              rintro e w9 ⟨rfl, hb9⟩
              go_wp2
              go_ret
              exact ⟨rfl, (HCW8.out.below hb9).toBelow⟩
            · have hb1' : (1 : Int) ≤ (k : Int) := by omega
              have hb2' : 100 < (k : Int) := by omega
              have HMS := Aside0.mk (show makeF [] s = (false, []) from makeF_bad (by rw [HXOK.out]; simp [hb2]))
              clear hb1 hb2
              go_wp2_with fail
              refine (tree_Make' g2 m2 [] s false _ w5 (by rw [HSZ.out]; unfold maxLen; omega) (by simp) HU5.out HMS.out).mono ?_
              rintro e w6 ⟨rfl, ht, hc⟩
              have HU6 := Aside0.mk ht
              have HCW6 := Aside0.mk (HCW5.out.then_ hc (fun k h => .inr (by rw [h]; exact HM2.out)))
              clear ht hc HU5 HCW5
              go_wp2_with fail
              refine (tree_Make' g2 m2 _ sAB false _ w6 (by decide) (by simp) HU6.out (makeF_bad (by decide +kernel))).mono ?_
              rintro e w7 ⟨rfl, ht, hc⟩
              have HU7 := Aside0.mk ht
              have HCW7 := Aside0.mk (HCW6.out.then_ hc (fun k h => .inr (by rw [h]; exact HM2.out)))
              clear ht hc HU6 HCW6
              go_wp2_with fail
              refine (tree_Make' g2 m2 _ sA0 false _ w7 (by decide) (by simp) HU7.out (makeF_bad (by decide +kernel))).mono ?_
              rintro e w8 ⟨rfl, ht, hc⟩
              have HCW8 := Aside0.mk (HCW7.out.then_ hc (fun k h => .inr (by rw [h]; exact HM2.out)))
              clear ht hc HU7 HCW7
              go_wp2_with fail
              refine (awake12 w8).mono ?_
              rintro e w9 ⟨rfl, hb9⟩
              go_wp2
              go_ret
              exact ⟨show Ending.returned (.bool (!decide ((k : Int) ≤ 100))) = _ from by rw [decide_eq_false (by omega)]; rfl, (HCW8.out.below hb9).toBelow⟩
          · have hb1' : (k : Int) < 1 := by omega
            have HMS := Aside0.mk (show makeF [] s = (false, []) from makeF_bad (by rw [HXOK.out]; simp [hb1]))
            clear hb1
            go_wp2_with fail
            refine (tree_Make' g2 m2 [] s false _ w5 (by rw [HSZ.out]; unfold maxLen; omega) (by simp) HU5.out HMS.out).mono ?_
            rintro e w6 ⟨rfl, ht, hc⟩
            have HU6 := Aside0.mk ht
            have HCW6 := Aside0.mk (HCW5.out.then_ hc (fun k h => .inr (by rw [h]; exact HM2.out)))
            clear ht hc HU5 HCW5
            go_wp2_with fail
            refine (tree_Make' g2 m2 _ sAB false _ w6 (by decide) (by simp) HU6.out (makeF_bad (by decide +kernel))).mono ?_
            rintro e w7 ⟨rfl, ht, hc⟩
            have HU7 := Aside0.mk ht
            have HCW7 := Aside0.mk (HCW6.out.then_ hc (fun k h => .inr (by rw [h]; exact HM2.out)))
            clear ht hc HU6 HCW6
            go_wp2_with fail
            refine (tree_Make' g2 m2 _ sA0 false _ w7 (by decide) (by simp) HU7.out (makeF_bad (by decide +kernel))).mono ?_
            rintro e w8 ⟨rfl, ht, hc⟩
            have HCW8 := Aside0.mk (HCW7.out.then_ hc (fun k h => .inr (by rw [h]; exact HM2.out)))
            clear ht hc HU7 HCW7
            go_wp2_with fail
            refine (awake12 w8).mono ?_
            rintro e w9 ⟨rfl, hb9⟩
            go_wp2
            go_ret
            exact ⟨rfl, (HCW8.out.below hb9).toBelow⟩
end Go.Proofs.Ytfdjbjinomfgiaa
