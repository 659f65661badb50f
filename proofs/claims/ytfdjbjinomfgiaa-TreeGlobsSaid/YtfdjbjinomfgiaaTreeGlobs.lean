/- TreeGlobs: the walk. -/
import Derived.Test.YtfdjbjinomfgiaaTreeD
import Derived.Test.YtfdjbjinomfgiaaGlobsP
import Derived.Deep.QuietTactic
import Derived.BigQuiet
namespace Go.Proofs.Ytfdjbjinomfgiaa
open Go.RowKit Go.Proofs.YtfdjbjinomfgiaaW.PrintWords Go.Proofs.YtfdjbjinomfgiaaW.PrintLast Go.Proofs.YtfdjbjinomfgiaaW.PrintMore
set_option linter.unusedSimpArgs false
set_option linter.unusedVariables false

set_option maxHeartbeats 4000000 in
set_option maxRecDepth 100000 in
theorem tree_globs_early (A : Option Addr) (c : Nat) (names : List ByteArray) (raw : ByteArray) (w : World) (hn : names.length ≤ 9223372036854775807) (h : 60 < names.length ∨ names.length ≤ 60 ∧ 60 < raw.size ∨ names.length ≤ 60 ∧ raw.size ≤ 60 ∧ raw.size = 0) :
    Calls Try.prog 5 #[.slice A names.length c, .string raw] w fun e w' => e = .returned (.bool true) ∧ Below w.heap.size w w' := by
  rcases h with h | ⟨h1, h⟩ | ⟨h1, h2, h⟩
  · have h' : (60 : Int) < (names.length : Int) := by omega
    go_enter Try.func5, Try.ntmps5
    go_wp2_with (go_at_call 29; refine (awake12 _).mono ?_; rintro e w1 ⟨rfl, hb⟩; have HB := Aside0.mk hb; clear hb)
    go_ret
    exact ⟨rfl, HB.out⟩
  · have h1' : (names.length : Int) ≤ 60 := by omega
    have h' : (60 : Int) < (raw.size : Int) := by omega
    go_enter Try.func5, Try.ntmps5
    go_wp2_with (go_at_call 29; refine (awake12 _).mono ?_; rintro e w1 ⟨rfl, hb⟩; have HB := Aside0.mk hb; clear hb)
    go_ret
    exact ⟨rfl, HB.out⟩
  · have h1' : (names.length : Int) ≤ 60 := by omega
    have h2' : (raw.size : Int) ≤ 60 := by omega
    have h' : ((raw.size : Int) == 0) = true := by simp [h]
    go_enter Try.func5, Try.ntmps5
    go_wp2_with (go_at_call 29; refine (awake12 _).mono ?_; rintro e w1 ⟨rfl, hb⟩; have HB := Aside0.mk hb; clear hb)
    go_ret
    exact ⟨rfl, HB.out⟩

theorem take_all {α : Type} {P : α → Prop} {l : List α} {k : Nat} {d : α} (hk : k < l.length) (h : ∀ s ∈ l.take k, P s) (hx : P (l.getD k d)) : ∀ s ∈ l.take (k + 1), P s := by
  intro s hs
  rw [take_snoc' hk d] at hs
  rcases List.mem_append.1 hs with hs | hs
  · exact h s hs
  · rw [List.mem_singleton.1 hs]; exact hx

set_option maxHeartbeats 4000000 in
set_option maxRecDepth 100000 in
theorem tree_globs (A : Option Addr) (c : Nat) (names : List ByteArray) (raw : ByteArray) (w : World) (hC : Kd.C Kd.string w A names.length names) (hsz : ∀ s ∈ names, s.size ≤ maxLen) :
    Calls Try.prog 5 #[.slice A names.length c, .string raw] w fun e w' => e = .returned (.bool true) ∧ Below w.heap.size w w' := by
  by_cases hearly : 60 < names.length ∨ names.length ≤ 60 ∧ 60 < raw.size ∨ names.length ≤ 60 ∧ raw.size ≤ 60 ∧ raw.size = 0
  · exact tree_globs_early A c names raw w hC.2.1 hearly
  · have h1' : (names.length : Int) ≤ 60 := by omega
    have h2' : (raw.size : Int) ≤ 60 := by omega
    have h3' : ((raw.size : Int) == 0) = false := beq_eq_false_iff_ne.2 (by omega)
    have h4' : (0 : Int) < (raw.size : Int) := by omega
    have HRS := Aside0.mk (show 0 < raw.size ∧ raw.size ≤ 60 by omega)
    have HC := Aside0.mk hC
    have HSZ := Aside0.mk hsz
    clear hearly hC hsz
    go_enter Try.func5, Try.ntmps5
    go_wp2
    go_loop [5] (fun i => ∃ k : Nat, k ≤ names.length ∧ i = .int .i64 k ∧ Aside0 (∀ s ∈ names.take k, s.size ≤ 100)) (fun i => names.length - (intOf i).toNat)
    case atStart => exact ⟨0, Nat.zero_le _, rfl, ⟨by simp⟩⟩
    case round =>
      obtain ⟨k, hk, rfl, HN⟩ := hrel
      by_cases hlt : k < names.length
      · obtain ⟨ad, e, hx⟩ := str_at HC.out hlt
        subst e
        have HS := Aside0.mk (take_all (P := fun s : ByteArray => s.size ≤ 100) (d := ByteArray.empty) hlt HN.out)
        have hlt' : (k : Int) < (names.length : Int) := by omega
        have HLT := Aside0.mk hlt
        clear hlt
        by_cases hs : (names.getD k ByteArray.empty).size ≤ 100
        · have hs' : ((names.getD k ByteArray.empty).size : Int) ≤ 100 := by omega
          have HS1 := Aside0.mk (HS.out hs)
          clear hs HS
          generalize names.getD k ByteArray.empty = s at *
          go_wp2
          go_round
          case rel => exact ⟨k + 1, HLT.out, by go_num, HS1⟩
          case measure => have := HLT.out; simp [intOf]; omega
        · have hs' : 100 < ((names.getD k ByteArray.empty).size : Int) := by omega
          clear hs HS
          generalize names.getD k ByteArray.empty = s at *
          go_wp2_with (go_at_call 29; refine (awake12 _).mono ?_; rintro e w1 ⟨rfl, hb⟩; have HB := Aside0.mk hb; clear hb)
          go_ret
          exact ⟨rfl, HB.out⟩
      · obtain rfl : k = names.length := by omega
        rw [List.take_length] at HN
        clear hlt hk
        go_wp2_with fail
        refine (tree_New A c names w HC.out HSZ.out).mono ?_
        rintro e w1 ⟨g, m, rfl, ht, hc, hgg, hmm⟩
        have HT := Aside0.mk ht
        have HCW := Aside0.mk hc
        clear ht hc hgg hmm
        have HRI := Aside0.mk (makeAll_inv names [] (by simp [Rising]) (by simp))
        have HOK := Aside0.mk (makeAll_ok names [] (by simp [NamesOk]))
        generalize makeAll names [] = L at *
        go_wp2_with fail
        refine (live_calls raw (by have := HRS.out; omega) _).mono ?_
        rintro e w2 ⟨v2, rfl, hR2, hb2⟩
        obtain ⟨A2, c2, rfl, hlc2, hC2⟩ := Kd.R_reads hR2
        have HT2 := Aside0.mk (HT.out.below hb2)
        have HCW2 := Aside0.mk (HCW.out.below hb2)
        have HC2 := Aside0.mk hC2
        have HLC2 := Aside0.mk hlc2
        clear hR2 hb2 hC2 hlc2 HT HCW
        generalize List.replicate raw.size true = l at *
        have hB3 : Below w2.heap.size w2 (w2.alloc (.cells #[.string raw, .slice A2 l.length c2] 60)) := (Below.refl _ _).alloc (Nat.le_refl _) _
        have HT3 := Aside0.mk (HT2.out.below hB3)
        have HCW3 := Aside0.mk (HCW2.out.below hB3)
        have HC3 := Aside0.mk (Kd.C_below HC2.out hB3)
        have HBX := Aside0.mk (heap_alloc_new w2 (.cells #[.string raw, .slice A2 l.length c2] 60))
        clear hB3
        go_wp2_with fail
        refine (tree_Glob g m L raw A2 c2 l _ HRI.out.2 HOK.out HT3.out HC3.out HLC2.out (by have := HRS.out; omega)).mono ?_
        rintro e w4 ⟨v4, rfl, hR4, hb4⟩
        have hb24 := (((Below.refl w2.heap.size w2).alloc (Nat.le_refl _) (.cells #[.string raw, .slice A2 l.length c2] 60)).trans (hb4.mono (by simp)))
        have HB24 := Aside0.mk hb24
        obtain ⟨A4, c4, rfl, hlc4, hC4⟩ := Kd.R_reads hR4
        have HT4 := Aside0.mk (HT3.out.below hb4)
        have HCW4 := Aside0.mk (HCW3.out.below hb4)
        have HC24 := Aside0.mk (Kd.C_below HC3.out hb4)
        have HBX4 := Aside0.mk (show w4.heap[w2.heap.size]? = _ from (hb4.block _ (by simp)).trans HBX.out)
        have HC4 := Aside0.mk hC4
        have HLC4 := Aside0.mk hlc4
        clear hR4 hb4 hb24 hC4 hlc4 HT3 HCW3 HC3 HBX HB24 HC2 HCW2 HT2
        have HGOT := Aside0.mk (show globF L raw l = (L.map Prod.fst).filter (fun s => !noGlob raw l s) from rfl)
        generalize globF L raw l = got at HC4 HLC4 HGOT ⊢
        go_wp2_with fail
        refine (tree_Names g m L _ HRI.out.2 HT4.out).mono ?_
        rintro e w5 ⟨v5, rfl, hR5, hb5⟩
        obtain ⟨A5, c5, rfl, hlc5, hC5⟩ := Kd.R_reads hR5
        have HT5 := Aside0.mk (HT4.out.below hb5)
        have HCW5 := Aside0.mk (HCW4.out.below hb5)
        have HC25 := Aside0.mk (Kd.C_below HC24.out hb5)
        have HBX5 := Aside0.mk (show w5.heap[w2.heap.size]? = _ from (hb5.block _ ((Array.getElem?_eq_some_iff.1 HBX4.out).1)).trans HBX4.out)
        have HC45 := Aside0.mk (Kd.C_below HC4.out hb5)
        have HC5 := Aside0.mk hC5
        clear hR5 hb5 hlc5 hC5 HT4 HCW4 HC24 HBX4 HC4
        have HPL := Aside0.mk (plain_some L raw HRI.out.1)
        have HLT := Aside0.mk (keys_lt HRI.out.1)
        have hsm : ∀ s ∈ L.map Prod.fst, 1 ≤ s.size ∧ s.size ≤ 100 := by
          intro s hs
          obtain ⟨q, hq, rfl⟩ := List.mem_map.1 hs
          exact HOK.out q hq
        have HSM := Aside0.mk hsm
        have HLEN := Aside0.mk (show (L.map Prod.fst).length ≤ 200 by have := HRI.out.2; simpa using this)
        clear hsm
        generalize hall : L.map Prod.fst = all at HGOT HC5 HLT HSM HLEN ⊢
        clear hall
        go_wp2_with fail
        go_loopw [10, 11] (fun kk i wr => ∃ n : Nat, n ≤ all.length ∧ i = .int .i64 n ∧ kk = .int .i64 ((all.take n).filter (fun s => !noGlob raw l s)).length ∧ Aside0 (Below w5.heap.size w5 wr)) (fun _ i _ => all.length - (intOf i).toNat)
        case atStart => exact ⟨0, Nat.zero_le _, rfl, rfl, ⟨Below.refl _ _⟩⟩
        case round =>
          obtain ⟨n, hn, rfl, rfl, HB⟩ := hrel
          by_cases hlt : n < all.length
          · have hCr := Kd.C_below HC5.out HB.out
            obtain ⟨ad, e, hx⟩ := str_at hCr hlt
            subst e
            have hlt' : (n : Int) < (all.length : Int) := by omega
            have hn200 : (all.length : Int) ≤ 200 := by have := HLEN.out; omega
            have hsz := HSM.out _ (getD_mem' hlt ByteArray.empty)
            have hpre : ((decide (0 < n) = false ∧ (n : Int) ≤ 0) ∧ decide ((0 : Int) < (n : Int)) = false) ∨ ∃ (n0 : Nat) (s0 : ByteArray), 0 < n ∧ decide ((0 : Int) < (n : Int)) = true ∧ IntKind.i64.wrap ((n : Int) - 1) = (n0 : Int) ∧ (n0 : Int) < all.length ∧ wr.cell? (ad.add n0) = some (.string s0) ∧ Op.bytesLess s0.toList (all.getD n ByteArray.empty).toList = true := by
              cases n with
              | zero => exact .inl ⟨by simp, by simp⟩
              | succ n =>
                obtain ⟨ad', e, hx0⟩ := str_at hCr (show n < all.length by omega)
                injection e with e
                subst e
                refine .inr ⟨n, _, by omega, decide_eq_true (by omega), ?_, by omega, hx0, by rw [bytesLess_ltB]; exact HLT.out n hlt⟩
                unfold IntKind.wrap; simp [IntKind.bits, IntKind.signed]; omega
            have htk := take_snoc' hlt ByteArray.empty
            have hf : (!noGlob raw l (all.getD n ByteArray.empty)) = true → _ := filter_at (fun s => !noGlob raw l s) all n hlt
            have hkd := keep_dot raw l (all.getD n ByteArray.empty)
            have hq := ref_match raw l (all.getD n ByteArray.empty) (by have := HRS.out; omega) (by omega)
            rw [← HGOT.out] at hf
            have hl1 : ((all.take (n + 1)).filter (fun s => !noGlob raw l s)).length = ((all.take n).filter (fun s => !noGlob raw l s)).length + (if (!noGlob raw l (all.getD n ByteArray.empty)) = true then 1 else 0) := by
              rw [htk, List.filter_append, List.length_append, List.filter_cons]
              split <;> simp
            have HL1 := Aside0.mk hl1
            clear hl1
            have hgl : got.length ≤ 200 := by rw [HGOT.out]; exact Nat.le_trans (List.length_filter_le _ _) HLEN.out
            have HGL := Aside0.mk hgl
            clear hgl
            generalize all.getD n ByteArray.empty = s at *
            obtain ⟨q, hq⟩ := hq
            have hs2 : ((s.size : Int) == 0) = false := beq_eq_false_iff_ne.2 (by omega)
            have hs3 : (0 : Int) < (s.size : Int) := by omega
            have hs4 : 0 < s.size := by omega
            have hr4 : 0 < raw.size := by omega
            have hds : dotB s = decide (((s[0]'hs4).toNat : Int) = 46) := by unfold dotB; rw [← bt_at s 0 hs4]; rfl
            have hdr : dotB raw = decide (((raw[0]'hr4).toNat : Int) = 46) := by unfold dotB; rw [← bt_at raw 0 hr4]; rfl
            have hb0 : (wr.cell? ⟨w2.heap.size, 0, none⟩ = some (.string raw)) ∧ (wr.cell? ⟨w2.heap.size, 1, none⟩ = some (.slice A2 l.length c2)) := by
              have h := (HB.out.block _ (Array.getElem?_eq_some_iff.1 HBX5.out).1).trans HBX5.out
              exact ⟨by simp [World.cell?, h], by simp [World.cell?, h]⟩
            obtain ⟨hc0, hc1⟩ := hb0
            have HCM := Aside0.mk (Kd.C_below HC25.out HB.out)
            have HCG := Aside0.mk (Kd.C_below HC45.out HB.out)
            have HF := Aside0.mk hf
            have HTK := Aside0.mk htk
            have HQ := Aside0.mk hq
            have HN := Aside0.mk hlt
            clear hf htk hq hn hsz hCr
            generalize List.filter (fun s => !noGlob raw l s) (List.take n all) = T at *
            have hcase : ((!noGlob raw l s) = false ∧ (matchB raw l s = false ∨ matchB raw l s = true ∧ ((s[0]'hs4).toNat : Int) = 46 ∧ ((raw[0]'hr4).toNat : Int) ≠ 46)) ∨ ((!noGlob raw l s) = true ∧ (matchB raw l s = true ∧ ((s[0]'hs4).toNat : Int) ≠ 46 ∨ matchB raw l s = true ∧ ((s[0]'hs4).toNat : Int) = 46 ∧ ((raw[0]'hr4).toNat : Int) = 46)) := by
              rw [hkd, hds, hdr]
              cases matchB raw l s <;> by_cases h1 : ((s[0]'hs4).toNat : Int) = 46 <;> by_cases h2 : ((raw[0]'hr4).toNat : Int) = 46 <;> simp [h1, h2]
            clear hkd hds hdr hlt
            generalize noGlob raw l s = ng at *
            generalize matchB raw l s = M at *
            rcases hcase with ⟨hng, hcase⟩ | ⟨hng, hcase⟩
            · have HNG := Aside0.mk hng
              clear hng
              rcases hcase with rfl | ⟨rfl, hs0, hr0⟩
              · rcases hpre with ⟨⟨hj5, hj6⟩, hj4⟩ | ⟨n0, s0, hj5, hj4, hw, hn7, hx0, hl0⟩ <;> (
                  go_wp2_with fail
                  go_quiet (fail)
                  go_wp2_with fail
                  have HBN := Aside0.mk (Drawn0.below (w' := wr.drewN nq) ⟨nq, rfl⟩)
                  have hd0 := pw_cell_below HBN.out hc0
                  have hd1 := pw_cell_below HBN.out hc1
                  have hd2 := pw_cell_below HBN.out hx
                  have HDM := Aside0.mk (Kd.C_below HCM.out HBN.out)
                  have HBQ := Aside0.mk (HB.out.trans (HBN.out.mono HB.out.size))
                  clear hc0 hc1 hx HBN
                  generalize wr.drewN nq = wq at *
                  refine start_ (n := 19) (S := fun w' => w'.cell? ⟨w2.heap.size, 0, none⟩ = some (.string raw) ∧ w'.cell? ⟨w2.heap.size, 1, none⟩ = some (.slice A2 l.length c2) ∧ w'.cell? (ad.add n) = some (.string s)) (ds := []) #[false, false, false, false, false, false, false, false, false, false, false, false, false, false, false, false, false, false, false] (by kernel_rfl) rfl rfl ⟨hd0, hd1, hd2⟩ (fun hHeld => ?_)
                  have HBD := Aside0.mk (show Below wq.heap.size wq wq.drew from Drawn0.below ⟨1, rfl⟩); generalize wq.drew = wd at HBD hHeld ⊢
                  refine pure_ (i := 1) (N := some 80) (v := ?_) (a' := ?_) #[false, true, false, false, false, false, false, false, false, false, false, false, false, false, false, false, false, false, false] rfl rfl (by kernel_rfl) (fun _ _ _ h => h) (Or.inl ⟨by rfl, ?_⟩) ?_ ?_
                  rotate_left
                  · intro w'
                    go_simp
                    with_reducible rfl
                  rotate_left
                  · simp only [Act.put, List.setIfInBounds_toArray, List.set_cons_zero, List.set_cons_succ, i64_w, i32_w]
                    rfl
                  refine pure_ (i := 2) (N := some 81) (v := ?_) (a' := ?_) #[false, true, true, false, false, false, false, false, false, false, false, false, false, false, false, false, false, false, false] rfl rfl (by kernel_rfl) (fun _ _ _ h => h) (Or.inl ⟨by rfl, ?_⟩) ?_ ?_
                  rotate_left
                  · intro w'
                    go_simp
                    with_reducible rfl
                  rotate_left
                  · simp only [Act.put, List.setIfInBounds_toArray, List.set_cons_zero, List.set_cons_succ, i64_w, i32_w]
                    rfl
                  refine pure_ (i := 3) (N := some 82) (v := ?_) (a' := ?_) #[false, true, true, true, false, false, false, false, false, false, false, false, false, false, false, false, false, false, false] rfl rfl (by kernel_rfl) (fun _ _ _ h => h) (Or.inl ⟨by rfl, ?_⟩) ?_ ?_
                  rotate_left
                  · intro w'
                    go_simp
                    with_reducible rfl
                  rotate_left
                  · simp only [Act.put, List.setIfInBounds_toArray, List.set_cons_zero, List.set_cons_succ, i64_w, i32_w]
                    rfl
                  refine take_ (i := 0) (N := some 79) (v := ?_) (a' := ?_) #[true, true, true, true, false, false, false, false, false, false, false, false, false, false, false, false, false, false, false] rfl rfl (by kernel_rfl) (fun _ _ _ h => h) (Or.inl ⟨by rfl, ?_⟩) hHeld ?_ ?_
                  rotate_left
                  · rintro w' ⟨s0, s1, s2⟩
                    go_simp
                    with_reducible rfl
                  rotate_left
                  · simp only [Act.put, List.setIfInBounds_toArray, List.set_cons_zero, List.set_cons_succ, i64_w, i32_w]
                    rfl
                  refine take_ (i := 4) (N := some 83) (v := ?_) (a' := ?_) #[true, true, true, true, true, false, false, false, false, false, false, false, false, false, false, false, false, false, false] rfl rfl (by kernel_rfl) (fun _ _ _ h => h) (Or.inl ⟨by rfl, ?_⟩) hHeld ?_ ?_
                  rotate_left
                  · rintro w' ⟨s0, s1, s2⟩
                    go_simp
                    with_reducible rfl
                  rotate_left
                  · simp only [Act.put, List.setIfInBounds_toArray, List.set_cons_zero, List.set_cons_succ, i64_w, i32_w]
                    rfl
                  refine one_ (i := 5) (N := some 84) #[true, true, true, true, true, true, false, false, false, false, false, false, false, false, false, false, false, false, false] rfl rfl (by kernel_rfl) (by decide) (fun K hK => ?_)
                  refine goes_ Try.func34 (by kernel_rfl) rfl #[.agg #[.string raw, .slice A2 l.length c2], .string s] (by rfl) rfl rfl (by simp only [List.map_toArray, List.map_cons, List.map_nil]; rfl) ?_
                  with_reducible refine (GrTree.conchref1_Match.calls q raw A2 c2 l s false _ (Kd.C_below HDM.out HBD.out) HLC2.out HQ.out).mono ?_
                  rintro e w6 ⟨rfl, hb6⟩
                  refine ⟨_, rfl, ?_⟩
                  have HB6 := Aside0.mk (HBD.out.trans (hb6.mono HBD.out.size))
                  have hs6 := pw_cell_below hb6 hHeld.2.2
                  have HB7 := Aside0.mk hb6
                  clear hb6
                  obtain ⟨s0, s1, s2⟩ := hHeld
                  refine hK.out _ _ ⟨pw_cell_below HB7.out s0, pw_cell_below HB7.out s1, pw_cell_below HB7.out s2⟩ (fun hHeld => ?_)
                  clear hK K
                  refine norm_ (a' := ?_) ?_ ?_
                  rotate_left
                  · show Act.put _ (some 84) _ = _
                    simp only [Act.put, List.setIfInBounds_toArray, List.set_cons_zero, List.set_cons_succ, i64_w, i32_w]
                    rfl
                  refine pure_ (i := 6) (N := some 85) (v := ?_) (a' := ?_) #[true, true, true, true, true, true, true, false, false, false, false, false, false, false, false, false, false, false, false] rfl rfl (by kernel_rfl) (fun _ _ _ h => h) (Or.inl ⟨by rfl, ?_⟩) ?_ ?_
                  rotate_left
                  · intro w'
                    go_simp
                    with_reducible rfl
                  rotate_left
                  · simp only [Act.put, List.setIfInBounds_toArray, List.set_cons_zero, List.set_cons_succ, i64_w, i32_w]
                    rfl
                  refine pure_ (i := 7) (N := some 86) (v := undef) (a' := ?_) #[true, true, true, true, true, true, true, true, false, false, false, false, false, false, false, false, false, false, false] rfl rfl (by kernel_rfl) (fun _ _ _ h => h) (Or.inr ⟨by rfl, rfl⟩) ?_ ?_
                  rotate_left
                  · simp only [Act.put, List.setIfInBounds_toArray, List.set_cons_zero, List.set_cons_succ, i64_w, i32_w]
                    rfl
                  refine pure_ (i := 8) (N := some 87) (v := undef) (a' := ?_) #[true, true, true, true, true, true, true, true, true, false, false, false, false, false, false, false, false, false, false] rfl rfl (by kernel_rfl) (fun _ _ _ h => h) (Or.inr ⟨by rfl, rfl⟩) ?_ ?_
                  rotate_left
                  · simp only [Act.put, List.setIfInBounds_toArray, List.set_cons_zero, List.set_cons_succ, i64_w, i32_w]
                    rfl
                  refine pure_ (i := 9) (N := some 88) (v := undef) (a' := ?_) #[true, true, true, true, true, true, true, true, true, true, false, false, false, false, false, false, false, false, false] rfl rfl (by kernel_rfl) (fun _ _ _ h => h) (Or.inr ⟨by rfl, rfl⟩) ?_ ?_
                  rotate_left
                  · simp only [Act.put, List.setIfInBounds_toArray, List.set_cons_zero, List.set_cons_succ, i64_w, i32_w]
                    rfl
                  refine pure_ (i := 10) (N := some 89) (v := undef) (a' := ?_) #[true, true, true, true, true, true, true, true, true, true, true, false, false, false, false, false, false, false, false] rfl rfl (by kernel_rfl) (fun _ _ _ h => h) (Or.inr ⟨by rfl, rfl⟩) ?_ ?_
                  rotate_left
                  · simp only [Act.put, List.setIfInBounds_toArray, List.set_cons_zero, List.set_cons_succ, i64_w, i32_w]
                    rfl
                  refine pure_ (i := 11) (N := some 90) (v := undef) (a' := ?_) #[true, true, true, true, true, true, true, true, true, true, true, true, false, false, false, false, false, false, false] rfl rfl (by kernel_rfl) (fun _ _ _ h => h) (Or.inr ⟨by rfl, rfl⟩) ?_ ?_
                  rotate_left
                  · simp only [Act.put, List.setIfInBounds_toArray, List.set_cons_zero, List.set_cons_succ, i64_w, i32_w]
                    rfl
                  refine pure_ (i := 12) (N := some 91) (v := undef) (a' := ?_) #[true, true, true, true, true, true, true, true, true, true, true, true, true, false, false, false, false, false, false] rfl rfl (by kernel_rfl) (fun _ _ _ h => h) (Or.inr ⟨by rfl, rfl⟩) ?_ ?_
                  rotate_left
                  · simp only [Act.put, List.setIfInBounds_toArray, List.set_cons_zero, List.set_cons_succ, i64_w, i32_w]
                    rfl
                  refine pure_ (i := 13) (N := some 92) (v := undef) (a' := ?_) #[true, true, true, true, true, true, true, true, true, true, true, true, true, true, false, false, false, false, false] rfl rfl (by kernel_rfl) (fun _ _ _ h => h) (Or.inr ⟨by rfl, rfl⟩) ?_ ?_
                  rotate_left
                  · simp only [Act.put, List.setIfInBounds_toArray, List.set_cons_zero, List.set_cons_succ, i64_w, i32_w]
                    rfl
                  refine pure_ (i := 14) (N := some 93) (v := undef) (a' := ?_) #[true, true, true, true, true, true, true, true, true, true, true, true, true, true, true, false, false, false, false] rfl rfl (by kernel_rfl) (fun _ _ _ h => h) (Or.inr ⟨by rfl, rfl⟩) ?_ ?_
                  rotate_left
                  · simp only [Act.put, List.setIfInBounds_toArray, List.set_cons_zero, List.set_cons_succ, i64_w, i32_w]
                    rfl
                  refine pure_ (i := 15) (N := some 94) (v := undef) (a' := ?_) #[true, true, true, true, true, true, true, true, true, true, true, true, true, true, true, true, false, false, false] rfl rfl (by kernel_rfl) (fun _ _ _ h => h) (Or.inr ⟨by rfl, rfl⟩) ?_ ?_
                  rotate_left
                  · simp only [Act.put, List.setIfInBounds_toArray, List.set_cons_zero, List.set_cons_succ, i64_w, i32_w]
                    rfl
                  refine pure_ (i := 16) (N := some 95) (v := undef) (a' := ?_) #[true, true, true, true, true, true, true, true, true, true, true, true, true, true, true, true, true, false, false] rfl rfl (by kernel_rfl) (fun _ _ _ h => h) (Or.inr ⟨by rfl, rfl⟩) ?_ ?_
                  rotate_left
                  · simp only [Act.put, List.setIfInBounds_toArray, List.set_cons_zero, List.set_cons_succ, i64_w, i32_w]
                    rfl
                  refine pure_ (i := 17) (N := some 96) (v := undef) (a' := ?_) #[true, true, true, true, true, true, true, true, true, true, true, true, true, true, true, true, true, true, false] rfl rfl (by kernel_rfl) (fun _ _ _ h => h) (Or.inr ⟨by rfl, rfl⟩) ?_ ?_
                  rotate_left
                  · simp only [Act.put, List.setIfInBounds_toArray, List.set_cons_zero, List.set_cons_succ, i64_w, i32_w]
                    rfl
                  refine pure_ (i := 18) (N := some 97) (v := ?_) (a' := ?_) #[true, true, true, true, true, true, true, true, true, true, true, true, true, true, true, true, true, true, true] rfl rfl (by kernel_rfl) (fun _ _ _ h => h) (Or.inl ⟨by rfl, ?_⟩) ?_ ?_
                  rotate_left
                  · intro w'
                    go_simp
                    with_reducible rfl
                  rotate_left
                  · simp only [Act.put, List.setIfInBounds_toArray, List.set_cons_zero, List.set_cons_succ, i64_w, i32_w]
                    rfl
                  refine done_ (by kernel_rfl) ?_
                  go_wp2_with fail
                  go_roundw
                  case rel => exact ⟨n + 1, HN.out, by go_num, by rw [HL1.out, HNG.out]; rfl, ⟨HBQ.out.trans (HB6.out.mono HBQ.out.size)⟩⟩
                  case measure => have := HN.out; simp [intOf]; omega)
              · have hs0' : ((((s[0]'hs4).toNat : Int)) == 46) = true := beq_iff_eq.2 hs0
                have hs0n : ((((s[0]'hs4).toNat : Int)) != 46) = false := by rw [bne, hs0']; rfl
                have hr0' : ((((raw[0]'hr4).toNat : Int)) == 46) = false := beq_eq_false_iff_ne.2 hr0
                clear hs0 hr0
                rcases hpre with ⟨⟨hj5, hj6⟩, hj4⟩ | ⟨n0, s0, hj5, hj4, hw, hn7, hx0, hl0⟩ <;> (
                  go_wp2_with fail
                  go_quiet (fail)
                  go_wp2_with fail
                  have HBN := Aside0.mk (Drawn0.below (w' := wr.drewN nq) ⟨nq, rfl⟩)
                  have hd0 := pw_cell_below HBN.out hc0
                  have hd1 := pw_cell_below HBN.out hc1
                  have hd2 := pw_cell_below HBN.out hx
                  have HDM := Aside0.mk (Kd.C_below HCM.out HBN.out)
                  have HBQ := Aside0.mk (HB.out.trans (HBN.out.mono HB.out.size))
                  clear hc0 hc1 hx HBN
                  generalize wr.drewN nq = wq at *
                  refine start_ (n := 19) (S := fun w' => w'.cell? ⟨w2.heap.size, 0, none⟩ = some (.string raw) ∧ w'.cell? ⟨w2.heap.size, 1, none⟩ = some (.slice A2 l.length c2) ∧ w'.cell? (ad.add n) = some (.string s)) (ds := []) #[false, false, false, false, false, false, false, false, false, false, false, false, false, false, false, false, false, false, false] (by kernel_rfl) rfl rfl ⟨hd0, hd1, hd2⟩ (fun hHeld => ?_)
                  have HBD := Aside0.mk (show Below wq.heap.size wq wq.drew from Drawn0.below ⟨1, rfl⟩); generalize wq.drew = wd at HBD hHeld ⊢
                  refine pure_ (i := 1) (N := some 80) (v := ?_) (a' := ?_) #[false, true, false, false, false, false, false, false, false, false, false, false, false, false, false, false, false, false, false] rfl rfl (by kernel_rfl) (fun _ _ _ h => h) (Or.inl ⟨by rfl, ?_⟩) ?_ ?_
                  rotate_left
                  · intro w'
                    go_simp
                    with_reducible rfl
                  rotate_left
                  · simp only [Act.put, List.setIfInBounds_toArray, List.set_cons_zero, List.set_cons_succ, i64_w, i32_w]
                    rfl
                  refine pure_ (i := 2) (N := some 81) (v := ?_) (a' := ?_) #[false, true, true, false, false, false, false, false, false, false, false, false, false, false, false, false, false, false, false] rfl rfl (by kernel_rfl) (fun _ _ _ h => h) (Or.inl ⟨by rfl, ?_⟩) ?_ ?_
                  rotate_left
                  · intro w'
                    go_simp
                    with_reducible rfl
                  rotate_left
                  · simp only [Act.put, List.setIfInBounds_toArray, List.set_cons_zero, List.set_cons_succ, i64_w, i32_w]
                    rfl
                  refine pure_ (i := 3) (N := some 82) (v := ?_) (a' := ?_) #[false, true, true, true, false, false, false, false, false, false, false, false, false, false, false, false, false, false, false] rfl rfl (by kernel_rfl) (fun _ _ _ h => h) (Or.inl ⟨by rfl, ?_⟩) ?_ ?_
                  rotate_left
                  · intro w'
                    go_simp
                    with_reducible rfl
                  rotate_left
                  · simp only [Act.put, List.setIfInBounds_toArray, List.set_cons_zero, List.set_cons_succ, i64_w, i32_w]
                    rfl
                  refine take_ (i := 0) (N := some 79) (v := ?_) (a' := ?_) #[true, true, true, true, false, false, false, false, false, false, false, false, false, false, false, false, false, false, false] rfl rfl (by kernel_rfl) (fun _ _ _ h => h) (Or.inl ⟨by rfl, ?_⟩) hHeld ?_ ?_
                  rotate_left
                  · rintro w' ⟨s0, s1, s2⟩
                    go_simp
                    with_reducible rfl
                  rotate_left
                  · simp only [Act.put, List.setIfInBounds_toArray, List.set_cons_zero, List.set_cons_succ, i64_w, i32_w]
                    rfl
                  refine take_ (i := 4) (N := some 83) (v := ?_) (a' := ?_) #[true, true, true, true, true, false, false, false, false, false, false, false, false, false, false, false, false, false, false] rfl rfl (by kernel_rfl) (fun _ _ _ h => h) (Or.inl ⟨by rfl, ?_⟩) hHeld ?_ ?_
                  rotate_left
                  · rintro w' ⟨s0, s1, s2⟩
                    go_simp
                    with_reducible rfl
                  rotate_left
                  · simp only [Act.put, List.setIfInBounds_toArray, List.set_cons_zero, List.set_cons_succ, i64_w, i32_w]
                    rfl
                  refine one_ (i := 5) (N := some 84) #[true, true, true, true, true, true, false, false, false, false, false, false, false, false, false, false, false, false, false] rfl rfl (by kernel_rfl) (by decide) (fun K hK => ?_)
                  refine goes_ Try.func34 (by kernel_rfl) rfl #[.agg #[.string raw, .slice A2 l.length c2], .string s] (by rfl) rfl rfl (by simp only [List.map_toArray, List.map_cons, List.map_nil]; rfl) ?_
                  with_reducible refine (GrTree.conchref1_Match.calls q raw A2 c2 l s true _ (Kd.C_below HDM.out HBD.out) HLC2.out HQ.out).mono ?_
                  rintro e w6 ⟨rfl, hb6⟩
                  refine ⟨_, rfl, ?_⟩
                  have HB6 := Aside0.mk (HBD.out.trans (hb6.mono HBD.out.size))
                  have hs6 := pw_cell_below hb6 hHeld.2.2
                  have HB7 := Aside0.mk hb6
                  clear hb6
                  obtain ⟨s0, s1, s2⟩ := hHeld
                  refine hK.out _ _ ⟨pw_cell_below HB7.out s0, pw_cell_below HB7.out s1, pw_cell_below HB7.out s2⟩ (fun hHeld => ?_)
                  clear hK K
                  refine norm_ (a' := ?_) ?_ ?_
                  rotate_left
                  · show Act.put _ (some 84) _ = _
                    simp only [Act.put, List.setIfInBounds_toArray, List.set_cons_zero, List.set_cons_succ, i64_w, i32_w]
                    rfl
                  refine pure_ (i := 6) (N := some 85) (v := ?_) (a' := ?_) #[true, true, true, true, true, true, true, false, false, false, false, false, false, false, false, false, false, false, false] rfl rfl (by kernel_rfl) (fun _ _ _ h => h) (Or.inl ⟨by rfl, ?_⟩) ?_ ?_
                  rotate_left
                  · intro w'
                    go_simp
                    with_reducible rfl
                  rotate_left
                  · simp only [Act.put, List.setIfInBounds_toArray, List.set_cons_zero, List.set_cons_succ, i64_w, i32_w]
                    rfl
                  refine pure_ (i := 7) (N := some 86) (v := ?_) (a' := ?_) #[true, true, true, true, true, true, true, true, false, false, false, false, false, false, false, false, false, false, false] rfl rfl (by kernel_rfl) (fun _ _ _ h => h) (Or.inl ⟨by rfl, ?_⟩) ?_ ?_
                  rotate_left
                  · intro w'
                    go_simp
                    with_reducible rfl
                  rotate_left
                  · simp only [Act.put, List.setIfInBounds_toArray, List.set_cons_zero, List.set_cons_succ, i64_w, i32_w]
                    rfl
                  refine pure_ (i := 8) (N := some 87) (v := ?_) (a' := ?_) #[true, true, true, true, true, true, true, true, true, false, false, false, false, false, false, false, false, false, false] rfl rfl (by kernel_rfl) (fun _ _ _ h => h) (Or.inl ⟨by rfl, ?_⟩) ?_ ?_
                  rotate_left
                  · intro w'
                    go_simp
                    with_reducible rfl
                  rotate_left
                  · simp only [Act.put, List.setIfInBounds_toArray, List.set_cons_zero, List.set_cons_succ, i64_w, i32_w]
                    rfl
                  refine pure_ (i := 9) (N := some 88) (v := ?_) (a' := ?_) #[true, true, true, true, true, true, true, true, true, true, false, false, false, false, false, false, false, false, false] rfl rfl (by kernel_rfl) (fun _ _ _ h => h) (Or.inl ⟨by rfl, ?_⟩) ?_ ?_
                  rotate_left
                  · intro w'
                    go_simp
                    with_reducible rfl
                  rotate_left
                  · simp only [Act.put, List.setIfInBounds_toArray, List.set_cons_zero, List.set_cons_succ, i64_w, i32_w]
                    rfl
                  refine take_ (i := 10) (N := some 89) (v := ?_) (a' := ?_) #[true, true, true, true, true, true, true, true, true, true, true, false, false, false, false, false, false, false, false] rfl rfl (by kernel_rfl) (fun _ _ _ h => h) (Or.inl ⟨by rfl, ?_⟩) hHeld ?_ ?_
                  rotate_left
                  · rintro w' ⟨s0, s1, s2⟩
                    go_simp
                    with_reducible rfl
                  rotate_left
                  · simp only [Act.put, List.setIfInBounds_toArray, List.set_cons_zero, List.set_cons_succ, i64_w, i32_w]
                    rfl
                  refine take_ (i := 11) (N := some 90) (v := ?_) (a' := ?_) #[true, true, true, true, true, true, true, true, true, true, true, true, false, false, false, false, false, false, false] rfl rfl (by kernel_rfl) (fun _ _ _ h => h) (Or.inl ⟨by rfl, ?_⟩) hHeld ?_ ?_
                  rotate_left
                  · rintro w' ⟨s0, s1, s2⟩
                    go_simp
                    with_reducible rfl
                  rotate_left
                  · simp only [Act.put, List.setIfInBounds_toArray, List.set_cons_zero, List.set_cons_succ, i64_w, i32_w]
                    rfl
                  refine pure_ (i := 12) (N := some 91) (v := ?_) (a' := ?_) #[true, true, true, true, true, true, true, true, true, true, true, true, true, false, false, false, false, false, false] rfl rfl (by kernel_rfl) (fun _ _ _ h => h) (Or.inl ⟨by rfl, ?_⟩) ?_ ?_
                  rotate_left
                  · intro w'
                    go_simp
                    with_reducible rfl
                  rotate_left
                  · simp only [Act.put, List.setIfInBounds_toArray, List.set_cons_zero, List.set_cons_succ, i64_w, i32_w]
                    rfl
                  refine pure_ (i := 13) (N := some 92) (v := ?_) (a' := ?_) #[true, true, true, true, true, true, true, true, true, true, true, true, true, true, false, false, false, false, false] rfl rfl (by kernel_rfl) (fun _ _ _ h => h) (Or.inl ⟨by rfl, ?_⟩) ?_ ?_
                  rotate_left
                  · intro w'
                    go_simp
                    with_reducible rfl
                  rotate_left
                  · simp only [Act.put, List.setIfInBounds_toArray, List.set_cons_zero, List.set_cons_succ, i64_w, i32_w]
                    rfl
                  refine pure_ (i := 14) (N := some 93) (v := ?_) (a' := ?_) #[true, true, true, true, true, true, true, true, true, true, true, true, true, true, true, false, false, false, false] rfl rfl (by kernel_rfl) (fun _ _ _ h => h) (Or.inl ⟨by rfl, ?_⟩) ?_ ?_
                  rotate_left
                  · intro w'
                    go_simp
                    with_reducible rfl
                  rotate_left
                  · simp only [Act.put, List.setIfInBounds_toArray, List.set_cons_zero, List.set_cons_succ, i64_w, i32_w]
                    rfl
                  refine take_ (i := 15) (N := some 94) (v := ?_) (a' := ?_) #[true, true, true, true, true, true, true, true, true, true, true, true, true, true, true, true, false, false, false] rfl rfl (by kernel_rfl) (fun _ _ _ h => h) (Or.inl ⟨by rfl, ?_⟩) hHeld ?_ ?_
                  rotate_left
                  · rintro w' ⟨s0, s1, s2⟩
                    go_simp
                    with_reducible rfl
                  rotate_left
                  · simp only [Act.put, List.setIfInBounds_toArray, List.set_cons_zero, List.set_cons_succ, i64_w, i32_w]
                    rfl
                  refine pure_ (i := 16) (N := some 95) (v := ?_) (a' := ?_) #[true, true, true, true, true, true, true, true, true, true, true, true, true, true, true, true, true, false, false] rfl rfl (by kernel_rfl) (fun _ _ _ h => h) (Or.inl ⟨by rfl, ?_⟩) ?_ ?_
                  rotate_left
                  · intro w'
                    go_simp
                    with_reducible rfl
                  rotate_left
                  · simp only [Act.put, List.setIfInBounds_toArray, List.set_cons_zero, List.set_cons_succ, i64_w, i32_w]
                    rfl
                  refine pure_ (i := 17) (N := some 96) (v := ?_) (a' := ?_) #[true, true, true, true, true, true, true, true, true, true, true, true, true, true, true, true, true, true, false] rfl rfl (by kernel_rfl) (fun _ _ _ h => h) (Or.inl ⟨by rfl, ?_⟩) ?_ ?_
                  rotate_left
                  · intro w'
                    go_simp
                    with_reducible rfl
                  rotate_left
                  · simp only [Act.put, List.setIfInBounds_toArray, List.set_cons_zero, List.set_cons_succ, i64_w, i32_w]
                    rfl
                  refine pure_ (i := 18) (N := some 97) (v := ?_) (a' := ?_) #[true, true, true, true, true, true, true, true, true, true, true, true, true, true, true, true, true, true, true] rfl rfl (by kernel_rfl) (fun _ _ _ h => h) (Or.inl ⟨by rfl, ?_⟩) ?_ ?_
                  rotate_left
                  · intro w'
                    go_simp
                    with_reducible rfl
                  rotate_left
                  · simp only [Act.put, List.setIfInBounds_toArray, List.set_cons_zero, List.set_cons_succ, i64_w, i32_w]
                    rfl
                  refine done_ (by kernel_rfl) ?_
                  go_wp2_with fail
                  go_roundw
                  case rel => exact ⟨n + 1, HN.out, by go_num, by rw [HL1.out, HNG.out]; rfl, ⟨HBQ.out.trans (HB6.out.mono HBQ.out.size)⟩⟩
                  case measure => have := HN.out; simp [intOf]; omega)
            · have HNG := Aside0.mk hng
              clear hng
              rcases hcase with ⟨rfl, hs0⟩ | ⟨rfl, hs0, hr0⟩
              · have hs0' : ((((s[0]'hs4).toNat : Int)) == 46) = false := beq_eq_false_iff_ne.2 hs0
                have hs0n : ((((s[0]'hs4).toNat : Int)) != 46) = true := by rw [bne, hs0']; rfl
                clear hs0
                rcases hpre with ⟨⟨hj5, hj6⟩, hj4⟩ | ⟨n0, s0, hj5, hj4, hw, hn7, hx0, hl0⟩ <;> (
                  go_wp2_with fail
                  go_quiet (fail)
                  go_wp2_with fail
                  have HBN := Aside0.mk (Drawn0.below (w' := wr.drewN nq) ⟨nq, rfl⟩)
                  have hd0 := pw_cell_below HBN.out hc0
                  have hd1 := pw_cell_below HBN.out hc1
                  have hd2 := pw_cell_below HBN.out hx
                  have HDM := Aside0.mk (Kd.C_below HCM.out HBN.out)
                  have HBQ := Aside0.mk (HB.out.trans (HBN.out.mono HB.out.size))
                  clear hc0 hc1 hx HBN
                  generalize wr.drewN nq = wq at *
                  refine start_ (n := 19) (S := fun w' => w'.cell? ⟨w2.heap.size, 0, none⟩ = some (.string raw) ∧ w'.cell? ⟨w2.heap.size, 1, none⟩ = some (.slice A2 l.length c2) ∧ w'.cell? (ad.add n) = some (.string s)) (ds := []) #[false, false, false, false, false, false, false, false, false, false, false, false, false, false, false, false, false, false, false] (by kernel_rfl) rfl rfl ⟨hd0, hd1, hd2⟩ (fun hHeld => ?_)
                  have HBD := Aside0.mk (show Below wq.heap.size wq wq.drew from Drawn0.below ⟨1, rfl⟩); generalize wq.drew = wd at HBD hHeld ⊢
                  refine pure_ (i := 1) (N := some 80) (v := ?_) (a' := ?_) #[false, true, false, false, false, false, false, false, false, false, false, false, false, false, false, false, false, false, false] rfl rfl (by kernel_rfl) (fun _ _ _ h => h) (Or.inl ⟨by rfl, ?_⟩) ?_ ?_
                  rotate_left
                  · intro w'
                    go_simp
                    with_reducible rfl
                  rotate_left
                  · simp only [Act.put, List.setIfInBounds_toArray, List.set_cons_zero, List.set_cons_succ, i64_w, i32_w]
                    rfl
                  refine pure_ (i := 2) (N := some 81) (v := ?_) (a' := ?_) #[false, true, true, false, false, false, false, false, false, false, false, false, false, false, false, false, false, false, false] rfl rfl (by kernel_rfl) (fun _ _ _ h => h) (Or.inl ⟨by rfl, ?_⟩) ?_ ?_
                  rotate_left
                  · intro w'
                    go_simp
                    with_reducible rfl
                  rotate_left
                  · simp only [Act.put, List.setIfInBounds_toArray, List.set_cons_zero, List.set_cons_succ, i64_w, i32_w]
                    rfl
                  refine pure_ (i := 3) (N := some 82) (v := ?_) (a' := ?_) #[false, true, true, true, false, false, false, false, false, false, false, false, false, false, false, false, false, false, false] rfl rfl (by kernel_rfl) (fun _ _ _ h => h) (Or.inl ⟨by rfl, ?_⟩) ?_ ?_
                  rotate_left
                  · intro w'
                    go_simp
                    with_reducible rfl
                  rotate_left
                  · simp only [Act.put, List.setIfInBounds_toArray, List.set_cons_zero, List.set_cons_succ, i64_w, i32_w]
                    rfl
                  refine take_ (i := 0) (N := some 79) (v := ?_) (a' := ?_) #[true, true, true, true, false, false, false, false, false, false, false, false, false, false, false, false, false, false, false] rfl rfl (by kernel_rfl) (fun _ _ _ h => h) (Or.inl ⟨by rfl, ?_⟩) hHeld ?_ ?_
                  rotate_left
                  · rintro w' ⟨s0, s1, s2⟩
                    go_simp
                    with_reducible rfl
                  rotate_left
                  · simp only [Act.put, List.setIfInBounds_toArray, List.set_cons_zero, List.set_cons_succ, i64_w, i32_w]
                    rfl
                  refine take_ (i := 4) (N := some 83) (v := ?_) (a' := ?_) #[true, true, true, true, true, false, false, false, false, false, false, false, false, false, false, false, false, false, false] rfl rfl (by kernel_rfl) (fun _ _ _ h => h) (Or.inl ⟨by rfl, ?_⟩) hHeld ?_ ?_
                  rotate_left
                  · rintro w' ⟨s0, s1, s2⟩
                    go_simp
                    with_reducible rfl
                  rotate_left
                  · simp only [Act.put, List.setIfInBounds_toArray, List.set_cons_zero, List.set_cons_succ, i64_w, i32_w]
                    rfl
                  refine one_ (i := 5) (N := some 84) #[true, true, true, true, true, true, false, false, false, false, false, false, false, false, false, false, false, false, false] rfl rfl (by kernel_rfl) (by decide) (fun K hK => ?_)
                  refine goes_ Try.func34 (by kernel_rfl) rfl #[.agg #[.string raw, .slice A2 l.length c2], .string s] (by rfl) rfl rfl (by simp only [List.map_toArray, List.map_cons, List.map_nil]; rfl) ?_
                  with_reducible refine (GrTree.conchref1_Match.calls q raw A2 c2 l s true _ (Kd.C_below HDM.out HBD.out) HLC2.out HQ.out).mono ?_
                  rintro e w6 ⟨rfl, hb6⟩
                  refine ⟨_, rfl, ?_⟩
                  have HB6 := Aside0.mk (HBD.out.trans (hb6.mono HBD.out.size))
                  have hs6 := pw_cell_below hb6 hHeld.2.2
                  have HB7 := Aside0.mk hb6
                  clear hb6
                  obtain ⟨s0, s1, s2⟩ := hHeld
                  refine hK.out _ _ ⟨pw_cell_below HB7.out s0, pw_cell_below HB7.out s1, pw_cell_below HB7.out s2⟩ (fun hHeld => ?_)
                  clear hK K
                  refine norm_ (a' := ?_) ?_ ?_
                  rotate_left
                  · show Act.put _ (some 84) _ = _
                    simp only [Act.put, List.setIfInBounds_toArray, List.set_cons_zero, List.set_cons_succ, i64_w, i32_w]
                    rfl
                  refine pure_ (i := 6) (N := some 85) (v := ?_) (a' := ?_) #[true, true, true, true, true, true, true, false, false, false, false, false, false, false, false, false, false, false, false] rfl rfl (by kernel_rfl) (fun _ _ _ h => h) (Or.inl ⟨by rfl, ?_⟩) ?_ ?_
                  rotate_left
                  · intro w'
                    go_simp
                    with_reducible rfl
                  rotate_left
                  · simp only [Act.put, List.setIfInBounds_toArray, List.set_cons_zero, List.set_cons_succ, i64_w, i32_w]
                    rfl
                  refine pure_ (i := 7) (N := some 86) (v := ?_) (a' := ?_) #[true, true, true, true, true, true, true, true, false, false, false, false, false, false, false, false, false, false, false] rfl rfl (by kernel_rfl) (fun _ _ _ h => h) (Or.inl ⟨by rfl, ?_⟩) ?_ ?_
                  rotate_left
                  · intro w'
                    go_simp
                    with_reducible rfl
                  rotate_left
                  · simp only [Act.put, List.setIfInBounds_toArray, List.set_cons_zero, List.set_cons_succ, i64_w, i32_w]
                    rfl
                  refine pure_ (i := 8) (N := some 87) (v := ?_) (a' := ?_) #[true, true, true, true, true, true, true, true, true, false, false, false, false, false, false, false, false, false, false] rfl rfl (by kernel_rfl) (fun _ _ _ h => h) (Or.inl ⟨by rfl, ?_⟩) ?_ ?_
                  rotate_left
                  · intro w'
                    go_simp
                    with_reducible rfl
                  rotate_left
                  · simp only [Act.put, List.setIfInBounds_toArray, List.set_cons_zero, List.set_cons_succ, i64_w, i32_w]
                    rfl
                  refine pure_ (i := 9) (N := some 88) (v := ?_) (a' := ?_) #[true, true, true, true, true, true, true, true, true, true, false, false, false, false, false, false, false, false, false] rfl rfl (by kernel_rfl) (fun _ _ _ h => h) (Or.inl ⟨by rfl, ?_⟩) ?_ ?_
                  rotate_left
                  · intro w'
                    go_simp
                    with_reducible rfl
                  rotate_left
                  · simp only [Act.put, List.setIfInBounds_toArray, List.set_cons_zero, List.set_cons_succ, i64_w, i32_w]
                    rfl
                  refine take_ (i := 10) (N := some 89) (v := ?_) (a' := ?_) #[true, true, true, true, true, true, true, true, true, true, true, false, false, false, false, false, false, false, false] rfl rfl (by kernel_rfl) (fun _ _ _ h => h) (Or.inl ⟨by rfl, ?_⟩) hHeld ?_ ?_
                  rotate_left
                  · rintro w' ⟨s0, s1, s2⟩
                    go_simp
                    with_reducible rfl
                  rotate_left
                  · simp only [Act.put, List.setIfInBounds_toArray, List.set_cons_zero, List.set_cons_succ, i64_w, i32_w]
                    rfl
                  refine take_ (i := 11) (N := some 90) (v := ?_) (a' := ?_) #[true, true, true, true, true, true, true, true, true, true, true, true, false, false, false, false, false, false, false] rfl rfl (by kernel_rfl) (fun _ _ _ h => h) (Or.inl ⟨by rfl, ?_⟩) hHeld ?_ ?_
                  rotate_left
                  · rintro w' ⟨s0, s1, s2⟩
                    go_simp
                    with_reducible rfl
                  rotate_left
                  · simp only [Act.put, List.setIfInBounds_toArray, List.set_cons_zero, List.set_cons_succ, i64_w, i32_w]
                    rfl
                  refine pure_ (i := 12) (N := some 91) (v := ?_) (a' := ?_) #[true, true, true, true, true, true, true, true, true, true, true, true, true, false, false, false, false, false, false] rfl rfl (by kernel_rfl) (fun _ _ _ h => h) (Or.inl ⟨by rfl, ?_⟩) ?_ ?_
                  rotate_left
                  · intro w'
                    go_simp
                    with_reducible rfl
                  rotate_left
                  · simp only [Act.put, List.setIfInBounds_toArray, List.set_cons_zero, List.set_cons_succ, i64_w, i32_w]
                    rfl
                  refine pure_ (i := 13) (N := some 92) (v := ?_) (a' := ?_) #[true, true, true, true, true, true, true, true, true, true, true, true, true, true, false, false, false, false, false] rfl rfl (by kernel_rfl) (fun _ _ _ h => h) (Or.inl ⟨by rfl, ?_⟩) ?_ ?_
                  rotate_left
                  · intro w'
                    go_simp
                    with_reducible rfl
                  rotate_left
                  · simp only [Act.put, List.setIfInBounds_toArray, List.set_cons_zero, List.set_cons_succ, i64_w, i32_w]
                    rfl
                  refine pure_ (i := 14) (N := some 93) (v := undef) (a' := ?_) #[true, true, true, true, true, true, true, true, true, true, true, true, true, true, true, false, false, false, false] rfl rfl (by kernel_rfl) (fun _ _ _ h => h) (Or.inr ⟨by rfl, rfl⟩) ?_ ?_
                  rotate_left
                  · simp only [Act.put, List.setIfInBounds_toArray, List.set_cons_zero, List.set_cons_succ, i64_w, i32_w]
                    rfl
                  refine pure_ (i := 15) (N := some 94) (v := undef) (a' := ?_) #[true, true, true, true, true, true, true, true, true, true, true, true, true, true, true, true, false, false, false] rfl rfl (by kernel_rfl) (fun _ _ _ h => h) (Or.inr ⟨by rfl, rfl⟩) ?_ ?_
                  rotate_left
                  · simp only [Act.put, List.setIfInBounds_toArray, List.set_cons_zero, List.set_cons_succ, i64_w, i32_w]
                    rfl
                  refine pure_ (i := 16) (N := some 95) (v := undef) (a' := ?_) #[true, true, true, true, true, true, true, true, true, true, true, true, true, true, true, true, true, false, false] rfl rfl (by kernel_rfl) (fun _ _ _ h => h) (Or.inr ⟨by rfl, rfl⟩) ?_ ?_
                  rotate_left
                  · simp only [Act.put, List.setIfInBounds_toArray, List.set_cons_zero, List.set_cons_succ, i64_w, i32_w]
                    rfl
                  refine pure_ (i := 17) (N := some 96) (v := ?_) (a' := ?_) #[true, true, true, true, true, true, true, true, true, true, true, true, true, true, true, true, true, true, false] rfl rfl (by kernel_rfl) (fun _ _ _ h => h) (Or.inl ⟨by rfl, ?_⟩) ?_ ?_
                  rotate_left
                  · intro w'
                    go_simp
                    with_reducible rfl
                  rotate_left
                  · simp only [Act.put, List.setIfInBounds_toArray, List.set_cons_zero, List.set_cons_succ, i64_w, i32_w]
                    rfl
                  refine pure_ (i := 18) (N := some 97) (v := ?_) (a' := ?_) #[true, true, true, true, true, true, true, true, true, true, true, true, true, true, true, true, true, true, true] rfl rfl (by kernel_rfl) (fun _ _ _ h => h) (Or.inl ⟨by rfl, ?_⟩) ?_ ?_
                  rotate_left
                  · intro w'
                    go_simp
                    with_reducible rfl
                  rotate_left
                  · simp only [Act.put, List.setIfInBounds_toArray, List.set_cons_zero, List.set_cons_succ, i64_w, i32_w]
                    rfl
                  refine done_ (by kernel_rfl) ?_
                  obtain ⟨hkl, hke⟩ := HF.out HNG.out
                  have HB56 := Aside0.mk (HBQ.out.trans (HB6.out.mono HBQ.out.size))
                  obtain ⟨adg, hadg, hxg⟩ := str_at (Kd.C_below HC45.out HB56.out) hkl
                  rw [hke] at hxg
                  subst hadg
                  have ht1 : (T.length : Int) < (got.length : Int) := by omega
                  have ht2 : decide ((got.length : Int) ≤ (T.length : Int)) = false := decide_eq_false (by omega)
                  have ht4 : decide (got.length ≤ T.length) = false := decide_eq_false (by omega)
                  have ht5 : T.length < got.length := by omega
                  have ht3 : (T.length : Int) ≤ 200 := by have := HGL.out; omega
                  clear hke hkl
                  go_wp2_with fail
                  go_quiet (fail)
                  go_wp2_with fail
                  go_roundw
                  case rel => exact ⟨n + 1, HN.out, by go_num, by rw [HL1.out, HNG.out]; go_num, ⟨(HB56.out.trans ((Drawn0.below (w' := w6.drewN nq) ⟨nq, rfl⟩).mono HB56.out.size))⟩⟩
                  case measure => have := HN.out; simp [intOf]; omega)
              · have hs0' : ((((s[0]'hs4).toNat : Int)) == 46) = true := beq_iff_eq.2 hs0
                have hs0n : ((((s[0]'hs4).toNat : Int)) != 46) = false := by rw [bne, hs0']; rfl
                have hr0' : ((((raw[0]'hr4).toNat : Int)) == 46) = true := beq_iff_eq.2 hr0
                clear hs0 hr0
                rcases hpre with ⟨⟨hj5, hj6⟩, hj4⟩ | ⟨n0, s0, hj5, hj4, hw, hn7, hx0, hl0⟩ <;> (
                  go_wp2_with fail
                  go_quiet (fail)
                  go_wp2_with fail
                  have HBN := Aside0.mk (Drawn0.below (w' := wr.drewN nq) ⟨nq, rfl⟩)
                  have hd0 := pw_cell_below HBN.out hc0
                  have hd1 := pw_cell_below HBN.out hc1
                  have hd2 := pw_cell_below HBN.out hx
                  have HDM := Aside0.mk (Kd.C_below HCM.out HBN.out)
                  have HBQ := Aside0.mk (HB.out.trans (HBN.out.mono HB.out.size))
                  clear hc0 hc1 hx HBN
                  generalize wr.drewN nq = wq at *
                  refine start_ (n := 19) (S := fun w' => w'.cell? ⟨w2.heap.size, 0, none⟩ = some (.string raw) ∧ w'.cell? ⟨w2.heap.size, 1, none⟩ = some (.slice A2 l.length c2) ∧ w'.cell? (ad.add n) = some (.string s)) (ds := []) #[false, false, false, false, false, false, false, false, false, false, false, false, false, false, false, false, false, false, false] (by kernel_rfl) rfl rfl ⟨hd0, hd1, hd2⟩ (fun hHeld => ?_)
                  have HBD := Aside0.mk (show Below wq.heap.size wq wq.drew from Drawn0.below ⟨1, rfl⟩); generalize wq.drew = wd at HBD hHeld ⊢
                  refine pure_ (i := 1) (N := some 80) (v := ?_) (a' := ?_) #[false, true, false, false, false, false, false, false, false, false, false, false, false, false, false, false, false, false, false] rfl rfl (by kernel_rfl) (fun _ _ _ h => h) (Or.inl ⟨by rfl, ?_⟩) ?_ ?_
                  rotate_left
                  · intro w'
                    go_simp
                    with_reducible rfl
                  rotate_left
                  · simp only [Act.put, List.setIfInBounds_toArray, List.set_cons_zero, List.set_cons_succ, i64_w, i32_w]
                    rfl
                  refine pure_ (i := 2) (N := some 81) (v := ?_) (a' := ?_) #[false, true, true, false, false, false, false, false, false, false, false, false, false, false, false, false, false, false, false] rfl rfl (by kernel_rfl) (fun _ _ _ h => h) (Or.inl ⟨by rfl, ?_⟩) ?_ ?_
                  rotate_left
                  · intro w'
                    go_simp
                    with_reducible rfl
                  rotate_left
                  · simp only [Act.put, List.setIfInBounds_toArray, List.set_cons_zero, List.set_cons_succ, i64_w, i32_w]
                    rfl
                  refine pure_ (i := 3) (N := some 82) (v := ?_) (a' := ?_) #[false, true, true, true, false, false, false, false, false, false, false, false, false, false, false, false, false, false, false] rfl rfl (by kernel_rfl) (fun _ _ _ h => h) (Or.inl ⟨by rfl, ?_⟩) ?_ ?_
                  rotate_left
                  · intro w'
                    go_simp
                    with_reducible rfl
                  rotate_left
                  · simp only [Act.put, List.setIfInBounds_toArray, List.set_cons_zero, List.set_cons_succ, i64_w, i32_w]
                    rfl
                  refine take_ (i := 0) (N := some 79) (v := ?_) (a' := ?_) #[true, true, true, true, false, false, false, false, false, false, false, false, false, false, false, false, false, false, false] rfl rfl (by kernel_rfl) (fun _ _ _ h => h) (Or.inl ⟨by rfl, ?_⟩) hHeld ?_ ?_
                  rotate_left
                  · rintro w' ⟨s0, s1, s2⟩
                    go_simp
                    with_reducible rfl
                  rotate_left
                  · simp only [Act.put, List.setIfInBounds_toArray, List.set_cons_zero, List.set_cons_succ, i64_w, i32_w]
                    rfl
                  refine take_ (i := 4) (N := some 83) (v := ?_) (a' := ?_) #[true, true, true, true, true, false, false, false, false, false, false, false, false, false, false, false, false, false, false] rfl rfl (by kernel_rfl) (fun _ _ _ h => h) (Or.inl ⟨by rfl, ?_⟩) hHeld ?_ ?_
                  rotate_left
                  · rintro w' ⟨s0, s1, s2⟩
                    go_simp
                    with_reducible rfl
                  rotate_left
                  · simp only [Act.put, List.setIfInBounds_toArray, List.set_cons_zero, List.set_cons_succ, i64_w, i32_w]
                    rfl
                  refine one_ (i := 5) (N := some 84) #[true, true, true, true, true, true, false, false, false, false, false, false, false, false, false, false, false, false, false] rfl rfl (by kernel_rfl) (by decide) (fun K hK => ?_)
                  refine goes_ Try.func34 (by kernel_rfl) rfl #[.agg #[.string raw, .slice A2 l.length c2], .string s] (by rfl) rfl rfl (by simp only [List.map_toArray, List.map_cons, List.map_nil]; rfl) ?_
                  with_reducible refine (GrTree.conchref1_Match.calls q raw A2 c2 l s true _ (Kd.C_below HDM.out HBD.out) HLC2.out HQ.out).mono ?_
                  rintro e w6 ⟨rfl, hb6⟩
                  refine ⟨_, rfl, ?_⟩
                  have HB6 := Aside0.mk (HBD.out.trans (hb6.mono HBD.out.size))
                  have hs6 := pw_cell_below hb6 hHeld.2.2
                  have HB7 := Aside0.mk hb6
                  clear hb6
                  obtain ⟨s0, s1, s2⟩ := hHeld
                  refine hK.out _ _ ⟨pw_cell_below HB7.out s0, pw_cell_below HB7.out s1, pw_cell_below HB7.out s2⟩ (fun hHeld => ?_)
                  clear hK K
                  refine norm_ (a' := ?_) ?_ ?_
                  rotate_left
                  · show Act.put _ (some 84) _ = _
                    simp only [Act.put, List.setIfInBounds_toArray, List.set_cons_zero, List.set_cons_succ, i64_w, i32_w]
                    rfl
                  refine pure_ (i := 6) (N := some 85) (v := ?_) (a' := ?_) #[true, true, true, true, true, true, true, false, false, false, false, false, false, false, false, false, false, false, false] rfl rfl (by kernel_rfl) (fun _ _ _ h => h) (Or.inl ⟨by rfl, ?_⟩) ?_ ?_
                  rotate_left
                  · intro w'
                    go_simp
                    with_reducible rfl
                  rotate_left
                  · simp only [Act.put, List.setIfInBounds_toArray, List.set_cons_zero, List.set_cons_succ, i64_w, i32_w]
                    rfl
                  refine pure_ (i := 7) (N := some 86) (v := ?_) (a' := ?_) #[true, true, true, true, true, true, true, true, false, false, false, false, false, false, false, false, false, false, false] rfl rfl (by kernel_rfl) (fun _ _ _ h => h) (Or.inl ⟨by rfl, ?_⟩) ?_ ?_
                  rotate_left
                  · intro w'
                    go_simp
                    with_reducible rfl
                  rotate_left
                  · simp only [Act.put, List.setIfInBounds_toArray, List.set_cons_zero, List.set_cons_succ, i64_w, i32_w]
                    rfl
                  refine pure_ (i := 8) (N := some 87) (v := ?_) (a' := ?_) #[true, true, true, true, true, true, true, true, true, false, false, false, false, false, false, false, false, false, false] rfl rfl (by kernel_rfl) (fun _ _ _ h => h) (Or.inl ⟨by rfl, ?_⟩) ?_ ?_
                  rotate_left
                  · intro w'
                    go_simp
                    with_reducible rfl
                  rotate_left
                  · simp only [Act.put, List.setIfInBounds_toArray, List.set_cons_zero, List.set_cons_succ, i64_w, i32_w]
                    rfl
                  refine pure_ (i := 9) (N := some 88) (v := ?_) (a' := ?_) #[true, true, true, true, true, true, true, true, true, true, false, false, false, false, false, false, false, false, false] rfl rfl (by kernel_rfl) (fun _ _ _ h => h) (Or.inl ⟨by rfl, ?_⟩) ?_ ?_
                  rotate_left
                  · intro w'
                    go_simp
                    with_reducible rfl
                  rotate_left
                  · simp only [Act.put, List.setIfInBounds_toArray, List.set_cons_zero, List.set_cons_succ, i64_w, i32_w]
                    rfl
                  refine take_ (i := 10) (N := some 89) (v := ?_) (a' := ?_) #[true, true, true, true, true, true, true, true, true, true, true, false, false, false, false, false, false, false, false] rfl rfl (by kernel_rfl) (fun _ _ _ h => h) (Or.inl ⟨by rfl, ?_⟩) hHeld ?_ ?_
                  rotate_left
                  · rintro w' ⟨s0, s1, s2⟩
                    go_simp
                    with_reducible rfl
                  rotate_left
                  · simp only [Act.put, List.setIfInBounds_toArray, List.set_cons_zero, List.set_cons_succ, i64_w, i32_w]
                    rfl
                  refine take_ (i := 11) (N := some 90) (v := ?_) (a' := ?_) #[true, true, true, true, true, true, true, true, true, true, true, true, false, false, false, false, false, false, false] rfl rfl (by kernel_rfl) (fun _ _ _ h => h) (Or.inl ⟨by rfl, ?_⟩) hHeld ?_ ?_
                  rotate_left
                  · rintro w' ⟨s0, s1, s2⟩
                    go_simp
                    with_reducible rfl
                  rotate_left
                  · simp only [Act.put, List.setIfInBounds_toArray, List.set_cons_zero, List.set_cons_succ, i64_w, i32_w]
                    rfl
                  refine pure_ (i := 12) (N := some 91) (v := ?_) (a' := ?_) #[true, true, true, true, true, true, true, true, true, true, true, true, true, false, false, false, false, false, false] rfl rfl (by kernel_rfl) (fun _ _ _ h => h) (Or.inl ⟨by rfl, ?_⟩) ?_ ?_
                  rotate_left
                  · intro w'
                    go_simp
                    with_reducible rfl
                  rotate_left
                  · simp only [Act.put, List.setIfInBounds_toArray, List.set_cons_zero, List.set_cons_succ, i64_w, i32_w]
                    rfl
                  refine pure_ (i := 13) (N := some 92) (v := ?_) (a' := ?_) #[true, true, true, true, true, true, true, true, true, true, true, true, true, true, false, false, false, false, false] rfl rfl (by kernel_rfl) (fun _ _ _ h => h) (Or.inl ⟨by rfl, ?_⟩) ?_ ?_
                  rotate_left
                  · intro w'
                    go_simp
                    with_reducible rfl
                  rotate_left
                  · simp only [Act.put, List.setIfInBounds_toArray, List.set_cons_zero, List.set_cons_succ, i64_w, i32_w]
                    rfl
                  refine pure_ (i := 14) (N := some 93) (v := ?_) (a' := ?_) #[true, true, true, true, true, true, true, true, true, true, true, true, true, true, true, false, false, false, false] rfl rfl (by kernel_rfl) (fun _ _ _ h => h) (Or.inl ⟨by rfl, ?_⟩) ?_ ?_
                  rotate_left
                  · intro w'
                    go_simp
                    with_reducible rfl
                  rotate_left
                  · simp only [Act.put, List.setIfInBounds_toArray, List.set_cons_zero, List.set_cons_succ, i64_w, i32_w]
                    rfl
                  refine take_ (i := 15) (N := some 94) (v := ?_) (a' := ?_) #[true, true, true, true, true, true, true, true, true, true, true, true, true, true, true, true, false, false, false] rfl rfl (by kernel_rfl) (fun _ _ _ h => h) (Or.inl ⟨by rfl, ?_⟩) hHeld ?_ ?_
                  rotate_left
                  · rintro w' ⟨s0, s1, s2⟩
                    go_simp
                    with_reducible rfl
                  rotate_left
                  · simp only [Act.put, List.setIfInBounds_toArray, List.set_cons_zero, List.set_cons_succ, i64_w, i32_w]
                    rfl
                  refine pure_ (i := 16) (N := some 95) (v := ?_) (a' := ?_) #[true, true, true, true, true, true, true, true, true, true, true, true, true, true, true, true, true, false, false] rfl rfl (by kernel_rfl) (fun _ _ _ h => h) (Or.inl ⟨by rfl, ?_⟩) ?_ ?_
                  rotate_left
                  · intro w'
                    go_simp
                    with_reducible rfl
                  rotate_left
                  · simp only [Act.put, List.setIfInBounds_toArray, List.set_cons_zero, List.set_cons_succ, i64_w, i32_w]
                    rfl
                  refine pure_ (i := 17) (N := some 96) (v := ?_) (a' := ?_) #[true, true, true, true, true, true, true, true, true, true, true, true, true, true, true, true, true, true, false] rfl rfl (by kernel_rfl) (fun _ _ _ h => h) (Or.inl ⟨by rfl, ?_⟩) ?_ ?_
                  rotate_left
                  · intro w'
                    go_simp
                    with_reducible rfl
                  rotate_left
                  · simp only [Act.put, List.setIfInBounds_toArray, List.set_cons_zero, List.set_cons_succ, i64_w, i32_w]
                    rfl
                  refine pure_ (i := 18) (N := some 97) (v := ?_) (a' := ?_) #[true, true, true, true, true, true, true, true, true, true, true, true, true, true, true, true, true, true, true] rfl rfl (by kernel_rfl) (fun _ _ _ h => h) (Or.inl ⟨by rfl, ?_⟩) ?_ ?_
                  rotate_left
                  · intro w'
                    go_simp
                    with_reducible rfl
                  rotate_left
                  · simp only [Act.put, List.setIfInBounds_toArray, List.set_cons_zero, List.set_cons_succ, i64_w, i32_w]
                    rfl
                  refine done_ (by kernel_rfl) ?_
                  obtain ⟨hkl, hke⟩ := HF.out HNG.out
                  have HB56 := Aside0.mk (HBQ.out.trans (HB6.out.mono HBQ.out.size))
                  obtain ⟨adg, hadg, hxg⟩ := str_at (Kd.C_below HC45.out HB56.out) hkl
                  rw [hke] at hxg
                  subst hadg
                  have ht1 : (T.length : Int) < (got.length : Int) := by omega
                  have ht2 : decide ((got.length : Int) ≤ (T.length : Int)) = false := decide_eq_false (by omega)
                  have ht4 : decide (got.length ≤ T.length) = false := decide_eq_false (by omega)
                  have ht5 : T.length < got.length := by omega
                  have ht3 : (T.length : Int) ≤ 200 := by have := HGL.out; omega
                  clear hke hkl
                  go_wp2_with fail
                  go_quiet (fail)
                  go_wp2_with fail
                  go_roundw
                  case rel => exact ⟨n + 1, HN.out, by go_num, by rw [HL1.out, HNG.out]; go_num, ⟨(HB56.out.trans ((Drawn0.below (w' := w6.drewN nq) ⟨nq, rfl⟩).mono HB56.out.size))⟩⟩
                  case measure => have := HN.out; simp [intOf]; omega)
          · obtain rfl : n = all.length := by omega
            rw [List.take_length, ← HGOT.out]
            have HT6 := Aside0.mk (HT5.out.below HB.out)
            have HCW6 := Aside0.mk (HCW5.out.below HB.out)
            clear hn hlt HT5 HCW5 HC5 HC45 HC25 HBX5 HB
            go_wp2_with fail
            refine (tree_Glob g m L raw none 0 [] wr HRI.out.2 HOK.out HT6.out (Kd.C_nil _ _) (Nat.le_refl _) (by have := HRS.out; omega)).mono ?_
            rintro e w7 ⟨v7, rfl, hR7, hb7⟩
            have HT7 := Aside0.mk (HT6.out.below hb7)
            have HCW7 := Aside0.mk (HCW6.out.below hb7)
            rcases HPL.out with ⟨hp, hh⟩ | ⟨hp, hh⟩
            · rw [hp] at hR7
              obtain ⟨A7, c7, rfl, hlc7, hC7⟩ := Kd.R_reads hR7
              obtain ⟨ad7, had7, hx7⟩ := str_at hC7 (show 0 < [raw].length by simp)
              subst had7
              have hx7' : w7.cell? ad7 = some (.string raw) := by simpa [Addr.add] using hx7
              have HH := Aside0.mk hh
              clear hR7 hb7 hlc7 hC7 hp hh HT6 HCW6
              go_wp2_with (first
                | (go_at_call 35; refine (tree_Has g m L raw true _ (by have := HRS.out; unfold maxLen; omega) HT7.out HH.out).mono ?_; rintro e w8 ⟨rfl, rfl⟩)
                | (go_at_call 29; refine (awake12 _).mono ?_; rintro e w1 ⟨rfl, hb⟩; have HB := Aside0.mk hb; clear hb))
              go_ret
              exact ⟨rfl, (HCW7.out.below HB.out).toBelow⟩
            · rw [hp] at hR7
              obtain ⟨A7, c7, rfl, hlc7, hC7⟩ := Kd.R_reads hR7
              have HH := Aside0.mk hh
              clear hR7 hb7 hlc7 hC7 hp hh HT6 HCW6
              go_wp2_with (first
                | (go_at_call 35; refine (tree_Has g m L raw false _ (by have := HRS.out; unfold maxLen; omega) HT7.out HH.out).mono ?_; rintro e w8 ⟨rfl, rfl⟩)
                | (go_at_call 29; refine (awake12 _).mono ?_; rintro e w1 ⟨rfl, hb⟩; have HB := Aside0.mk hb; clear hb))
              go_ret
              exact ⟨rfl, (HCW7.out.below HB.out).toBelow⟩
end Go.Proofs.Ytfdjbjinomfgiaa
