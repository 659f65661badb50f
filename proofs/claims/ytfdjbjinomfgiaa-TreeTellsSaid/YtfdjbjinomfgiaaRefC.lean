/- The document's own files: NewTree and Glob. -/
import Derived.Test.YtfdjbjinomfgiaaRefB
import Derived.Test.YtfdjbjinomfgiaaGlobsP
namespace Go.Proofs.Ytfdjbjinomfgiaa
open Go.RowKit Go.Proofs.YtfdjbjinomfgiaaW.PrintWords Go.Proofs.YtfdjbjinomfgiaaW.PrintLast Go.Proofs.YtfdjbjinomfgiaaW.PrintMore GrTree
set_option linter.unusedSimpArgs false
set_option linter.unusedVariables false

set_option maxHeartbeats 1000000 in
set_option maxRecDepth 100000 in
theorem ref_New (A : Option Addr) (c : Nat) (names : List ByteArray) (w : World) (hC : Kd.C Kd.string w A names.length names) (hsz : ∀ s ∈ names, s.size ≤ 1000000) :
    Calls Try.prog 38 #[.slice A names.length c] w fun e w' => ∃ g, e = .returned (.pointer (some ⟨g, 0, none⟩)) ∧ RefIs w' g w.heap.size ((makeAll names []).map Prod.fst) ∧ Chg none_ w w' ∧ w.heap.size ≤ g := by
  have hC0 := Aside0.mk hC
  have hsz0 := Aside0.mk hsz
  have hmax : (names.length : Int) ≤ 9223372036854775807 := by have := hC.2.1; omega
  clear hC hsz
  go_enter Try.func38, Try.ntmps38
  go_wp2
  have h0 : RefIs (w.alloc (.cells #[.slice none 0 0] 72)) w.heap.size w.heap.size [] := ⟨⟨_, heap_alloc_new _ _, Kd.R_nil _ _ _ _ _⟩, Nat.le_refl _⟩
  have H0 := Aside0.mk h0
  clear h0
  go_loopw [4] (fun i wr => ∃ k : Nat, k ≤ names.length ∧ i = .int .i64 k ∧ Aside0 (RefIs wr w.heap.size w.heap.size ((makeAll (names.take k) []).map Prod.fst)) ∧ Aside0 (Chg none_ w wr)) (fun i _ => names.length - (intOf i).toNat)
  case atStart => exact ⟨0, Nat.zero_le _, rfl, H0, ⟨(Chg.refl _ _).alloc _⟩⟩
  case round =>
    obtain ⟨k, hk, rfl, HT, HB⟩ := hrel
    by_cases hlt : k < names.length
    · have hCr := Kd.C_below hC0.out HB.out.toBelow
      obtain ⟨ad, e, hx⟩ := str_at hCr hlt
      subst e
      have hs1 := Aside0.mk (makeAll_inv (names.take k) [] (by simp [Rising]) (by simp))
      have hsk := hsz0.out _ (getD_mem' hlt ByteArray.empty)
      have htk := take_snoc' hlt ByteArray.empty
      generalize names.getD k ByteArray.empty = s at *
      have HSK := Aside0.mk hsk
      have HTK := Aside0.mk htk
      clear hsk htk
      have hlt' : (k : Int) < (names.length : Int) := by omega
      have HK := Aside0.mk hlt
      clear hCr hlt
      go_wp2_with (go_at_call 40; refine (ref_Make _ _ _ _ _ _ _ HT.out hs1.out.1 hs1.out.2 HSK.out rfl).mono ?_; rintro e w1 ⟨rfl, ht1, hc1⟩; have HT1 := Aside0.mk ht1; have HC1 := Aside0.mk hc1; clear ht1 hc1)
      go_roundw
      case rel =>
        refine ⟨k + 1, HK.out, by go_num, ⟨?_⟩, ⟨HB.out.then_ HC1.out (fun k hk => .inr (by omega))⟩⟩
        rw [HTK.out, makeAll_snoc]
        exact HT1.out
      case measure => have := HK.out; simp [intOf]; omega
    · obtain rfl : k = names.length := by omega
      go_wp2
      go_ret
      refine ⟨w.heap.size, rfl, ?_, HB.out, Nat.le_refl _⟩
      simpa using HT.out

theorem size_zero {p : ByteArray} (h : p.size = 0) : p = ⟨#[]⟩ := by
  obtain ⟨⟨l⟩⟩ := p
  have : l.length = 0 := h
  rw [List.eq_nil_of_length_eq_zero this]
theorem not_empty {p : ByteArray} (h : 0 < p.size) : ¬ p.toList = [] ∧ p.toList.isEmpty = false := by
  have h1 : ¬ p.toList = [] := fun he => by
    rw [toList_data] at he
    have : p.data.toList.length = p.size := rfl
    rw [he] at this
    simp at this
    omega
  exact ⟨h1, by simpa using h1⟩
theorem filter_snoc {p : ByteArray → Bool} {l : List ByteArray} {n : Nat} {x : ByteArray} (h : l.take (n + 1) = l.take n ++ [x]) : (l.take (n + 1)).filter p = (l.take n).filter p ++ (if p x then [x] else []) := by
  rw [h, List.filter_append]
  congr 1
  by_cases hp : p x = true <;> simp [hp]

set_option maxHeartbeats 4000000 in
set_option maxRecDepth 100000 in
theorem ref_Glob (g base : Nat) (L : List ByteArray) (p : ByteArray) (A : Option Addr) (c : Nat) (l : List Bool) (w : World) (hl : L.length ≤ 200) (hok : ∀ s ∈ L, 1 ≤ s.size ∧ s.size ≤ 100) (hr : RefIs w g base L) (hC : Kd.C Kd.bool w A l.length l) (hlc : l.length ≤ c) (hp : p.size ≤ 1000000) :
    Calls Try.prog 43 #[.pointer (some ⟨g, 0, none⟩), .agg #[.string p, .slice A l.length c]] w fun e w' => ∃ v, e = .returned v ∧ Kd.R Kd.string 9 w' w.heap.size (fun _ => True) v (L.filter fun s => !noGlob p l s) ∧ Below w.heap.size w w' := by
  have hB0 : Below w.heap.size w (w.alloc (.cells #[.string p, .slice A l.length c] 60)) := (Below.refl _ _).alloc (Nat.le_refl _) _
  have HBX := Aside0.mk (heap_alloc_new w (.cells #[.string p, .slice A l.length c] 60))
  have HB0 := Aside0.mk hB0
  obtain ⟨AL, cL, _, hcell0, _, hCL0, _⟩ := hr.opened
  have HCELL := Aside0.mk hcell0
  have HCL := Aside0.mk hCL0
  have HC := Aside0.mk hC
  have HL := Aside0.mk hl
  have HLC := Aside0.mk hlc
  have HOK := Aside0.mk hok
  have HP := Aside0.mk hp
  have hl' : (L.length : Int) ≤ 200 := by omega
  clear hr hC hB0 hl hlc hok hp hcell0 hCL0
  go_enter Try.func43, Try.ntmps43
  go_wp2
  go_loopw [5, 6] (fun v i wr => ∃ n : Nat, n ≤ L.length ∧ i = .int .i64 n ∧ Aside0 (Kd.R Kd.string 9 wr w.heap.size (fun _ => True) v ((L.take n).filter fun s => !noGlob p l s)) ∧ Aside0 (Below w.heap.size w wr) ∧ Aside0 (wr.heap[w.heap.size]? = some (.cells #[.string p, .slice A l.length c] 60 (0, 0)))) (fun _ i _ => L.length - (intOf i).toNat)
  case atStart => exact ⟨0, Nat.zero_le _, rfl, ⟨Kd.R_nil _ _ _ _ _⟩, HB0, HBX⟩
  case round =>
    obtain ⟨n, hn, rfl, HR, HB, HX⟩ := hrel
    have hcell := pw_cell_below HB.out HCELL.out
    by_cases hlt : n < L.length
    · have hCr := Kd.C_below HCL.out HB.out
      obtain ⟨ad, e, hx⟩ := str_at hCr hlt
      subst e
      have hlt' : (n : Int) < (L.length : Int) := by omega
      have hsz := HOK.out _ (getD_mem' hlt ByteArray.empty)
      have hq := ref_match p l (L.getD n ByteArray.empty) HP.out (by omega)
      have htk := filter_snoc (p := fun s => !noGlob p l s) (take_snoc' hlt ByteArray.empty)
      have hkd := keep_dot p l (L.getD n ByteArray.empty)
      generalize L.getD n ByteArray.empty = s at *
      obtain ⟨q, hq⟩ := hq
      have hs3 : (0 : Int) < (s.size : Int) := by omega
      have hs4 : 0 < s.size := by omega
      have hds : dotB s = decide (((s[0]'hs4).toNat : Int) = 46) := by unfold dotB; rw [← bt_at s 0 hs4]; rfl
      have hb0 : (wr.cell? ⟨w.heap.size, 0, none⟩ = some (.string p)) ∧ (wr.cell? ⟨w.heap.size, 1, none⟩ = some (.slice A l.length c)) :=
        ⟨by simp [World.cell?, HX.out], by simp [World.cell?, HX.out]⟩
      obtain ⟨hc0, hc1⟩ := hb0
      have HCM := Aside0.mk (Kd.C_below HC.out HB.out)
      have HTK := Aside0.mk htk
      have HQ := Aside0.mk hq
      have HN := Aside0.mk hlt
      clear htk hq hn hsz hCr hlt
      have hcase : ((!noGlob p l s) = false ∧ ((s[0]'hs4).toNat : Int) = 46 ∧ (p.size = 0 ∨ ∃ h : 0 < p.size, ((p[0]'h).toNat : Int) ≠ 46)) ∨ ((!noGlob p l s) = matchB p l s ∧ (((s[0]'hs4).toNat : Int) ≠ 46 ∨ ((s[0]'hs4).toNat : Int) = 46 ∧ ∃ h : 0 < p.size, ((p[0]'h).toNat : Int) = 46)) := by
        rw [hkd, hds]
        by_cases h1 : ((s[0]'hs4).toNat : Int) = 46
        · by_cases h0 : 0 < p.size
          · have hdp : dotB p = decide (((p[0]'h0).toNat : Int) = 46) := by unfold dotB; rw [← bt_at p 0 h0]; rfl
            by_cases h2 : ((p[0]'h0).toNat : Int) = 46
            · exact .inr ⟨by rw [hdp]; simp [h1, h2], .inr ⟨h1, h0, h2⟩⟩
            · exact .inl ⟨by rw [hdp]; simp [h1, h2], h1, .inr ⟨h0, h2⟩⟩
          · have hz : p.size = 0 := by omega
            have hdp : dotB p = false := by
              unfold dotB bt
              rw [dif_neg (by simp [hz])]
              decide
            exact .inl ⟨by rw [hdp]; simp [h1], h1, .inl hz⟩
        · exact .inr ⟨by simp [h1], .inl h1⟩
      clear hkd hds
      generalize noGlob p l s = ng at *
      generalize matchB p l s = M at *
      rcases hcase with ⟨hng, hs0, hp0⟩ | ⟨hng, hgo⟩
      · have HNG := Aside0.mk hng
        have hs0' : ((((s[0]'hs4).toNat : Int)) == 46) = true := beq_iff_eq.2 hs0
        clear hng hs0
        have hp1 : (p.toList = [] ∧ p.toList.isEmpty = true) ∨ (¬ p.toList = [] ∧ p.toList.isEmpty = false) ∧ ∃ h : 0 < p.size, (0 : Int) < (p.size : Int) ∧ ((((p[0]'h).toNat : Int)) != 46) = true ∧ ((((p[0]'h).toNat : Int)) == 46) = false := by
          rcases hp0 with hz | ⟨h, hne⟩
          · have := size_zero hz
            subst this
            exact .inl ⟨by rw [toList_data], by rw [toList_data]; rfl⟩
          · exact .inr ⟨not_empty h, h, by omega, by simp [bne, beq_eq_false_iff_ne.2 hne], beq_eq_false_iff_ne.2 hne⟩
        clear hp0
        rcases hp1 with ⟨hpe, hpe2⟩ | ⟨⟨hpe, hpe2⟩, h0, h0', hpn, hpn2⟩ <;> (
          go_wp2
          go_roundw
          case rel => exact ⟨n + 1, HN.out, by go_num, ⟨by rw [HTK.out, HNG.out]; simpa using HR.out⟩, HB, HX⟩
          case measure => have := HN.out; simp [intOf]; omega)
      · have hp1 : ((((s[0]'hs4).toNat : Int)) == 46) = false ∨ ((((s[0]'hs4).toNat : Int)) == 46) = true ∧ (¬ p.toList = [] ∧ p.toList.isEmpty = false) ∧ ∃ h : 0 < p.size, (0 : Int) < (p.size : Int) ∧ ((((p[0]'h).toNat : Int)) != 46) = false ∧ ((((p[0]'h).toNat : Int)) == 46) = true := by
          rcases hgo with h1 | ⟨h1, h, he⟩
          · exact .inl (beq_eq_false_iff_ne.2 h1)
          · exact .inr ⟨beq_iff_eq.2 h1, not_empty h, h, by omega, by simp [bne, beq_iff_eq.2 he], beq_iff_eq.2 he⟩
        clear hgo
        have HNG := Aside0.mk hng
        clear hng
        cases M with
        | false =>
          rcases hp1 with hs0' | ⟨hs0', ⟨hpe, hpe2⟩, h0, h0', hpn, hpn2⟩ <;> (
            go_wp2_with fail
            refine start_ (n := 9) (S := fun w' => w'.cell? ⟨w.heap.size, 0, none⟩ = some (.string p) ∧ w'.cell? ⟨w.heap.size, 1, none⟩ = some (.slice A l.length c) ∧ w'.cell? ⟨g, 0, none⟩ = some (.slice (some ad) L.length cL) ∧ w'.cell? (ad.add n) = some (.string s)) (ds := []) #[false, false, false, false, false, false, false, false, false] (by kernel_rfl) rfl rfl ⟨hc0, hc1, hcell, hx⟩ (fun hHeld => ?_)
            have HBD := Aside0.mk (show Below wr.heap.size wr wr.drew from Drawn0.below ⟨1, rfl⟩); generalize wr.drew = wd at HBD hHeld ⊢
            refine pure_ (i := 1) (N := some 37) (v := ?_) (a' := ?_) #[false, true, false, false, false, false, false, false, false] rfl rfl (by kernel_rfl) (fun _ _ _ h => h) (Or.inl ⟨by rfl, ?_⟩) ?_ ?_
            rotate_left
            · intro w'
              go_simp
              with_reducible rfl
            rotate_left
            · simp only [Act.put, List.setIfInBounds_toArray, List.set_cons_zero, List.set_cons_succ, i64_w, i32_w]
              rfl
            refine pure_ (i := 2) (N := some 38) (v := ?_) (a' := ?_) #[false, true, true, false, false, false, false, false, false] rfl rfl (by kernel_rfl) (fun _ _ _ h => h) (Or.inl ⟨by rfl, ?_⟩) ?_ ?_
            rotate_left
            · intro w'
              go_simp
              with_reducible rfl
            rotate_left
            · simp only [Act.put, List.setIfInBounds_toArray, List.set_cons_zero, List.set_cons_succ, i64_w, i32_w]
              rfl
            refine pure_ (i := 3) (N := some 39) (v := ?_) (a' := ?_) #[false, true, true, true, false, false, false, false, false] rfl rfl (by kernel_rfl) (fun _ _ _ h => h) (Or.inl ⟨by rfl, ?_⟩) ?_ ?_
            rotate_left
            · intro w'
              go_simp
              with_reducible rfl
            rotate_left
            · simp only [Act.put, List.setIfInBounds_toArray, List.set_cons_zero, List.set_cons_succ, i64_w, i32_w]
              rfl
            refine pure_ (i := 5) (N := some 41) (v := ?_) (a' := ?_) #[false, true, true, true, false, true, false, false, false] rfl rfl (by kernel_rfl) (fun _ _ _ h => h) (Or.inl ⟨by rfl, ?_⟩) ?_ ?_
            rotate_left
            · intro w'
              go_simp
              with_reducible rfl
            rotate_left
            · simp only [Act.put, List.setIfInBounds_toArray, List.set_cons_zero, List.set_cons_succ, i64_w, i32_w]
              rfl
            refine take_ (i := 0) (N := some 36) (v := ?_) (a' := ?_) #[true, true, true, true, false, true, false, false, false] rfl rfl (by kernel_rfl) (fun _ _ _ h => h) (Or.inl ⟨by rfl, ?_⟩) hHeld ?_ ?_
            rotate_left
            · rintro w' ⟨s0, s1, s2, s3⟩
              go_simp
              with_reducible rfl
            rotate_left
            · simp only [Act.put, List.setIfInBounds_toArray, List.set_cons_zero, List.set_cons_succ, i64_w, i32_w]
              rfl
            refine take_ (i := 4) (N := some 40) (v := ?_) (a' := ?_) #[true, true, true, true, true, true, false, false, false] rfl rfl (by kernel_rfl) (fun _ _ _ h => h) (Or.inl ⟨by rfl, ?_⟩) hHeld ?_ ?_
            rotate_left
            · rintro w' ⟨s0, s1, s2, s3⟩
              go_simp
              with_reducible rfl
            rotate_left
            · simp only [Act.put, List.setIfInBounds_toArray, List.set_cons_zero, List.set_cons_succ, i64_w, i32_w]
              rfl
            refine pure_ (i := 6) (N := some 42) (v := ?_) (a' := ?_) #[true, true, true, true, true, true, true, false, false] rfl rfl (by kernel_rfl) (fun _ _ _ h => h) (Or.inl ⟨by rfl, ?_⟩) ?_ ?_
            rotate_left
            · intro w'
              go_simp
              with_reducible rfl
            rotate_left
            · simp only [Act.put, List.setIfInBounds_toArray, List.set_cons_zero, List.set_cons_succ, i64_w, i32_w]
              rfl
            refine take_ (i := 7) (N := some 43) (v := ?_) (a' := ?_) #[true, true, true, true, true, true, true, true, false] rfl rfl (by kernel_rfl) (fun _ _ _ h => h) (Or.inl ⟨by rfl, ?_⟩) hHeld ?_ ?_
            rotate_left
            · rintro w' ⟨s0, s1, s2, s3⟩
              go_simp
              with_reducible rfl
            rotate_left
            · simp only [Act.put, List.setIfInBounds_toArray, List.set_cons_zero, List.set_cons_succ, i64_w, i32_w]
              rfl
            refine one_ (i := 8) (N := some 44) #[true, true, true, true, true, true, true, true, true] rfl rfl (by kernel_rfl) (by decide) (fun K hK => ?_)
            refine goes_ Try.func34 (by kernel_rfl) rfl #[.agg #[.string p, .slice A l.length c], .string s] (by rfl) rfl rfl (by simp only [List.map_toArray, List.map_cons, List.map_nil]; rfl) ?_
            with_reducible refine (GrTree.conchref1_Match.calls q p A c l s _ _ (Kd.C_below HCM.out HBD.out) HLC.out HQ.out).mono ?_
            rintro e w6 ⟨rfl, hb6⟩
            refine ⟨_, rfl, ?_⟩
            have HB6 := Aside0.mk (HBD.out.trans (hb6.mono HBD.out.size))
            have HB7 := Aside0.mk hb6
            clear hb6
            obtain ⟨s0, s1, s2, s3⟩ := hHeld
            have hcell6 := pw_cell_below HB7.out s2
            have hx6 := pw_cell_below HB7.out s3
            refine hK.out _ _ ⟨pw_cell_below HB7.out s0, pw_cell_below HB7.out s1, hcell6, hx6⟩ (fun hHeld => ?_)
            clear hK K
            refine norm_ (a' := ?_) ?_ ?_
            rotate_left
            · show Act.put _ (some 44) _ = _
              simp only [Act.put, List.setIfInBounds_toArray, List.set_cons_zero, List.set_cons_succ, i64_w, i32_w]
              rfl
            refine done_ (by kernel_rfl) ?_
            go_wp2_with fail
            go_roundw
            case rel => exact ⟨n + 1, HN.out, by go_num, ⟨by rw [HTK.out, HNG.out]; simpa using Kd.R_below HR.out HB6.out⟩, ⟨HB.out.trans (HB6.out.mono HB.out.size)⟩, ⟨(HB6.out.block _ (blk_lt' HX.out)).trans HX.out⟩⟩
            case measure => have := HN.out; simp [intOf]; omega)
        | true =>
          rcases hp1 with hs0' | ⟨hs0', ⟨hpe, hpe2⟩, h0, h0', hpn, hpn2⟩ <;> (
            go_wp2_with fail
            refine start_ (n := 9) (S := fun w' => w'.cell? ⟨w.heap.size, 0, none⟩ = some (.string p) ∧ w'.cell? ⟨w.heap.size, 1, none⟩ = some (.slice A l.length c) ∧ w'.cell? ⟨g, 0, none⟩ = some (.slice (some ad) L.length cL) ∧ w'.cell? (ad.add n) = some (.string s)) (ds := []) #[false, false, false, false, false, false, false, false, false] (by kernel_rfl) rfl rfl ⟨hc0, hc1, hcell, hx⟩ (fun hHeld => ?_)
            have HBD := Aside0.mk (show Below wr.heap.size wr wr.drew from Drawn0.below ⟨1, rfl⟩); generalize wr.drew = wd at HBD hHeld ⊢
            refine pure_ (i := 1) (N := some 37) (v := ?_) (a' := ?_) #[false, true, false, false, false, false, false, false, false] rfl rfl (by kernel_rfl) (fun _ _ _ h => h) (Or.inl ⟨by rfl, ?_⟩) ?_ ?_
            rotate_left
            · intro w'
              go_simp
              with_reducible rfl
            rotate_left
            · simp only [Act.put, List.setIfInBounds_toArray, List.set_cons_zero, List.set_cons_succ, i64_w, i32_w]
              rfl
            refine pure_ (i := 2) (N := some 38) (v := ?_) (a' := ?_) #[false, true, true, false, false, false, false, false, false] rfl rfl (by kernel_rfl) (fun _ _ _ h => h) (Or.inl ⟨by rfl, ?_⟩) ?_ ?_
            rotate_left
            · intro w'
              go_simp
              with_reducible rfl
            rotate_left
            · simp only [Act.put, List.setIfInBounds_toArray, List.set_cons_zero, List.set_cons_succ, i64_w, i32_w]
              rfl
            refine pure_ (i := 3) (N := some 39) (v := ?_) (a' := ?_) #[false, true, true, true, false, false, false, false, false] rfl rfl (by kernel_rfl) (fun _ _ _ h => h) (Or.inl ⟨by rfl, ?_⟩) ?_ ?_
            rotate_left
            · intro w'
              go_simp
              with_reducible rfl
            rotate_left
            · simp only [Act.put, List.setIfInBounds_toArray, List.set_cons_zero, List.set_cons_succ, i64_w, i32_w]
              rfl
            refine pure_ (i := 5) (N := some 41) (v := ?_) (a' := ?_) #[false, true, true, true, false, true, false, false, false] rfl rfl (by kernel_rfl) (fun _ _ _ h => h) (Or.inl ⟨by rfl, ?_⟩) ?_ ?_
            rotate_left
            · intro w'
              go_simp
              with_reducible rfl
            rotate_left
            · simp only [Act.put, List.setIfInBounds_toArray, List.set_cons_zero, List.set_cons_succ, i64_w, i32_w]
              rfl
            refine take_ (i := 0) (N := some 36) (v := ?_) (a' := ?_) #[true, true, true, true, false, true, false, false, false] rfl rfl (by kernel_rfl) (fun _ _ _ h => h) (Or.inl ⟨by rfl, ?_⟩) hHeld ?_ ?_
            rotate_left
            · rintro w' ⟨s0, s1, s2, s3⟩
              go_simp
              with_reducible rfl
            rotate_left
            · simp only [Act.put, List.setIfInBounds_toArray, List.set_cons_zero, List.set_cons_succ, i64_w, i32_w]
              rfl
            refine take_ (i := 4) (N := some 40) (v := ?_) (a' := ?_) #[true, true, true, true, true, true, false, false, false] rfl rfl (by kernel_rfl) (fun _ _ _ h => h) (Or.inl ⟨by rfl, ?_⟩) hHeld ?_ ?_
            rotate_left
            · rintro w' ⟨s0, s1, s2, s3⟩
              go_simp
              with_reducible rfl
            rotate_left
            · simp only [Act.put, List.setIfInBounds_toArray, List.set_cons_zero, List.set_cons_succ, i64_w, i32_w]
              rfl
            refine pure_ (i := 6) (N := some 42) (v := ?_) (a' := ?_) #[true, true, true, true, true, true, true, false, false] rfl rfl (by kernel_rfl) (fun _ _ _ h => h) (Or.inl ⟨by rfl, ?_⟩) ?_ ?_
            rotate_left
            · intro w'
              go_simp
              with_reducible rfl
            rotate_left
            · simp only [Act.put, List.setIfInBounds_toArray, List.set_cons_zero, List.set_cons_succ, i64_w, i32_w]
              rfl
            refine take_ (i := 7) (N := some 43) (v := ?_) (a' := ?_) #[true, true, true, true, true, true, true, true, false] rfl rfl (by kernel_rfl) (fun _ _ _ h => h) (Or.inl ⟨by rfl, ?_⟩) hHeld ?_ ?_
            rotate_left
            · rintro w' ⟨s0, s1, s2, s3⟩
              go_simp
              with_reducible rfl
            rotate_left
            · simp only [Act.put, List.setIfInBounds_toArray, List.set_cons_zero, List.set_cons_succ, i64_w, i32_w]
              rfl
            refine one_ (i := 8) (N := some 44) #[true, true, true, true, true, true, true, true, true] rfl rfl (by kernel_rfl) (by decide) (fun K hK => ?_)
            refine goes_ Try.func34 (by kernel_rfl) rfl #[.agg #[.string p, .slice A l.length c], .string s] (by rfl) rfl rfl (by simp only [List.map_toArray, List.map_cons, List.map_nil]; rfl) ?_
            with_reducible refine (GrTree.conchref1_Match.calls q p A c l s _ _ (Kd.C_below HCM.out HBD.out) HLC.out HQ.out).mono ?_
            rintro e w6 ⟨rfl, hb6⟩
            refine ⟨_, rfl, ?_⟩
            have HB6 := Aside0.mk (HBD.out.trans (hb6.mono HBD.out.size))
            have HB7 := Aside0.mk hb6
            clear hb6
            obtain ⟨s0, s1, s2, s3⟩ := hHeld
            have hcell6 := pw_cell_below HB7.out s2
            have hx6 := pw_cell_below HB7.out s3
            refine hK.out _ _ ⟨pw_cell_below HB7.out s0, pw_cell_below HB7.out s1, hcell6, hx6⟩ (fun hHeld => ?_)
            clear hK K
            refine norm_ (a' := ?_) ?_ ?_
            rotate_left
            · show Act.put _ (some 44) _ = _
              simp only [Act.put, List.setIfInBounds_toArray, List.set_cons_zero, List.set_cons_succ, i64_w, i32_w]
              rfl
            refine done_ (by kernel_rfl) ?_
            have HR6 := Aside0.mk (Kd.R_below HR.out HB6.out)
            have HX6 := Aside0.mk (show w6.heap[w.heap.size]? = _ from (HB6.out.block _ (blk_lt' HX.out)).trans HX.out)
            have HB66 := Aside0.mk (HB.out.trans (HB6.out.mono HB.out.size))
            go_wp2_with (at_builtin; refine Kd.R_append Kd.string (w0 := w) w.heap.size rfl (.tmp 45) (.tmp 53) 22 9 (.string ⟨#[]⟩) 16 rfl Try.underlying22 info_str rfl (by decide) (by omega) _ ((L.take n).filter fun s => !noGlob p l s) s [.string s] (fun _ => True) (fun _ => False) rfl rfl rfl (fun _ hk => hk.elim) (fun _ _ => trivial) HR6.out HB66.out HB66.out.size (by have h1 := List.length_filter_le (fun s => !noGlob p l s) (L.take n); rw [List.length_take] at h1; have := HL.out; omega) ?_; intro v1 w1 hR1 hB1 hG1 _; have HR1 := Aside0.mk hR1; have HB1 := Aside0.mk hB1; have HG1 := Aside0.mk hG1; clear hR1 hB1 hG1)
            go_roundw
            case rel => exact ⟨n + 1, HN.out, by go_num, ⟨by rw [HTK.out, HNG.out]; simpa using HR1.out⟩, HB1, ⟨(HG1.out.block _ (blk_lt' HX6.out) (Kd.R_ne HR6.out HX6.out (by decide))).trans HX6.out⟩⟩
            case measure => have := HN.out; simp [intOf]; omega)
    · obtain rfl : n = L.length := by omega
      rw [List.take_length] at HR
      go_wp2
      go_ret
      exact ⟨_, rfl, HR.out, HB.out⟩
end Go.Proofs.Ytfdjbjinomfgiaa
