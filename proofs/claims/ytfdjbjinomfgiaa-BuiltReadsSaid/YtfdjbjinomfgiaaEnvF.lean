/- Variables: New. -/
import Derived.Test.YtfdjbjinomfgiaaEnvE
namespace Go.Proofs.Ytfdjbjinomfgiaa
open Go.RowKit Go.Maps Go.Proofs.YtfdjbjinomfgiaaW.PrintWords Go.Proofs.YtfdjbjinomfgiaaW.PrintLast Go.Proofs.YtfdjbjinomfgiaaW.PrintMore
set_option linter.unusedSimpArgs false
set_option linter.unusedVariables false
theorem ifs_list : ifsB.toList = [73, 70, 83] := by rw [toList_data]; rfl
/-- What New leaves. -/
def newVarF (S : EnvS) (p : ByteArray × ByteArray) : EnvS := if p.1 = ifsB then S else (setF S p.1 p.2).2
def env0 : EnvS := ⟨[(ifsB, blanksB)], [], (none, none, none)⟩
def newVars (l : VTab) : EnvS := l.foldl newVarF env0
def newF (l : VTab) (args : List ByteArray) : EnvS := { newVars l with args := argsF args }
theorem newVars_snoc (l : VTab) (p : ByteArray × ByteArray) : newVars (l ++ [p]) = newVarF (newVars l) p := by
  unfold newVars; rw [List.foldl_append]; rfl
theorem newVarF_ok {S : EnvS} (h : EnvOk S) (p : ByteArray × ByteArray) (hp : p.1.size ≤ 1000000) : EnvOk (newVarF S p) := by
  unfold newVarF
  split
  · exact h
  · exact setF_ok h _ _ hp
theorem env0_ok : EnvOk env0 := ⟨by simp [env0, Rising], by simp [env0], by simp [env0], fun p hp => by
  simp only [env0, List.mem_singleton] at hp
  subst hp
  exact ⟨by decide +kernel, by decide, by decide +kernel⟩, fun s hs => by simp [env0] at hs⟩
theorem var_at {w : World} {A : Option Addr} {n : Nat} {xs : VTab} (h : Kd.C VarK w A n xs) {k : Nat} (hk : k < n) : ∃ ad, A = some ad ∧ w.cell? (ad.add (k * 2)) = some (.string (xs.getD k (ByteArray.empty, ByteArray.empty)).1) ∧ w.cell? ⟨(ad.add (k * 2)).block, (ad.add (k * 2)).off + 1, none⟩ = some (.string (xs.getD k (ByteArray.empty, ByteArray.empty)).2) := by
  obtain ⟨ad, c, e, _, hK, hc0⟩ := Kd.C_get h (ByteArray.empty, ByteArray.empty) (k : Int) (by omega) (by omega)
  have hc : ∀ j u, c[j]? = some u → w.cell? (ad.add (k * 2 + j)) = some u := hc0
  obtain ⟨_, _, rfl, rfl, rfl⟩ := hK
  exact ⟨ad, e, hc 0 _ rfl, by rw [← add_field _ _ 1 (by omega)]; exact hc 1 _ rfl⟩

set_option maxHeartbeats 4000000 in
set_option maxRecDepth 100000 in
theorem env_New (A : Option Addr) (c : Nat) (l : VTab) (B : Option Addr) (d : Nat) (args : List ByteArray) (w : World) (hA : Kd.C VarK w A l.length l) (hB : Kd.C Kd.string w B args.length args) (hlc : l.length ≤ c) (hld : args.length ≤ d) (hsz : ∀ p ∈ l, p.1.size ≤ 1000000 ∧ p.2.size ≤ 1000000) (hsa : ∀ s ∈ args, s.size ≤ 1000000) :
    Calls Try.prog 12 #[.slice A l.length c, .slice B args.length d] w fun e w' => ∃ g m1 m2, e = .returned (.pointer (some ⟨g, 0, none⟩)) ∧ EnvIs w' g m1 m2 (newF l args) ∧ Below w.heap.size w w' ∧ w.heap.size ≤ g ∧ w.heap.size ≤ m1 ∧ w.heap.size ≤ m2 := by
  have HA := Aside0.mk hA
  have HB := Aside0.mk hB
  have HSZ := Aside0.mk hsz
  have HSA := Aside0.mk hsa
  have hmx : (l.length : Int) ≤ 9223372036854775807 := by have := hA.2.1; omega
  clear hA hB hsz hsa
  have hmm := @run_makeMap Try.prog
  obtain ⟨w1, hins, hown, hturn⟩ := (World.ownsMap_made (H := Unit) w Try.prog 9 (plainElem Try.prog 9)).store e_law9 (t := 100) Try.underlying100 (by unfold maxLen; omega) (key := .string ⟨#[73, 70, 83]⟩) (val := .string ⟨#[32, 9, 10]⟩) (kl := .string ifsB.data.toList) (d := .lit (.string blanksB.data.toList)) (ps := []) (WideMaps.keyOf_string_mk (s := ifsB) Try.underlying9 (by decide)) (plainElem_string (s := blanksB) Try.underlying9 (by decide))
  have hc1 : Chg none_ w w1 := ((Chg.refl none_ w).alloc _).then_ ((Chg.refl (fun k => k = w.heap.size) _).turned hturn (.inl rfl)) (fun k hk => .inr (by rw [hk]; exact Nat.le_refl _))
  have hlt1 : w.heap.size < w1.heap.size := hown.lt
  have hE0 : EnvIs ((w1.alloc (.map #[] 0)).alloc (.cells #[.map (some w.heap.size), .slice none 0 0, .map (some w1.heap.size)] 106)) (w1.heap.size + 1) w.heap.size w1.heap.size env0 := by
    refine ⟨⟨_, heap_new1 _ _ _, Kd.R_nil _ _ _ _ _⟩, ?_, ?_, by omega, env0_ok⟩
    · have h2 := e_owns_exact ((hown.alloc (.map #[] 0)).alloc (.cells #[.map (some w.heap.size), .slice none 0 0, .map (some w1.heap.size)] 106))
      rw [show (DataW.lit (.string blanksB.data.toList) : DataW Unit) = encS blanksB from rfl, show (DataW.map [] : DataW Unit) = tab encS [] from rfl, tab_put, tab_size] at h2
      exact h2
    · exact (World.ownsMap_made (H := Unit) w1 Try.prog 5 (plainElem Try.prog 3)).alloc _
  have HE0 := Aside0.mk hE0
  have HC1 := Aside0.mk hc1
  have HLT1 := Aside0.mk hlt1
  clear hE0 hc1 hlt1 hown hturn
  go_enter Try.func12, Try.ntmps12
  go_wp2_with fail
  have HCA := Aside0.mk ((HC1.out.alloc (.map #[] 0)).alloc (.cells #[.map (some w.heap.size), .slice none 0 0, .map (some w1.heap.size)] 106))
  generalize (w1.alloc (.map #[] 0)).alloc (.cells #[.map (some w.heap.size), .slice none 0 0, .map (some w1.heap.size)] 106) = wa at HE0 HCA ⊢
  obtain ⟨m2, hm2⟩ : ∃ m, w1.heap.size = m := ⟨_, rfl⟩
  obtain ⟨m1, hm1⟩ : ∃ m, w.heap.size = m := ⟨_, rfl⟩
  have HM1 := Aside0.mk (show w.heap.size ≤ m1 from by omega)
  have HM2 := Aside0.mk (show w.heap.size ≤ m2 from by have := HLT1.out; omega)
  have HG := Aside0.mk (show w.heap.size ≤ m2 + 1 from by have := HLT1.out; omega)
  rw [hm2, hm1] at HE0 ⊢
  clear hins hm1 hm2 HC1
  generalize m2 + 1 = g at HE0 HG ⊢
  go_loopw [17] (fun i wr => ∃ k : Nat, k ≤ l.length ∧ i = .int .i64 k ∧ Aside0 (EnvIs wr g m1 m2 (newVars (l.take k))) ∧ Aside0 (Chg none_ w wr)) (fun i _ => l.length - (intOf i).toNat)
  case atStart => exact ⟨0, Nat.zero_le _, rfl, HE0, HCA⟩
  case round =>
    obtain ⟨k, hk, rfl, HE, HW⟩ := hrel
    by_cases hlt : k < l.length
    · obtain ⟨ad, e, hx0, hx1⟩ := var_at (Kd.C_below HA.out HW.out.toBelow) hlt
      subst e
      have hmem := getD_mem' hlt (ByteArray.empty, ByteArray.empty)
      have htk := take_snoc' hlt (ByteArray.empty, ByteArray.empty)
      obtain ⟨⟨n, u⟩, hp⟩ : ∃ p, l.getD k (ByteArray.empty, ByteArray.empty) = p := ⟨_, rfl⟩
      rw [hp] at hx0 hx1 hmem htk
      have HN := Aside0.mk (show n.size ≤ 1000000 from (HSZ.out _ hmem).1)
      have HU := Aside0.mk (show u.size ≤ 1000000 from (HSZ.out _ hmem).2)
      have HTK := Aside0.mk (show newVars (l.take (k + 1)) = newVarF (newVars (l.take k)) (n, u) from by rw [htk, newVars_snoc])
      have hlt' : (k : Int) < (l.length : Int) := by omega
      have HLT := Aside0.mk hlt
      clear hp hmem htk hlt hk
      generalize newVars (l.take k) = S at HE HTK
      go_wp2_with fail
      have HEB := Aside0.mk (HE.out.below ((Below.refl _ _).alloc (Nat.le_refl _) (.cells #[.string n, .string u] 108)))
      have HWB := Aside0.mk (HW.out.alloc (.cells #[.string n, .string u] 108))
      have hv := heap_alloc_new wr (.cells #[.string n, .string u] 108)
      have hv0 : (wr.alloc (.cells #[.string n, .string u] 108)).cell? ⟨wr.heap.size, 0, none⟩ = some (.string n) := (blk_cell hv 0).trans rfl
      have hv1 : (wr.alloc (.cells #[.string n, .string u] 108)).cell? ⟨wr.heap.size, 1, none⟩ = some (.string u) := (blk_cell hv 1).trans rfl
      have hg0 := (HEB.out.opened).choose_spec.choose_spec.2.1
      have HVB := Aside0.mk hv
      clear hv hx0 hx1
      generalize wr.heap.size = b at hv0 hv1 HVB ⊢
      generalize wr.alloc (.cells #[.string n, .string u] 108) = wb at HEB HWB hv0 hv1 hg0 HVB ⊢
      obtain ⟨vv, hvv⟩ : ∃ v, (tget S.vars n).getD ⟨#[]⟩ = v := ⟨_, rfl⟩
      obtain ⟨b4, h4⟩ : ∃ b, (tget S.vars n).isSome = b := ⟨_, rfl⟩
      have HVV := Aside0.mk hvv
      have H4 := Aside0.mk h4
      clear hvv h4
      refine start_ (n := 12) (S := fun w' => w'.cell? ⟨g, 0, none⟩ = some (.map (some m1)) ∧ w'.cell? ⟨b, 0, none⟩ = some (.string n) ∧ w'.cell? ⟨b, 1, none⟩ = some (.string u)) (ds := []) #[false, false, false, false, false, false, false, false, false, false, false, false] (by kernel_rfl) rfl rfl ⟨hg0, hv0, hv1⟩ (fun hHeld => ?_)
      have hbd : Below wb.heap.size wb wb.drew := Drawn0.below ⟨1, rfl⟩; have HED := Aside0.mk (HEB.out.below hbd); have HWD := Aside0.mk (HWB.out.below hbd); have HVD := Aside0.mk (Chg.blk (Chg.of_below hbd none_) HVB.out (fun h => h)); clear hbd; generalize wb.drew = wd at HED HWD HVD hHeld ⊢
      refine pure_ (i := 0) (N := some 22) (v := ?_) (a' := ?_) #[true, false, false, false, false, false, false, false, false, false, false, false] rfl rfl (by kernel_rfl) (fun _ _ _ h => h) (Or.inl ⟨by rfl, ?_⟩) ?_ ?_
      rotate_left
      · intro w'
        go_simp
        with_reducible rfl
      rotate_left
      · simp only [Act.put, List.setIfInBounds_toArray, List.set_cons_zero, List.set_cons_succ, i64_w, i32_w]
        rfl
      refine pure_ (i := 1) (N := some 23) (v := ?_) (a' := ?_) #[true, true, false, false, false, false, false, false, false, false, false, false] rfl rfl (by kernel_rfl) (fun _ _ _ h => h) (Or.inl ⟨by rfl, ?_⟩) ?_ ?_
      rotate_left
      · intro w'
        go_simp
        with_reducible rfl
      rotate_left
      · simp only [Act.put, List.setIfInBounds_toArray, List.set_cons_zero, List.set_cons_succ, i64_w, i32_w]
        rfl
      refine pure_ (i := 2) (N := some 24) (v := ?_) (a' := ?_) #[true, true, true, false, false, false, false, false, false, false, false, false] rfl rfl (by kernel_rfl) (fun _ _ _ h => h) (Or.inl ⟨by rfl, ?_⟩) ?_ ?_
      rotate_left
      · intro w'
        go_simp
        with_reducible rfl
      rotate_left
      · simp only [Act.put, List.setIfInBounds_toArray, List.set_cons_zero, List.set_cons_succ, i64_w, i32_w]
        rfl
      refine pure_ (i := 4) (N := some 26) (v := ?_) (a' := ?_) #[true, true, true, false, true, false, false, false, false, false, false, false] rfl rfl (by kernel_rfl) (fun _ _ _ h => h) (Or.inl ⟨by rfl, ?_⟩) ?_ ?_
      rotate_left
      · intro w'
        go_simp
        with_reducible rfl
      rotate_left
      · simp only [Act.put, List.setIfInBounds_toArray, List.set_cons_zero, List.set_cons_succ, i64_w, i32_w]
        rfl
      refine take_ (i := 3) (N := some 25) (v := ?_) (a' := ?_) #[true, true, true, true, true, false, false, false, false, false, false, false] rfl rfl (by kernel_rfl) (fun _ _ _ h => h) (Or.inl ⟨by rfl, ?_⟩) hHeld ?_ ?_
      rotate_left
      · rintro w' ⟨s0, s1, s2⟩
        go_simp
        with_reducible rfl
      rotate_left
      · simp only [Act.put, List.setIfInBounds_toArray, List.set_cons_zero, List.set_cons_succ, i64_w, i32_w]
        rfl
      refine take_ (i := 5) (N := some 27) (v := ?_) (a' := ?_) #[true, true, true, true, true, true, false, false, false, false, false, false] rfl rfl (by kernel_rfl) (fun _ _ _ h => h) (Or.inl ⟨by rfl, ?_⟩) hHeld ?_ ?_
      rotate_left
      · rintro w' ⟨s0, s1, s2⟩
        go_simp
        with_reducible rfl
      rotate_left
      · simp only [Act.put, List.setIfInBounds_toArray, List.set_cons_zero, List.set_cons_succ, i64_w, i32_w]
        rfl
      refine one_ (i := 6) (N := some 28) #[true, true, true, true, true, true, true, false, false, false, false, false] rfl rfl (by kernel_rfl) (by decide) (fun K hK => ?_)
      refine lookup_ok_step (by rfl) _ _ _ rfl Try.underlying100 m1 _ S.vars rfl HED.out.vars n (by have := HN.out; unfold maxLen; omega) rfl vv b4 HVV.out H4.out ?_
      refine hK.out _ _ ⟨hHeld.1, hHeld.2.1, hHeld.2.2⟩ (fun hHeld => ?_)
      clear hK K
      refine norm_ (a' := ?_) ?_ ?_
      rotate_left
      · show Act.put _ (some 28) _ = _
        simp only [Act.put, List.setIfInBounds_toArray, List.set_cons_zero, List.set_cons_succ, i64_w, i32_w]
        rfl
      refine pure_ (i := 7) (N := some 21) (v := ?_) (a' := ?_) #[true, true, true, true, true, true, true, true, false, false, false, false] rfl rfl (by kernel_rfl) (fun _ _ _ h => h) (Or.inl ⟨by rfl, ?_⟩) ?_ ?_
      rotate_left
      · intro w'
        go_simp
        with_reducible rfl
      rotate_left
      · simp only [Act.put, List.setIfInBounds_toArray, List.set_cons_zero, List.set_cons_succ, i64_w, i32_w]
        rfl
      refine pure_ (i := 8) (N := some 29) (v := ?_) (a' := ?_) #[true, true, true, true, true, true, true, true, true, false, false, false] rfl rfl (by kernel_rfl) (fun _ _ _ h => h) (Or.inl ⟨by rfl, ?_⟩) ?_ ?_
      rotate_left
      · intro w'
        go_simp
        with_reducible rfl
      rotate_left
      · simp only [Act.put, List.setIfInBounds_toArray, List.set_cons_zero, List.set_cons_succ, i64_w, i32_w]
        rfl
      refine pure_ (i := 9) (N := some 30) (v := ?_) (a' := ?_) #[true, true, true, true, true, true, true, true, true, true, false, false] rfl rfl (by kernel_rfl) (fun _ _ _ h => h) (Or.inl ⟨by rfl, ?_⟩) ?_ ?_
      rotate_left
      · intro w'
        go_simp
        with_reducible rfl
      rotate_left
      · simp only [Act.put, List.setIfInBounds_toArray, List.set_cons_zero, List.set_cons_succ, i64_w, i32_w]
        rfl
      refine pure_ (i := 10) (N := some 8) (v := ?_) (a' := ?_) #[true, true, true, true, true, true, true, true, true, true, true, false] rfl rfl (by kernel_rfl) (fun _ _ _ h => h) (Or.inl ⟨by rfl, ?_⟩) ?_ ?_
      rotate_left
      · intro w'
        go_simp
        with_reducible rfl
      rotate_left
      · simp only [Act.put, List.setIfInBounds_toArray, List.set_cons_zero, List.set_cons_succ, i64_w, i32_w]
        rfl
      refine pure_ (i := 11) (N := some 9) (v := ?_) (a' := ?_) #[true, true, true, true, true, true, true, true, true, true, true, true] rfl rfl (by kernel_rfl) (fun _ _ _ h => h) (Or.inl ⟨by rfl, ?_⟩) ?_ ?_
      rotate_left
      · intro w'
        go_simp
        with_reducible rfl
      rotate_left
      · simp only [Act.put, List.setIfInBounds_toArray, List.set_cons_zero, List.set_cons_succ, i64_w, i32_w]
        rfl
      refine done_ (by kernel_rfl) ?_
      go_wp2_with fail
      obtain ⟨b1, h1⟩ : ∃ b, nameB n = b := ⟨_, rfl⟩
      have H1 := Aside0.mk h1
      refine (text_Name_calls n HN.out b1 H1.out _).mono ?_
      rintro e w3 ⟨rfl, hd⟩
      have hq0 := pw_cell_below hd.below hHeld.1
      have hq1 := pw_cell_below hd.below hHeld.2.1
      have hq2 := pw_cell_below hd.below hHeld.2.2
      have HE3 := Aside0.mk (HED.out.drawn hd)
      have HW3 := Aside0.mk (HWD.out.drawn hd)
      have HBK := Aside0.mk ((Chg.of_drawn hd none_).blk HVD.out (fun h => h))
      clear hd hHeld h1 HED HWD HEB HWB HVB HVD hv0 hv1 hg0
      cases b1 with
      | false =>
        go_wp2_with fail
        go_roundw
        case rel =>
          refine ⟨k + 1, HLT.out, by go_num, ⟨?_⟩, HW3⟩
          rw [HTK.out, show newVarF S (n, u) = S from by unfold newVarF; split; rfl; (unfold setF; dsimp only; rw [H1.out, if_pos (by rfl)])]
          exact HE3.out
        case measure => have := HLT.out; simp [intOf]; omega
      | true =>
        by_cases hif : n = ifsB
        · have hb2 : (n.toList == [73, 70, 83]) = true := by rw [hif, ifs_list]; rfl
          have HIF := Aside0.mk hif
          clear hif
          go_wp2_with fail
          go_roundw
          case rel =>
            refine ⟨k + 1, HLT.out, by go_num, ⟨?_⟩, HW3⟩
            rw [HTK.out, show newVarF S (n, u) = S from by unfold newVarF; rw [if_pos HIF.out]]
            exact HE3.out
          case measure => have := HLT.out; simp [intOf]; omega
        · have hb2 : (n.toList == [73, 70, 83]) = false := beq_eq_false_iff_ne.2 (fun h => hif (toList_inj.1 (h.trans ifs_list.symm)))
          have HIF := Aside0.mk hif
          clear hif
          obtain ⟨b3, h3⟩ : ∃ b, valB u = b := ⟨_, rfl⟩
          have H3 := Aside0.mk h3
          clear h3
          go_wp2_with fail
          refine (env_fits u b3 H3.out _).mono ?_
          rintro e w3 ⟨rfl, rfl⟩
          cases b3 with
          | false =>
            go_wp2_with fail
            go_roundw
            case rel =>
              refine ⟨k + 1, HLT.out, by go_num, ⟨?_⟩, HW3⟩
              rw [HTK.out, show newVarF S (n, u) = S from by unfold newVarF; split; rfl; (unfold setF; dsimp only; rw [H1.out, H3.out, if_neg (by simp), if_pos (by simp)])]
              exact HE3.out
            case measure => have := HLT.out; simp [intOf]; omega
          | true =>
            cases b4 with
            | true =>
              go_wp2_with fail
              have HNE1 := Aside0.mk HE3.out.ne.1
              have HNB1 := Aside0.mk (show b ≠ m1 from fun e => map_notRow HE3.out.vars _ _ (by subst e; exact HBK.out))
              refine start_ (n := 9) (S := fun w' => w'.cell? ⟨g, 0, none⟩ = some (.map (some m1)) ∧ w'.cell? ⟨b, 0, none⟩ = some (.string n) ∧ w'.cell? ⟨b, 1, none⟩ = some (.string u)) (ds := []) #[false, false, false, false, false, false, false, false, false] (by kernel_rfl) rfl rfl ⟨hq0, hq1, hq2⟩ (fun hHeld => ?_)
              have hbd : Below w3.heap.size w3 w3.drew := Drawn0.below ⟨1, rfl⟩; have HE5 := Aside0.mk (HE3.out.below hbd); have HW5 := Aside0.mk (HW3.out.below hbd); clear hbd; generalize w3.drew = wd at HE5 HW5 hHeld ⊢
              refine pure_ (i := 0) (N := some 55) (v := ?_) (a' := ?_) #[true, false, false, false, false, false, false, false, false] rfl rfl (by kernel_rfl) (fun _ _ _ h => h) (Or.inl ⟨by rfl, ?_⟩) ?_ ?_
              rotate_left
              · intro w'
                go_simp
                with_reducible rfl
              rotate_left
              · simp only [Act.put, List.setIfInBounds_toArray, List.set_cons_zero, List.set_cons_succ, i64_w, i32_w]
                rfl
              refine pure_ (i := 1) (N := some 56) (v := ?_) (a' := ?_) #[true, true, false, false, false, false, false, false, false] rfl rfl (by kernel_rfl) (fun _ _ _ h => h) (Or.inl ⟨by rfl, ?_⟩) ?_ ?_
              rotate_left
              · intro w'
                go_simp
                with_reducible rfl
              rotate_left
              · simp only [Act.put, List.setIfInBounds_toArray, List.set_cons_zero, List.set_cons_succ, i64_w, i32_w]
                rfl
              refine pure_ (i := 2) (N := some 57) (v := ?_) (a' := ?_) #[true, true, true, false, false, false, false, false, false] rfl rfl (by kernel_rfl) (fun _ _ _ h => h) (Or.inl ⟨by rfl, ?_⟩) ?_ ?_
              rotate_left
              · intro w'
                go_simp
                with_reducible rfl
              rotate_left
              · simp only [Act.put, List.setIfInBounds_toArray, List.set_cons_zero, List.set_cons_succ, i64_w, i32_w]
                rfl
              refine pure_ (i := 4) (N := some 59) (v := ?_) (a' := ?_) #[true, true, true, false, true, false, false, false, false] rfl rfl (by kernel_rfl) (fun _ _ _ h => h) (Or.inl ⟨by rfl, ?_⟩) ?_ ?_
              rotate_left
              · intro w'
                go_simp
                with_reducible rfl
              rotate_left
              · simp only [Act.put, List.setIfInBounds_toArray, List.set_cons_zero, List.set_cons_succ, i64_w, i32_w]
                rfl
              refine pure_ (i := 6) (N := some 61) (v := ?_) (a' := ?_) #[true, true, true, false, true, false, true, false, false] rfl rfl (by kernel_rfl) (fun _ _ _ h => h) (Or.inl ⟨by rfl, ?_⟩) ?_ ?_
              rotate_left
              · intro w'
                go_simp
                with_reducible rfl
              rotate_left
              · simp only [Act.put, List.setIfInBounds_toArray, List.set_cons_zero, List.set_cons_succ, i64_w, i32_w]
                rfl
              refine take_ (i := 3) (N := some 58) (v := ?_) (a' := ?_) #[true, true, true, true, true, false, true, false, false] rfl rfl (by kernel_rfl) (fun _ _ _ h => h) (Or.inl ⟨by rfl, ?_⟩) hHeld ?_ ?_
              rotate_left
              · rintro w' ⟨s0, s1, s2⟩
                go_simp
                with_reducible rfl
              rotate_left
              · simp only [Act.put, List.setIfInBounds_toArray, List.set_cons_zero, List.set_cons_succ, i64_w, i32_w]
                rfl
              refine take_ (i := 5) (N := some 60) (v := ?_) (a' := ?_) #[true, true, true, true, true, true, true, false, false] rfl rfl (by kernel_rfl) (fun _ _ _ h => h) (Or.inl ⟨by rfl, ?_⟩) hHeld ?_ ?_
              rotate_left
              · rintro w' ⟨s0, s1, s2⟩
                go_simp
                with_reducible rfl
              rotate_left
              · simp only [Act.put, List.setIfInBounds_toArray, List.set_cons_zero, List.set_cons_succ, i64_w, i32_w]
                rfl
              refine take_ (i := 7) (N := some 62) (v := ?_) (a' := ?_) #[true, true, true, true, true, true, true, true, false] rfl rfl (by kernel_rfl) (fun _ _ _ h => h) (Or.inl ⟨by rfl, ?_⟩) hHeld ?_ ?_
              rotate_left
              · rintro w' ⟨s0, s1, s2⟩
                go_simp
                with_reducible rfl
              rotate_left
              · simp only [Act.put, List.setIfInBounds_toArray, List.set_cons_zero, List.set_cons_succ, i64_w, i32_w]
                rfl
              refine one_ (i := 8) (N := none) #[true, true, true, true, true, true, true, true, true] rfl rfl (by kernel_rfl) (by decide) (fun K hK => ?_)
              refine update_step (by rfl) _ _ _ _ rfl Try.underlying100 m1 _ S.vars (by have := HE5.out.ok.len; unfold maxLen; omega) rfl HE5.out.vars n u (by have := HN.out; unfold maxLen; omega) (by have := HU.out; unfold maxLen; omega) rfl rfl ?_
              intro w7 hown7 hturn7
              have HO7 := Aside0.mk hown7
              have HT7 := Aside0.mk hturn7
              have hch7 : Chg (fun k => k = m1) wd w7 := (Chg.refl _ _).turned hturn7 (.inl rfl)
              have HCH7 := Aside0.mk hch7
              clear hown7 hturn7 hch7
              refine hK.out _ _ ⟨HCH7.out.cell hHeld.1 HNE1.out, HCH7.out.cell hHeld.2.1 HNB1.out, HCH7.out.cell hHeld.2.2 HNB1.out⟩ (fun hHeld => ?_)
              clear hK K
              refine done_ (by kernel_rfl) ?_
              go_wp2_with fail
              go_roundw
              case rel =>
                refine ⟨k + 1, HLT.out, by go_num, ⟨?_⟩, ⟨HW5.out.then_ HCH7.out (fun k hk => .inr (by rw [hk]; exact HM1.out))⟩⟩
                rw [HTK.out]
                have hv : newVarF S (n, u) = { S with vars := tput S.vars n u } := by unfold newVarF setF; rw [if_neg (show ¬ (n, u).1 = ifsB from HIF.out)]; dsimp only; rw [H1.out, H3.out, H4.out, if_neg (by simp), if_neg (by simp)]
                rw [hv]
                exact HE5.out.updated HO7.out HT7.out (by rw [← hv]; exact newVarF_ok HE5.out.ok _ HN.out)
              case measure => have := HLT.out; simp [intOf]; omega
            | false =>
              have hlen := fun ty => HE3.out.vars.len Try.underlying100 ty
              rw [tab_size] at hlen
              by_cases h100 : 100 ≤ S.vars.length
              · have H100 := Aside0.mk h100
                have h100' : (100 : Int) ≤ (S.vars.length : Int) := by omega
                clear h100
                go_wp2_with fail
                go_roundw
                case rel =>
                  refine ⟨k + 1, HLT.out, by go_num, ⟨?_⟩, HW3⟩
                  rw [HTK.out, show newVarF S (n, u) = S from by unfold newVarF; split; rfl; (unfold setF; dsimp only; rw [H1.out, H3.out, H4.out, if_neg (by simp), if_pos (by simp [H100.out])])]
                  exact HE3.out
                case measure => have := HLT.out; simp [intOf]; omega
              · have H100 := Aside0.mk h100
                have h100' : (S.vars.length : Int) < 100 := by omega
                clear h100
                go_wp2_with fail
                clear hlen
                have HNE1 := Aside0.mk HE3.out.ne.1
                have HNB1 := Aside0.mk (show b ≠ m1 from fun e => map_notRow HE3.out.vars _ _ (by subst e; exact HBK.out))
                refine start_ (n := 9) (S := fun w' => w'.cell? ⟨g, 0, none⟩ = some (.map (some m1)) ∧ w'.cell? ⟨b, 0, none⟩ = some (.string n) ∧ w'.cell? ⟨b, 1, none⟩ = some (.string u)) (ds := []) #[false, false, false, false, false, false, false, false, false] (by kernel_rfl) rfl rfl ⟨hq0, hq1, hq2⟩ (fun hHeld => ?_)
                have hbd : Below w3.heap.size w3 w3.drew := Drawn0.below ⟨1, rfl⟩; have HE5 := Aside0.mk (HE3.out.below hbd); have HW5 := Aside0.mk (HW3.out.below hbd); clear hbd; generalize w3.drew = wd at HE5 HW5 hHeld ⊢
                refine pure_ (i := 0) (N := some 55) (v := ?_) (a' := ?_) #[true, false, false, false, false, false, false, false, false] rfl rfl (by kernel_rfl) (fun _ _ _ h => h) (Or.inl ⟨by rfl, ?_⟩) ?_ ?_
                rotate_left
                · intro w'
                  go_simp
                  with_reducible rfl
                rotate_left
                · simp only [Act.put, List.setIfInBounds_toArray, List.set_cons_zero, List.set_cons_succ, i64_w, i32_w]
                  rfl
                refine pure_ (i := 1) (N := some 56) (v := ?_) (a' := ?_) #[true, true, false, false, false, false, false, false, false] rfl rfl (by kernel_rfl) (fun _ _ _ h => h) (Or.inl ⟨by rfl, ?_⟩) ?_ ?_
                rotate_left
                · intro w'
                  go_simp
                  with_reducible rfl
                rotate_left
                · simp only [Act.put, List.setIfInBounds_toArray, List.set_cons_zero, List.set_cons_succ, i64_w, i32_w]
                  rfl
                refine pure_ (i := 2) (N := some 57) (v := ?_) (a' := ?_) #[true, true, true, false, false, false, false, false, false] rfl rfl (by kernel_rfl) (fun _ _ _ h => h) (Or.inl ⟨by rfl, ?_⟩) ?_ ?_
                rotate_left
                · intro w'
                  go_simp
                  with_reducible rfl
                rotate_left
                · simp only [Act.put, List.setIfInBounds_toArray, List.set_cons_zero, List.set_cons_succ, i64_w, i32_w]
                  rfl
                refine pure_ (i := 4) (N := some 59) (v := ?_) (a' := ?_) #[true, true, true, false, true, false, false, false, false] rfl rfl (by kernel_rfl) (fun _ _ _ h => h) (Or.inl ⟨by rfl, ?_⟩) ?_ ?_
                rotate_left
                · intro w'
                  go_simp
                  with_reducible rfl
                rotate_left
                · simp only [Act.put, List.setIfInBounds_toArray, List.set_cons_zero, List.set_cons_succ, i64_w, i32_w]
                  rfl
                refine pure_ (i := 6) (N := some 61) (v := ?_) (a' := ?_) #[true, true, true, false, true, false, true, false, false] rfl rfl (by kernel_rfl) (fun _ _ _ h => h) (Or.inl ⟨by rfl, ?_⟩) ?_ ?_
                rotate_left
                · intro w'
                  go_simp
                  with_reducible rfl
                rotate_left
                · simp only [Act.put, List.setIfInBounds_toArray, List.set_cons_zero, List.set_cons_succ, i64_w, i32_w]
                  rfl
                refine take_ (i := 3) (N := some 58) (v := ?_) (a' := ?_) #[true, true, true, true, true, false, true, false, false] rfl rfl (by kernel_rfl) (fun _ _ _ h => h) (Or.inl ⟨by rfl, ?_⟩) hHeld ?_ ?_
                rotate_left
                · rintro w' ⟨s0, s1, s2⟩
                  go_simp
                  with_reducible rfl
                rotate_left
                · simp only [Act.put, List.setIfInBounds_toArray, List.set_cons_zero, List.set_cons_succ, i64_w, i32_w]
                  rfl
                refine take_ (i := 5) (N := some 60) (v := ?_) (a' := ?_) #[true, true, true, true, true, true, true, false, false] rfl rfl (by kernel_rfl) (fun _ _ _ h => h) (Or.inl ⟨by rfl, ?_⟩) hHeld ?_ ?_
                rotate_left
                · rintro w' ⟨s0, s1, s2⟩
                  go_simp
                  with_reducible rfl
                rotate_left
                · simp only [Act.put, List.setIfInBounds_toArray, List.set_cons_zero, List.set_cons_succ, i64_w, i32_w]
                  rfl
                refine take_ (i := 7) (N := some 62) (v := ?_) (a' := ?_) #[true, true, true, true, true, true, true, true, false] rfl rfl (by kernel_rfl) (fun _ _ _ h => h) (Or.inl ⟨by rfl, ?_⟩) hHeld ?_ ?_
                rotate_left
                · rintro w' ⟨s0, s1, s2⟩
                  go_simp
                  with_reducible rfl
                rotate_left
                · simp only [Act.put, List.setIfInBounds_toArray, List.set_cons_zero, List.set_cons_succ, i64_w, i32_w]
                  rfl
                refine one_ (i := 8) (N := none) #[true, true, true, true, true, true, true, true, true] rfl rfl (by kernel_rfl) (by decide) (fun K hK => ?_)
                refine update_step (by rfl) _ _ _ _ rfl Try.underlying100 m1 _ S.vars (by have := HE5.out.ok.len; unfold maxLen; omega) rfl HE5.out.vars n u (by have := HN.out; unfold maxLen; omega) (by have := HU.out; unfold maxLen; omega) rfl rfl ?_
                intro w7 hown7 hturn7
                have HO7 := Aside0.mk hown7
                have HT7 := Aside0.mk hturn7
                have hch7 : Chg (fun k => k = m1) wd w7 := (Chg.refl _ _).turned hturn7 (.inl rfl)
                have HCH7 := Aside0.mk hch7
                clear hown7 hturn7 hch7
                refine hK.out _ _ ⟨HCH7.out.cell hHeld.1 HNE1.out, HCH7.out.cell hHeld.2.1 HNB1.out, HCH7.out.cell hHeld.2.2 HNB1.out⟩ (fun hHeld => ?_)
                clear hK K
                refine done_ (by kernel_rfl) ?_
                go_wp2_with fail
                go_roundw
                case rel =>
                  refine ⟨k + 1, HLT.out, by go_num, ⟨?_⟩, ⟨HW5.out.then_ HCH7.out (fun k hk => .inr (by rw [hk]; exact HM1.out))⟩⟩
                  rw [HTK.out]
                  have hv : newVarF S (n, u) = { S with vars := tput S.vars n u } := by unfold newVarF setF; rw [if_neg (show ¬ (n, u).1 = ifsB from HIF.out)]; dsimp only; rw [H1.out, H3.out, H4.out, if_neg (by simp), if_neg (by simp [H100.out])]
                  rw [hv]
                  exact HE5.out.updated HO7.out HT7.out (by rw [← hv]; exact newVarF_ok HE5.out.ok _ HN.out)
                case measure => have := HLT.out; simp [intOf]; omega
    · obtain rfl : k = l.length := by omega
      rw [List.take_length] at HE
      go_wp2_with fail
      refine (env_SetArgs g m1 m2 (newVars l) B d args _ (Kd.C_below HB.out HW.out.toBelow) hld HSA.out ?_ HE.out).mono ?_
      · intro ad he h0 hb
        have := (str_at HB.out h0)
        obtain ⟨ad', e', hx⟩ := this
        rw [he] at e'
        injection e' with e'
        subst e'
        have := World.block_lt_of_cell? w _ hx
        have h2 : (ad.add 0).block = ad.block := by unfold Addr.add; split <;> rfl
        have := HG.out
        omega
      rintro e w5 ⟨rfl, he5, hc5⟩
      have HE5 := Aside0.mk he5
      have HC5 := Aside0.mk hc5
      clear he5 hc5
      go_wp2
      go_ret
      exact ⟨g, m1, m2, rfl, HE5.out, (HW.out.then_ HC5.out (fun k hk => .inr (by rw [hk]; exact HG.out))).toBelow, HG.out, HM1.out, HM2.out⟩
end Go.Proofs.Ytfdjbjinomfgiaa
