/- Variables: Copy. -/
import Derived.Test.YtfdjbjinomfgiaaEnvD
import Derived.Deep.QuietTactic
import Derived.BigQuiet
namespace Go.Proofs.Ytfdjbjinomfgiaa
open Go.RowKit Go.Maps Go.Proofs.YtfdjbjinomfgiaaW.PrintWords Go.Proofs.YtfdjbjinomfgiaaW.PrintLast Go.Proofs.YtfdjbjinomfgiaaW.PrintMore
set_option linter.unusedSimpArgs false
set_option linter.unusedVariables false

theorem e_cloneS (b n : Nat) (D : DataW Unit) (R : Value → Option (DataW Unit × List MemPlace)) (w : World) (hown : w.ownsMap Try.prog 9 R b n D) :
    Calls Try.prog 85 #[.map (some b)] w fun e w' => e = .returned (.map (some w.heap.size)) ∧ w'.ownsMap Try.prog 9 R w.heap.size n D ∧ Below w.heap.size w w' ∧ w.heap.size < w'.heap.size :=
  (AnyW.maps_Clone_owns Try.clone85 9 _ b _ _ _ hown).mono fun e w' ⟨he, h1, _, hb⟩ => ⟨he, h1, hb, h1.lt⟩
theorem e_cloneB (b n : Nat) (D : DataW Unit) (R : Value → Option (DataW Unit × List MemPlace)) (w : World) (hown : w.ownsMap Try.prog 5 R b n D) :
    Calls Try.prog 86 #[.map (some b)] w fun e w' => e = .returned (.map (some w.heap.size)) ∧ w'.ownsMap Try.prog 5 R w.heap.size n D ∧ Below w.heap.size w w' ∧ w.heap.size < w'.heap.size :=
  (AnyW.maps_Clone_owns Try.clone86 5 _ b _ _ _ hown).mono fun e w' ⟨he, h1, _, hb⟩ => ⟨he, h1, hb, h1.lt⟩
set_option maxHeartbeats 4000000 in
set_option maxRecDepth 100000 in
theorem env_Copy (g m1 m2 : Nat) (S : EnvS) (w : World) (he : EnvIs w g m1 m2 S) :
    Calls Try.prog 28 #[.pointer (some ⟨g, 0, none⟩)] w fun e w' => ∃ g' n1 n2, e = .returned (.pointer (some ⟨g', 0, none⟩)) ∧ EnvIs w' g' n1 n2 S ∧ Below w.heap.size w w' ∧ w.heap.size ≤ g' ∧ w.heap.size ≤ n1 ∧ w.heap.size ≤ n2 := by
  have HE := Aside0.mk he
  obtain ⟨A, c, hbox, hc0, hc1, hc2, hR, hC, hlc⟩ := he.opened
  have HC := Aside0.mk hC
  clear hbox hR hC hlc he
  go_enter Try.func28, Try.ntmps28
  go_wp2_with fail
  refine start_ (n := 18) (S := fun w' => w'.cell? ⟨g, 0, none⟩ = some (.map (some m1)) ∧ w'.cell? ⟨g, 1, none⟩ = some (.slice A S.args.length c) ∧ w'.cell? ⟨g, 2, none⟩ = some (.map (some m2))) (ds := []) #[false, false, false, false, false, false, false, false, false, false, false, false, false, false, false, false, false, false] (by kernel_rfl) rfl rfl ⟨hc0, hc1, hc2⟩ (fun hHeld => ?_)
  have hbd : Below w.heap.size w w.drew := Drawn0.below ⟨1, rfl⟩; have HED := Aside0.mk (HE.out.below hbd); have HBD := Aside0.mk hbd; have HCD := Aside0.mk (Kd.C_below HC.out hbd); clear hbd; have HH0 := Aside0.mk hHeld; generalize w.drew = wd at HED HBD HCD HH0 hHeld ⊢
  refine pure_ (i := 0) (N := some 3) (v := ?_) (a' := ?_) #[true, false, false, false, false, false, false, false, false, false, false, false, false, false, false, false, false, false] rfl rfl (by kernel_rfl) (fun _ _ _ h => h) (Or.inl ⟨by rfl, ?_⟩) ?_ ?_
  rotate_left
  · intro w'
    go_simp
    with_reducible rfl
  rotate_left
  · simp only [Act.put, List.setIfInBounds_toArray, List.set_cons_zero, List.set_cons_succ, i64_w, i32_w]
    rfl
  refine pure_ (i := 1) (N := some 4) (v := ?_) (a' := ?_) #[true, true, false, false, false, false, false, false, false, false, false, false, false, false, false, false, false, false] rfl rfl (by kernel_rfl) (fun _ _ _ h => h) (Or.inl ⟨by rfl, ?_⟩) ?_ ?_
  rotate_left
  · intro w'
    go_simp
    with_reducible rfl
  rotate_left
  · simp only [Act.put, List.setIfInBounds_toArray, List.set_cons_zero, List.set_cons_succ, i64_w, i32_w]
    rfl
  refine pure_ (i := 2) (N := some 5) (v := ?_) (a' := ?_) #[true, true, true, false, false, false, false, false, false, false, false, false, false, false, false, false, false, false] rfl rfl (by kernel_rfl) (fun _ _ _ h => h) (Or.inl ⟨by rfl, ?_⟩) ?_ ?_
  rotate_left
  · intro w'
    go_simp
    with_reducible rfl
  rotate_left
  · simp only [Act.put, List.setIfInBounds_toArray, List.set_cons_zero, List.set_cons_succ, i64_w, i32_w]
    rfl
  refine pure_ (i := 5) (N := some 8) (v := ?_) (a' := ?_) #[true, true, true, false, false, true, false, false, false, false, false, false, false, false, false, false, false, false] rfl rfl (by kernel_rfl) (fun _ _ _ h => h) (Or.inl ⟨by rfl, ?_⟩) ?_ ?_
  rotate_left
  · intro w'
    go_simp
    with_reducible rfl
  rotate_left
  · simp only [Act.put, List.setIfInBounds_toArray, List.set_cons_zero, List.set_cons_succ, i64_w, i32_w]
    rfl
  refine pure_ (i := 6) (N := some 9) (v := ?_) (a' := ?_) #[true, true, true, false, false, true, true, false, false, false, false, false, false, false, false, false, false, false] rfl rfl (by kernel_rfl) (fun _ _ _ h => h) (Or.inl ⟨by rfl, ?_⟩) ?_ ?_
  rotate_left
  · intro w'
    go_simp
    with_reducible rfl
  rotate_left
  · simp only [Act.put, List.setIfInBounds_toArray, List.set_cons_zero, List.set_cons_succ, i64_w, i32_w]
    rfl
  refine pure_ (i := 7) (N := some 10) (v := ?_) (a' := ?_) #[true, true, true, false, false, true, true, true, false, false, false, false, false, false, false, false, false, false] rfl rfl (by kernel_rfl) (fun _ _ _ h => h) (Or.inl ⟨by rfl, ?_⟩) ?_ ?_
  rotate_left
  · intro w'
    go_simp
    with_reducible rfl
  rotate_left
  · simp only [Act.put, List.setIfInBounds_toArray, List.set_cons_zero, List.set_cons_succ, i64_w, i32_w]
    rfl
  refine pure_ (i := 10) (N := some 13) (v := ?_) (a' := ?_) #[true, true, true, false, false, true, true, true, false, false, true, false, false, false, false, false, false, false] rfl rfl (by kernel_rfl) (fun _ _ _ h => h) (Or.inl ⟨by rfl, ?_⟩) ?_ ?_
  rotate_left
  · intro w'
    go_simp
    with_reducible rfl
  rotate_left
  · simp only [Act.put, List.setIfInBounds_toArray, List.set_cons_zero, List.set_cons_succ, i64_w, i32_w]
    rfl
  refine pure_ (i := 11) (N := some 14) (v := ?_) (a' := ?_) #[true, true, true, false, false, true, true, true, false, false, true, true, false, false, false, false, false, false] rfl rfl (by kernel_rfl) (fun _ _ _ h => h) (Or.inl ⟨by rfl, ?_⟩) ?_ ?_
  rotate_left
  · intro w'
    go_simp
    with_reducible rfl
  rotate_left
  · simp only [Act.put, List.setIfInBounds_toArray, List.set_cons_zero, List.set_cons_succ, i64_w, i32_w]
    rfl
  refine pure_ (i := 12) (N := some 15) (v := ?_) (a' := ?_) #[true, true, true, false, false, true, true, true, false, false, true, true, true, false, false, false, false, false] rfl rfl (by kernel_rfl) (fun _ _ _ h => h) (Or.inl ⟨by rfl, ?_⟩) ?_ ?_
  rotate_left
  · intro w'
    go_simp
    with_reducible rfl
  rotate_left
  · simp only [Act.put, List.setIfInBounds_toArray, List.set_cons_zero, List.set_cons_succ, i64_w, i32_w]
    rfl
  refine take_ (i := 3) (N := some 6) (v := ?_) (a' := ?_) #[true, true, true, true, false, true, true, true, false, false, true, true, true, false, false, false, false, false] rfl rfl (by kernel_rfl) (fun _ _ _ h => h) (Or.inl ⟨by rfl, ?_⟩) hHeld ?_ ?_
  rotate_left
  · rintro w' ⟨s0, s1, s2⟩
    go_simp
    with_reducible rfl
  rotate_left
  · simp only [Act.put, List.setIfInBounds_toArray, List.set_cons_zero, List.set_cons_succ, i64_w, i32_w]
    rfl
  refine take_ (i := 8) (N := some 11) (v := ?_) (a' := ?_) #[true, true, true, true, false, true, true, true, true, false, true, true, true, false, false, false, false, false] rfl rfl (by kernel_rfl) (fun _ _ _ h => h) (Or.inl ⟨by rfl, ?_⟩) hHeld ?_ ?_
  rotate_left
  · rintro w' ⟨s0, s1, s2⟩
    go_simp
    with_reducible rfl
  rotate_left
  · simp only [Act.put, List.setIfInBounds_toArray, List.set_cons_zero, List.set_cons_succ, i64_w, i32_w]
    rfl
  refine take_ (i := 13) (N := some 16) (v := ?_) (a' := ?_) #[true, true, true, true, false, true, true, true, true, false, true, true, true, true, false, false, false, false] rfl rfl (by kernel_rfl) (fun _ _ _ h => h) (Or.inl ⟨by rfl, ?_⟩) hHeld ?_ ?_
  rotate_left
  · rintro w' ⟨s0, s1, s2⟩
    go_simp
    with_reducible rfl
  rotate_left
  · simp only [Act.put, List.setIfInBounds_toArray, List.set_cons_zero, List.set_cons_succ, i64_w, i32_w]
    rfl
  refine one_ (i := 4) (N := some 7) #[true, true, true, true, true, true, true, true, true, false, true, true, true, true, false, false, false, false] rfl rfl (by kernel_rfl) (by decide) (fun K hK => ?_)
  refine goes_ Try.func85 (by kernel_rfl) rfl #[.map (some m1)] (by rfl) rfl rfl (by simp only [List.map_toArray, List.map_cons, List.map_nil]; rfl) ?_
  with_reducible refine (e_cloneS m1 _ _ _ _ HED.out.vars).mono ?_
  rintro e w1 ⟨rfl, h1, hb1, hl1⟩
  refine ⟨_, rfl, ?_⟩
  have HM1 := Aside0.mk h1
  have HL1 := Aside0.mk hl1
  clear hl1
  have HE1 := Aside0.mk (HED.out.below hb1)
  have HB1 := Aside0.mk (HBD.out.trans (hb1.mono HBD.out.size))
  have HC1 := Aside0.mk (Kd.C_below HCD.out hb1)
  have HBB1 := Aside0.mk hb1
  clear h1 hb1
  refine hK.out _ _ ⟨pw_cell_below HBB1.out HH0.out.1, pw_cell_below HBB1.out HH0.out.2.1, pw_cell_below HBB1.out HH0.out.2.2⟩ (fun hHeld => ?_)
  clear hK K
  refine norm_ (a' := ?_) ?_ ?_
  rotate_left
  · show Act.put _ (some 7) _ = _
    simp only [Act.put, List.setIfInBounds_toArray, List.set_cons_zero, List.set_cons_succ, i64_w, i32_w]
    rfl
  refine one_ (i := 9) (N := some 12) #[true, true, true, true, true, true, true, true, true, true, true, true, true, true, false, false, false, false] rfl rfl (by kernel_rfl) (by decide) (fun K hK => ?_)
  refine goes_ Try.func66 (by kernel_rfl) rfl #[.slice A S.args.length c] (by rfl) rfl rfl (by simp only [List.map_toArray, List.map_cons, List.map_nil]; rfl) ?_
  with_reducible refine (e_clone A c S.args _ HC1.out (by have := HE.out.ok.alen; omega)).mono ?_
  rintro e w2 ⟨v2, rfl, hR2, hb2⟩
  refine ⟨_, rfl, ?_⟩
  have HM2 := Aside0.mk ((Chg.of_below hb2 none_).map HM1.out (fun h => h))
  have HE2 := Aside0.mk (HE1.out.below hb2)
  have HB2 := Aside0.mk (HB1.out.trans (hb2.mono HB1.out.size))
  have HBB2 := Aside0.mk (HBB1.out.trans (hb2.mono HBB1.out.size))
  have HR2 := Aside0.mk hR2
  have HL2 := Aside0.mk hb2.size
  clear hR2 hb2
  refine hK.out _ _ ⟨pw_cell_below HBB2.out HH0.out.1, pw_cell_below HBB2.out HH0.out.2.1, pw_cell_below HBB2.out HH0.out.2.2⟩ (fun hHeld => ?_)
  clear hK K
  refine norm_ (a' := ?_) ?_ ?_
  rotate_left
  · show Act.put _ (some 12) _ = _
    simp only [Act.put, List.setIfInBounds_toArray, List.set_cons_zero, List.set_cons_succ, i64_w, i32_w]
    rfl
  refine one_ (i := 14) (N := some 17) #[true, true, true, true, true, true, true, true, true, true, true, true, true, true, true, false, false, false] rfl rfl (by kernel_rfl) (by decide) (fun K hK => ?_)
  refine goes_ Try.func86 (by kernel_rfl) rfl #[.map (some m2)] (by rfl) rfl rfl (by simp only [List.map_toArray, List.map_cons, List.map_nil]; rfl) ?_
  with_reducible refine (e_cloneB m2 _ _ _ _ HE2.out.flags).mono ?_
  rintro e w3 ⟨rfl, h3, hb3, hl3⟩
  refine ⟨_, rfl, ?_⟩
  have HL3 := Aside0.mk hl3
  clear hl3
  have HM3 := Aside0.mk h3
  have HV3 := Aside0.mk ((Chg.of_below hb3 none_).map HM2.out (fun h => h))
  have HB3 := Aside0.mk (HB2.out.trans (hb3.mono HB2.out.size))
  have HBB3 := Aside0.mk (HBB2.out.trans (hb3.mono HBB2.out.size))
  obtain ⟨A2, c2, rfl, _, _⟩ := Kd.R_reads HR2.out
  have HR3 := Aside0.mk (Kd.R_below HR2.out hb3)
  clear h3 hb3
  refine hK.out _ _ ⟨pw_cell_below HBB3.out HH0.out.1, pw_cell_below HBB3.out HH0.out.2.1, pw_cell_below HBB3.out HH0.out.2.2⟩ (fun hHeld => ?_)
  clear hK K
  refine norm_ (a' := ?_) ?_ ?_
  rotate_left
  · show Act.put _ (some 17) _ = _
    simp only [Act.put, List.setIfInBounds_toArray, List.set_cons_zero, List.set_cons_succ, i64_w, i32_w]
    rfl
  refine pure_ (i := 15) (N := some 18) (v := ?_) (a' := ?_) #[true, true, true, true, true, true, true, true, true, true, true, true, true, true, true, true, false, false] rfl rfl (by kernel_rfl) (fun _ _ _ h => h) (Or.inl ⟨by rfl, ?_⟩) ?_ ?_
  rotate_left
  · intro w'
    go_simp
    with_reducible rfl
  rotate_left
  · simp only [Act.put, List.setIfInBounds_toArray, List.set_cons_zero, List.set_cons_succ, i64_w, i32_w]
    rfl
  refine one_ (i := 16) (N := some 19) #[true, true, true, true, true, true, true, true, true, true, true, true, true, true, true, true, true, false] rfl rfl (by kernel_rfl) (by decide) (fun K hK => ?_)
  refine value_ (w1 := ?_) (v := ?_) (by rfl) rfl ?_ ?_
  rotate_left 2
  · go_simp
    constructor
    · rfl
    · rfl
  refine hK.out _ _ ⟨(pw_cell_below ((Below.refl _ _).alloc (Nat.le_refl _) _) (pw_cell_below HBB3.out HH0.out.1)), (pw_cell_below ((Below.refl _ _).alloc (Nat.le_refl _) _) (pw_cell_below HBB3.out HH0.out.2.1)), (pw_cell_below ((Below.refl _ _).alloc (Nat.le_refl _) _) (pw_cell_below HBB3.out HH0.out.2.2))⟩ (fun hHeld => ?_)
  clear hK K
  refine norm_ (a' := ?_) ?_ ?_
  rotate_left
  · show Act.put _ (some 19) _ = _
    simp only [Act.put, List.setIfInBounds_toArray, List.set_cons_zero, List.set_cons_succ, i64_w, i32_w]
    rfl
  refine pure_ (i := 17) (N := some 2) (v := ?_) (a' := ?_) #[true, true, true, true, true, true, true, true, true, true, true, true, true, true, true, true, true, true] rfl rfl (by kernel_rfl) (fun _ _ _ h => h) (Or.inl ⟨by rfl, ?_⟩) ?_ ?_
  rotate_left
  · intro w'
    go_simp
    with_reducible rfl
  rotate_left
  · simp only [Act.put, List.setIfInBounds_toArray, List.set_cons_zero, List.set_cons_succ, i64_w, i32_w]
    rfl
  refine done_ (by kernel_rfl) ?_
  go_wp2_with fail
  go_ret
  have hs1 := HL1.out
  have hs2 := HL2.out
  have hs3 := HL3.out
  have hd := HBD.out.size
  refine ⟨w3.heap.size, wd.heap.size, w2.heap.size, rfl, ?_, HB3.out.alloc HB3.out.size _, HB3.out.size, hd, by omega⟩
  refine ⟨⟨_, heap_alloc_new _ _, ?_⟩, HV3.out.alloc _, HM3.out.alloc _, by omega, HE.out.ok⟩
  exact Kd.R_below (Kd.R_lower HR3.out (Nat.zero_le _)) ((Below.refl _ _).alloc (Nat.le_refl _) _)

/-! steps in regions -/
section
variable {ops : Array Oper} {a : Act} {o : Oper} {Kc : Act → World → Prop} {Q : Exit → Act → World → Prop} {W : World}
theorem lookup_ok_step (hw : Region.wanted o (yielded ops a.tmps) = true) (m x : Operand) (t : TypeId) (hop : o.op = Op.lookup t m x true)
    (ht : Try.prog.underlying t = some (.map 9 9)) (b n : Nat) (L : VTab)
    (hm : a.eval m = .map (some b)) (hown : W.ownsMap Try.prog 9 (plainElem (H := Unit) Try.prog 9) b n (tab encS L)) (s : ByteArray) (hs : s.size ≤ maxLen) (hx : a.eval x = .string s) (v : ByteArray) (c : Bool) (hv : (tget L s).getD ⟨#[]⟩ = v) (hc : (tget L s).isSome = c)
    (hK : Kc (a.put o.dst (.tuple #[.string v, .bool c])) W) :
    if Region.wanted o (yielded ops a.tmps) = true then Oper.wp Try.prog o a W Kc Q else Kc (a.put o.dst undef) W := by
  subst hv hc
  rw [if_pos hw]
  obtain ⟨v, ps, hrun, hv⟩ := hown.look_ok e_law9 ht (e_zero_str W) (zd := .lit (.string [])) (zp := []) (plainElem_string (s := ⟨#[]⟩) Try.underlying9 (Nat.zero_le _)) (key := .string s) (kl := .string s.data.toList) (WideMaps.keyOf_string_mk Try.underlying9 hs)
  obtain ⟨s', rfl, h1, _⟩ := plainElem_string_inv Try.underlying9 hv
  rw [vtab_at] at h1
  simp only [encS, Prod.mk.injEq, DataW.lit.injEq, Lit.string.injEq, and_true] at h1
  have h2 : (tget L s).getD ⟨#[]⟩ = s' := data_inj h1.1
  unfold Oper.wp
  simp [execOp, hop, hm, hx, hrun, Result.andThen]
  rw [tab_has, ← h2]
  exact hK
theorem update_step (hw : Region.wanted o (yielded ops a.tmps) = true) (m x y : Operand) (t : TypeId) (hop : o.op = Op.mapUpdate t m x y)
    (ht : Try.prog.underlying t = some (.map 9 9)) (b n : Nat) (L : VTab) (hn : n < maxLen)
    (hm : a.eval m = .map (some b)) (hown : W.ownsMap Try.prog 9 (plainElem (H := Unit) Try.prog 9) b n (tab encS L)) (s v : ByteArray) (hs : s.size ≤ maxLen) (hv : v.size ≤ maxLen) (hx : a.eval x = .string s) (hy : a.eval y = .string v)
    (hK : ∀ w1, w1.ownsMap Try.prog 9 (plainElem (H := Unit) Try.prog 9) b (n + 1) ((tab encS L).put (.string s.data.toList) (.lit (.string v.data.toList))) → W.mapTurned w1 b → Kc (a.put o.dst undef) w1) :
    if Region.wanted o (yielded ops a.tmps) = true then Oper.wp Try.prog o a W Kc Q else Kc (a.put o.dst undef) W := by
  rw [if_pos hw]
  obtain ⟨w1, hrun, hown1, hg⟩ := hown.store e_law9 ht hn (key := .string s) (val := .string v) (kl := .string s.data.toList) (d := .lit (.string v.data.toList)) (ps := []) (WideMaps.keyOf_string_mk Try.underlying9 hs) (plainElem_string Try.underlying9 hv)
  unfold Oper.wp
  simp [execOp, hop, hm, hx, hy, hrun, Result.andThen]
  exact hK w1 hown1 hg
end
end Go.Proofs.Ytfdjbjinomfgiaa
