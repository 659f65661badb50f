/- The document's own variables: Unset, SetArgs. -/
import Derived.Test.YtfdjbjinomfgiaaRenB
namespace Go.Proofs.Ytfdjbjinomfgiaa
open Go.RowKit Go.Maps Go.Proofs.YtfdjbjinomfgiaaW.PrintWords Go.Proofs.YtfdjbjinomfgiaaW.PrintLast Go.Proofs.YtfdjbjinomfgiaaW.PrintMore
set_option linter.unusedSimpArgs false
set_option linter.unusedVariables false

section
variable {ops : Array Oper} {a : Act} {o : Oper} {Kc : Act → World → Prop} {Q : Exit → Act → World → Prop} {w0 W : World}
theorem var_append_step (base : Nat) (hw : Region.wanted o (yielded ops a.tmps) = true) (s x : Operand)
    (ho : o.op = .call { callee := .builtin .append, args := #[s, x], argTypes := #[29, 29] })
    (v : Value) (xs ys : VTab) (A : Option Addr) (m c : Nat) (hs : a.eval s = v) (hx : a.eval x = .slice A m c)
    (HO : Kd.R VarK 108 W base (fun _ => True) v xs) (HR : Kd.C VarK W A m ys) (hbase : base ≤ W.heap.size) (hl : xs.length + m ≤ 1000000)
    (h : ∀ v1 w1, Kd.R VarK 108 w1 base (fun _ => True) v1 (xs ++ ys) → W.grownBy w1 v.ownBlock → Kc (a.put o.dst v1) w1) :
    if Region.wanted o (yielded ops a.tmps) = true then Oper.wp Try.prog o a W Kc Q else Kc (a.put o.dst undef) W :=
  Kd.R_append_rows_step VarK (w0 := W) base hw s x _ _ (.agg #[.string ⟨#[]⟩, .string ⟨#[]⟩]) 32 ho Try.underlying29 e_info_var rfl (by decide) (by omega) v xs ys A m c (fun _ => True) (fun _ => False) hs hx HO HR (fun _ _ h => varKM h) (fun _ h => h.elim) (fun _ _ => trivial) (Below.refl _ _) hbase (by omega) (fun v1 w1 h1 _ h3 _ => h v1 w1 h1 h3)
theorem var_empty_step (base : Nat) (hw : Region.wanted o (yielded ops a.tmps) = true) {N : Tmp} (hd : o.dst = some N)
    (hrun : (execOp a.eval o).run Try.prog W = .ok (.value (.slice (some ⟨W.heap.size, 0, none⟩) 0 0)) (W.alloc (.cells #[] 108)))
    (hbase : base ≤ W.heap.size)
    (h : ∀ v1 w1, Kd.R VarK 108 w1 base (fun _ => True) v1 [] → Below W.heap.size W w1 → (v1.ownBlock = some W.heap.size) → Kc (a.put o.dst v1) w1) :
    if Region.wanted o (yielded ops a.tmps) = true then Oper.wp Try.prog o a W Kc Q else Kc (a.put o.dst undef) W := by
  refine value_ hw rfl hrun (h _ _ (R_empty VarK _ _ _ hbase) ((Below.refl _ _).alloc (Nat.le_refl _) _) rfl)
end
set_option maxHeartbeats 4000000 in
set_option maxRecDepth 100000 in
theorem ren_Unset (g : Nat) (S : EnvS) (s : ByteArray) (b : Bool) (w : World) (hs : s.size ≤ 1000000) (hr : RenIs w g S) (hb : nameB s = b) :
    Calls Try.prog 23 #[.pointer (some ⟨g, 0, none⟩), .string s] w fun e w' => e = .returned (.bool b) ∧ RenIs w' g (unsetF S s) ∧ Chg (fun k => k = g) w w' := by
  have HR := Aside0.mk hr
  have HB := Aside0.mk hb
  have HS := Aside0.mk hs
  clear hr hb hs
  obtain ⟨b3, h3⟩ : ∃ b, (tget S.vars s).isSome = b := ⟨_, rfl⟩
  obtain ⟨k, hk⟩ : ∃ k, tat S.vars s = k := ⟨_, rfl⟩
  have H3 := Aside0.mk h3
  have HK := Aside0.mk hk
  clear h3 hk
  cases b3 with
  | false =>
    have HU := Aside0.mk (show unsetF S s = S from by
      unfold unsetF
      rw [tdel_none (by cases h : tget S.vars s with | none => rfl | some x => have := H3.out; rw [h] at this; cases this)])
    go_enter Try.func23, Try.ntmps23
    go_wp2_with fail
    refine (ren_find g S s k false _ HR.out HK.out H3.out).mono ?_
    rintro e w2 ⟨rfl, hd⟩
    have HD := Aside0.mk hd
    have HR2 := Aside0.mk (HR.out.drawn hd)
    clear hd
    go_wp2_with fail
    refine (ref_Name_calls s HS.out b HB.out _).mono ?_
    rintro e w3 ⟨rfl, hd⟩
    have HD3 := Aside0.mk (Chg.drawn (Chg.of_drawn HD.out (fun k => k = g)) hd)
    have HR3 := Aside0.mk (HR2.out.drawn hd)
    clear hd
    go_wp2
    go_ret
    rw [HU.out]
    exact ⟨rfl, HR3.out, HD3.out⟩
  | true =>
    have hlt := (tat_val HR.out.ok.rising H3.out).1
    rw [HK.out] at hlt
    have HLT := Aside0.mk hlt
    have HX := Aside0.mk (Option.isSome_iff_exists.1 H3.out).choose_spec
    have HL := Aside0.mk HR.out.ok.len
    clear hlt
    go_enter Try.func23, Try.ntmps23
    go_wp2_with fail
    refine (ren_find g S s k true _ HR.out HK.out H3.out).mono ?_
    rintro e w2 ⟨rfl, hd⟩
    have HD := Aside0.mk hd
    have HR2 := Aside0.mk (HR.out.drawn hd)
    clear hd
    obtain ⟨A, c, B, d, hbox, hc0, hc1, hR0, hC, hlc, hR1, hD, hld⟩ := HR2.out.opened
    have HC := Aside0.mk hC
    have HLC := Aside0.mk hlc
    have HZ := Aside0.mk (HR2.out.frozen 0)
    obtain ⟨inf, hinf, hisz⟩ := e_info2
    have hcut1 := cut_to (P := Try.prog) 29 108 .i64 Try.underlying29 hinf A S.vars.length c (k : Int) (by omega) (by have := HLT.out; omega) HLC.out
    have hcut2 := cut_from (P := Try.prog) 29 108 .i64 Try.underlying29 hinf 2 hisz A S.vars.length c ((k : Int) + 1) (by omega) (by have := HLT.out; omega)
    rw [Int.toNat_natCast] at hcut1
    rw [show ((k : Int) + 1).toNat = k + 1 from by omega] at hcut2
    obtain ⟨A2, hA2⟩ : ∃ A2, (if c = k + 1 then A else A.map (fun x => x.add ((k + 1) * 2))) = A2 := ⟨_, rfl⟩
    rw [hA2] at hcut2
    have HA2 := Aside0.mk hA2
    have hmk : (k : Int) ≤ 100 := by have := HL.out; have := HLT.out; omega
    have hmk0 : (0 : Int) ≤ (k : Int) := by omega
    have hwr : IntKind.i64.wrap ((k : Int) + 1) = (k : Int) + 1 := by rw [i64_w]; unfold wrap64; omega
    clear hbox hc1 hR0 hC hlc hR1 hD hld hinf hisz hA2
    go_wp2_with fail
    refine start_ (n := 20) (S := fun w' => w'.cell? ⟨g, 0, none⟩ = some (.slice A S.vars.length c)) (ds := [19]) #[false, false, false, false, false, false, false, false, false, false, false, false, false, false, false, false, false, false, false, false] (by kernel_rfl) rfl rfl (hc0) (fun hHeld => ?_)
    have hbd : Below w2.heap.size w2 w2.drew := Drawn0.below ⟨1, rfl⟩; have HRD := Aside0.mk (HR2.out.below hbd); have HBD := Aside0.mk hbd; have HCD := Aside0.mk (Kd.C_below HC.out hbd); clear hbd; have HH0 := Aside0.mk hHeld; generalize w2.drew = wd at HRD HBD HCD HH0 hHeld ⊢
    refine pure_ (i := 0) (N := some 14) (v := ?_) (a' := ?_) #[true, false, false, false, false, false, false, false, false, false, false, false, false, false, false, false, false, false, false, false] rfl rfl (by kernel_rfl) (fun _ _ _ h => h) (Or.inl ⟨by rfl, ?_⟩) ?_ ?_
    rotate_left
    · intro w'
      go_simp
      with_reducible rfl
    rotate_left
    · simp only [Act.put, List.setIfInBounds_toArray, List.set_cons_zero, List.set_cons_succ, i64_w, i32_w]
      rfl
    refine pure_ (i := 2) (N := some 16) (v := ?_) (a' := ?_) #[true, false, true, false, false, false, false, false, false, false, false, false, false, false, false, false, false, false, false, false] rfl rfl (by kernel_rfl) (fun _ _ _ h => h) (Or.inl ⟨by rfl, ?_⟩) ?_ ?_
    rotate_left
    · intro w'
      go_simp
      with_reducible rfl
    rotate_left
    · simp only [Act.put, List.setIfInBounds_toArray, List.set_cons_zero, List.set_cons_succ, i64_w, i32_w]
      rfl
    refine pure_ (i := 3) (N := some 17) (v := ?_) (a' := ?_) #[true, false, true, true, false, false, false, false, false, false, false, false, false, false, false, false, false, false, false, false] rfl rfl (by kernel_rfl) (fun _ _ _ h => h) (Or.inl ⟨by rfl, ?_⟩) ?_ ?_
    rotate_left
    · intro w'
      go_simp
      with_reducible rfl
    rotate_left
    · simp only [Act.put, List.setIfInBounds_toArray, List.set_cons_zero, List.set_cons_succ, i64_w, i32_w]
      rfl
    refine pure_ (i := 4) (N := some 18) (v := ?_) (a' := ?_) #[true, false, true, true, true, false, false, false, false, false, false, false, false, false, false, false, false, false, false, false] rfl rfl (by kernel_rfl) (fun _ _ _ h => h) (Or.inl ⟨by rfl, ?_⟩) ?_ ?_
    rotate_left
    · intro w'
      go_simp
      with_reducible rfl
    rotate_left
    · simp only [Act.put, List.setIfInBounds_toArray, List.set_cons_zero, List.set_cons_succ, i64_w, i32_w]
      rfl
    refine pure_ (i := 6) (N := some 20) (v := ?_) (a' := ?_) #[true, false, true, true, true, false, true, false, false, false, false, false, false, false, false, false, false, false, false, false] rfl rfl (by kernel_rfl) (fun _ _ _ h => h) (Or.inl ⟨by rfl, ?_⟩) ?_ ?_
    rotate_left
    · intro w'
      go_simp
      with_reducible rfl
    rotate_left
    · simp only [Act.put, List.setIfInBounds_toArray, List.set_cons_zero, List.set_cons_succ, i64_w, i32_w]
      rfl
    refine pure_ (i := 9) (N := some 23) (v := ?_) (a' := ?_) #[true, false, true, true, true, false, true, false, false, true, false, false, false, false, false, false, false, false, false, false] rfl rfl (by kernel_rfl) (fun _ _ _ h => h) (Or.inl ⟨by rfl, ?_⟩) ?_ ?_
    rotate_left
    · intro w'
      go_simp
      with_reducible rfl
    rotate_left
    · simp only [Act.put, List.setIfInBounds_toArray, List.set_cons_zero, List.set_cons_succ, i64_w, i32_w]
      rfl
    refine pure_ (i := 10) (N := some 24) (v := ?_) (a' := ?_) #[true, false, true, true, true, false, true, false, false, true, true, false, false, false, false, false, false, false, false, false] rfl rfl (by kernel_rfl) (fun _ _ _ h => h) (Or.inl ⟨by rfl, ?_⟩) ?_ ?_
    rotate_left
    · intro w'
      go_simp
      with_reducible rfl
    rotate_left
    · simp only [Act.put, List.setIfInBounds_toArray, List.set_cons_zero, List.set_cons_succ, i64_w, i32_w]
      rfl
    refine pure_ (i := 11) (N := some 25) (v := ?_) (a' := ?_) #[true, false, true, true, true, false, true, false, false, true, true, true, false, false, false, false, false, false, false, false] rfl rfl (by kernel_rfl) (fun _ _ _ h => h) (Or.inl ⟨by rfl, ?_⟩) ?_ ?_
    rotate_left
    · intro w'
      go_simp
      with_reducible rfl
    rotate_left
    · simp only [Act.put, List.setIfInBounds_toArray, List.set_cons_zero, List.set_cons_succ, i64_w, i32_w]
      rfl
    refine pure_ (i := 13) (N := some 27) (v := ?_) (a' := ?_) #[true, false, true, true, true, false, true, false, false, true, true, true, false, true, false, false, false, false, false, false] rfl rfl (by kernel_rfl) (fun _ _ _ h => h) (Or.inl ⟨by rfl, ?_⟩) ?_ ?_
    rotate_left
    · intro w'
      go_simp
      with_reducible rfl
    rotate_left
    · simp only [Act.put, List.setIfInBounds_toArray, List.set_cons_zero, List.set_cons_succ, i64_w, i32_w]
      rfl
    refine pure_ (i := 14) (N := some 28) (v := ?_) (a' := ?_) #[true, false, true, true, true, false, true, false, false, true, true, true, false, true, true, false, false, false, false, false] rfl rfl (by kernel_rfl) (fun _ _ _ h => h) (Or.inl ⟨by rfl, ?_⟩) ?_ ?_
    rotate_left
    · intro w'
      go_simp
      with_reducible rfl
    rotate_left
    · simp only [Act.put, List.setIfInBounds_toArray, List.set_cons_zero, List.set_cons_succ, i64_w, i32_w]
      rfl
    refine take_ (i := 5) (N := some 19) (v := ?_) (a' := ?_) #[true, false, true, true, true, true, true, false, false, true, true, true, false, true, true, false, false, false, false, false] rfl rfl (by kernel_rfl) (fun _ _ _ h => h) (Or.inl ⟨by rfl, ?_⟩) hHeld ?_ ?_
    rotate_left
    · intro w' s0
      go_simp
      with_reducible rfl
    rotate_left
    · simp only [Act.put, List.setIfInBounds_toArray, List.set_cons_zero, List.set_cons_succ, i64_w, i32_w]
      rfl
    refine pure_ (i := 7) (N := some 21) (v := ?_) (a' := ?_) #[true, false, true, true, true, true, true, true, false, true, true, true, false, true, true, false, false, false, false, false] rfl rfl (by kernel_rfl) (fun _ _ _ h => h) (Or.inl ⟨by rfl, ?_⟩) ?_ ?_
    rotate_left
    · intro w'
      go_simp
      with_reducible rfl
    rotate_left
    · simp only [Act.put, List.setIfInBounds_toArray, List.set_cons_zero, List.set_cons_succ, i64_w, i32_w]
      rfl
    refine take_ (i := 12) (N := some 26) (v := ?_) (a' := ?_) #[true, false, true, true, true, true, true, true, false, true, true, true, true, true, true, false, false, false, false, false] rfl rfl (by kernel_rfl) (fun _ _ _ h => h) (Or.inl ⟨by rfl, ?_⟩) hHeld ?_ ?_
    rotate_left
    · intro w' s0
      go_simp
      with_reducible rfl
    rotate_left
    · simp only [Act.put, List.setIfInBounds_toArray, List.set_cons_zero, List.set_cons_succ, i64_w, i32_w]
      rfl
    refine pure_ (i := 15) (N := some 29) (v := ?_) (a' := ?_) #[true, false, true, true, true, true, true, true, false, true, true, true, true, true, true, true, false, false, false, false] rfl rfl (by kernel_rfl) (fun _ _ _ h => h) (Or.inl ⟨by rfl, ?_⟩) ?_ ?_
    rotate_left
    · intro w'
      go_simp
      with_reducible rfl
    rotate_left
    · simp only [Act.put, List.setIfInBounds_toArray, List.set_cons_zero, List.set_cons_succ, i64_w, i32_w]
      rfl
    refine one_ (i := 1) (N := some 15) #[true, true, true, true, true, true, true, true, false, true, true, true, true, true, true, true, false, false, false, false] rfl rfl (by kernel_rfl) (by decide) (fun K hK => ?_)
    refine var_empty_step wd.heap.size (by rfl) rfl (by first | (go_simp; done) | (go_simp; rfl)) (Nat.le_refl _) ?_
    intro v3 w3 hR3 hB3 hv3
    have HR3 := Aside0.mk hR3
    have HB3 := Aside0.mk hB3
    have HV3 := Aside0.mk hv3
    clear hR3 hB3 hv3
    refine hK.out _ _ (pw_cell_below HB3.out HH0.out) (fun hHeld => ?_)
    clear hK K
    refine norm_ (a' := ?_) ?_ ?_
    rotate_left
    · show Act.put _ (some 15) _ = _
      simp only [Act.put, List.setIfInBounds_toArray, List.set_cons_zero, List.set_cons_succ, i64_w, i32_w]
      rfl
    refine one_ (i := 8) (N := some 22) #[true, true, true, true, true, true, true, true, true, true, true, true, true, true, true, true, false, false, false, false] rfl rfl (by kernel_rfl) (by decide) (fun K hK => ?_)
    refine var_append_step wd.heap.size (by rfl) (.tmp 15) (.tmp 21) rfl v3 [] (S.vars.take k) A k c rfl rfl HR3.out (by have h := Kd.C_take (Kd.C_below HCD.out HB3.out) (m := k) (by have := HLT.out; omega); rw [show (S.vars.take k).length = k from by rw [List.length_take]; have := HLT.out; omega] at h; exact h) HB3.out.size (by have := HLT.out; have := HL.out; simp <;> omega) ?_
    intro v4 w4 hR4 hG4
    have HR4 := Aside0.mk (show Kd.R VarK 108 w4 wd.heap.size (fun _ => True) v4 (S.vars.take k) from hR4)
    have HB4 := Aside0.mk (HB3.out.grown hG4 HB3.out.size (fun k hk => ((Kd.R_bound HR3.out).1 k hk).2.1))
    clear hR4 hG4
    refine hK.out _ _ (pw_cell_below HB4.out HH0.out) (fun hHeld => ?_)
    clear hK K
    refine norm_ (a' := ?_) ?_ ?_
    rotate_left
    · show Act.put _ (some 22) _ = _
      simp only [Act.put, List.setIfInBounds_toArray, List.set_cons_zero, List.set_cons_succ, i64_w, i32_w]
      rfl
    refine one_ (i := 16) (N := some 30) #[true, true, true, true, true, true, true, true, true, true, true, true, true, true, true, true, true, false, false, false] rfl rfl (by kernel_rfl) (by decide) (fun K hK => ?_)
    refine var_append_step wd.heap.size (by rfl) (.tmp 22) (.tmp 29) rfl v4 (S.vars.take k) (S.vars.drop (k + 1)) A2 (S.vars.length - (k + 1)) (c - (k + 1)) rfl rfl HR4.out (by have h := Kd.C_drop (Kd.C_below HCD.out HB4.out) (m := k + 1) (c := c) (by have := HLT.out; omega) HLC.out; rw [show (S.vars.drop (k + 1)).length = S.vars.length - (k + 1) from by simp] at h; rw [← HA2.out]; exact h) HB4.out.size (by rw [List.length_take]; have := HLT.out; have := HL.out; omega) ?_
    intro v5 w5 hR5 hG5
    obtain ⟨A5, c5, he5, _, _⟩ := Kd.R_reads hR5
    obtain ⟨N5, hN5⟩ : ∃ N5, (S.vars.take k ++ S.vars.drop (k + 1)).length = N5 := ⟨_, rfl⟩
    rw [hN5] at he5
    subst he5
    clear hN5
    have HR5 := Aside0.mk hR5
    have HB5 := Aside0.mk (HB4.out.grown hG5 HB4.out.size (fun k hk => ((Kd.R_bound HR4.out).1 k hk).2.1))
    clear hR5 hG5
    have hfz := (HRD.out.below HB5.out).frozen 0
    refine hK.out _ _ (pw_cell_below HB5.out HH0.out) (fun hHeld => ?_)
    clear hK K
    refine norm_ (a' := ?_) ?_ ?_
    rotate_left
    · show Act.put _ (some 30) _ = _
      simp only [Act.put, List.setIfInBounds_toArray, List.set_cons_zero, List.set_cons_succ, i64_w, i32_w]
      rfl
    refine pure_ (i := 17) (N := some 31) (v := ?_) (a' := ?_) #[true, true, true, true, true, true, true, true, true, true, true, true, true, true, true, true, true, true, false, false] rfl rfl (by kernel_rfl) (fun _ _ _ h => h) (Or.inl ⟨by rfl, ?_⟩) ?_ ?_
    rotate_left
    · intro w'
      go_simp
      with_reducible rfl
    rotate_left
    · simp only [Act.put, List.setIfInBounds_toArray, List.set_cons_zero, List.set_cons_succ, i64_w, i32_w]
      rfl
    refine pure_ (i := 18) (N := some 32) (v := ?_) (a' := ?_) #[true, true, true, true, true, true, true, true, true, true, true, true, true, true, true, true, true, true, true, false] rfl rfl (by kernel_rfl) (fun _ _ _ h => h) (Or.inl ⟨by rfl, ?_⟩) ?_ ?_
    rotate_left
    · intro w'
      go_simp
      with_reducible rfl
    rotate_left
    · simp only [Act.put, List.setIfInBounds_toArray, List.set_cons_zero, List.set_cons_succ, i64_w, i32_w]
      rfl
    refine last_ (i := 19) (N := none) #[true, true, true, true, true, true, true, true, true, true, true, true, true, true, true, true, true, true, true, true] rfl rfl (by kernel_rfl) (by decide) (fun K hK => ?_)
    refine skip_ (w1 := ?_) (by rfl) rfl ?_ ?_
    rotate_left
    · go_simp
      rfl
    refine hK.out _ _ ?_
    clear hK K
    refine done_ (by kernel_rfl) ?_
    go_wp2_with fail
    have HP := Aside0.mk (show S.vars.take k ++ S.vars.drop (k + 1) = tdel S.vars s from by rw [tdel_there HR.out.ok.rising HX.out, HK.out])
    have h6 := HR5.out
    rw [HP.out] at h6
    have HRX := Aside0.mk (show RenIs (w5.setCell ⟨g, 0, none⟩ (.slice A5 N5 c5)) g (unsetF S s) from (HRD.out.below HB5.out).stored0 (L := tdel S.vars s) (Kd.R_lower h6 (Nat.zero_le _)) (unsetF_ok HR.out.ok s))
    have HCX := Aside0.mk ((((Chg.of_drawn HD.out (fun k => k = g)).below HBD.out).below HB5.out).setCell (p := ⟨g, 0, none⟩) (.inl rfl) (.slice A5 N5 c5))
    clear h6
    generalize w5.setCell ⟨g, 0, none⟩ (.slice A5 N5 c5) = wx at HRX HCX ⊢
    refine (ref_Name_calls s HS.out b HB.out _).mono ?_
    rintro e w7 ⟨rfl, hd⟩
    have HR7 := Aside0.mk (HRX.out.drawn hd)
    have HC7 := Aside0.mk (HCX.out.drawn hd)
    clear hd
    go_wp2
    go_ret
    exact ⟨rfl, HR7.out, HC7.out⟩
end Go.Proofs.Ytfdjbjinomfgiaa
