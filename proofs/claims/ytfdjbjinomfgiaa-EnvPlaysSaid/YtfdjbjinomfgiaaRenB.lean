/- The document's own variables: Set. -/
import Derived.Test.YtfdjbjinomfgiaaRenA
namespace Go.Proofs.Ytfdjbjinomfgiaa
open Go.RowKit Go.Maps Go.Proofs.YtfdjbjinomfgiaaW.PrintWords Go.Proofs.YtfdjbjinomfgiaaW.PrintLast Go.Proofs.YtfdjbjinomfgiaaW.PrintMore
set_option linter.unusedSimpArgs false
set_option linter.unusedVariables false

theorem RenIs.frozen {w : World} {g : Nat} {S : EnvS} (h : RenIs w g S) (j : Nat) : w.frozen? ⟨g, j, none⟩ = false := by
  obtain ⟨⟨v1, v2, hb, _⟩, _⟩ := h
  exact blk_frozen hb j
theorem RenIs.stored0 {w : World} {g : Nat} {S : EnvS} {v : Value} {L : VTab} (h : RenIs w g S) (hR : Kd.R VarK 108 w 0 (fun _ => True) v L) (ho : EnvOk { S with vars := L }) : RenIs (w.setCell ⟨g, 0, none⟩ v) g { S with vars := L } := by
  obtain ⟨⟨v1, v2, hb, h1, h2⟩, _⟩ := h
  refine ⟨⟨v, v2, by rw [blk_set hb]; rfl, Kd.R_set hR hb (fun q hq => by rw [varK_E hq]; decide) 0 v, Kd.R_set h2 hb (fun q hq => ?_) 0 v⟩, ho⟩
  rcases List.mem_cons.1 hq with rfl | hq
  · decide
  · cases hq
theorem R_empty {α : Type} (d : Kd α) (e : Nat) (W : World) (base : Nat) (hb : base ≤ W.heap.size) : d.R e (W.alloc (.cells #[] e)) base (fun _ => True) (.slice (some ⟨W.heap.size, 0, none⟩) 0 0) [] := by
  refine ⟨fun _ _ => trivial, [], ?_, Reps.none _ _⟩
  have h2 := World.ownsRow_lit (base := base) (e := e) (size := d.sz) W #[] 0 hb (by unfold maxLen; omega) (by simp)
  simpa using h2
theorem varKM {w : World} {base : Nat} {ok : Nat → Prop} {x : ByteArray × ByteArray} {cs : List Value} (h : VarK.K w x cs) : VarK.M w base ok x cs := by
  obtain ⟨c0, c1, rfl, h0, h1⟩ := h
  exact ⟨c0, c1, rfl, h0, h1⟩
theorem e_info2 : ∃ i, Try.prog.info? 108 = some i ∧ i.size = 2 := by
  obtain ⟨i, h, h2⟩ := Option.map_eq_some_iff.1 e_info_var
  simp only [Prod.mk.injEq] at h2
  exact ⟨i, h, h2.2.1⟩

set_option maxHeartbeats 4000000 in
set_option maxRecDepth 100000 in
theorem ren_Set (g : Nat) (S S' : EnvS) (s v : ByteArray) (r : Int) (w : World) (hs : s.size ≤ 1000000) (hv : v.size ≤ 1000000) (hr : RenIs w g S) (hb : setF S s v = (r, S')) :
    Calls Try.prog 21 #[.pointer (some ⟨g, 0, none⟩), .string s, .string v] w fun e w' => e = .returned (.int .i64 r) ∧ RenIs w' g S' ∧ Chg (fun k => k = g) w w' := by
  have HR := Aside0.mk hr
  have HB := Aside0.mk hb
  have HS := Aside0.mk hs
  have HV := Aside0.mk hv
  have HO := Aside0.mk (setF_ok hr.ok s v hs)
  clear hr hb hs hv
  obtain ⟨b1, h1⟩ : ∃ b, nameB s = b := ⟨_, rfl⟩
  obtain ⟨b2, h2⟩ : ∃ b, valB v = b := ⟨_, rfl⟩
  obtain ⟨b3, h3⟩ : ∃ b, (tget S.vars s).isSome = b := ⟨_, rfl⟩
  obtain ⟨k, hk⟩ : ∃ k, tat S.vars s = k := ⟨_, rfl⟩
  have H1 := Aside0.mk h1
  have H2 := Aside0.mk h2
  have H3 := Aside0.mk h3
  have HK := Aside0.mk hk
  clear h1 h2 h3 hk
  cases b1 with
  | false =>
    go_enter Try.func21, Try.ntmps21
    go_wp2_with fail
    refine (ref_Name_calls s HS.out false H1.out _).mono ?_
    rintro e w1 ⟨rfl, hd⟩
    have HD := Aside0.mk hd
    clear hd
    go_wp2
    go_ret
    have hf := HB.out
    unfold setF at hf
    rw [H1.out, if_pos (by rfl)] at hf
    injection hf with e1 e2
    rw [← e2]
    exact ⟨ret_int' e1, HR.out.drawn HD.out, Chg.of_drawn HD.out _⟩
  | true =>
    cases b2 with
    | false =>
      go_enter Try.func21, Try.ntmps21
      go_wp2_with fail
      refine (ref_Name_calls s HS.out true H1.out _).mono ?_
      rintro e w1 ⟨rfl, hd⟩
      have HD := Aside0.mk hd
      have HR1 := Aside0.mk (HR.out.drawn hd)
      clear hd
      go_wp2_with fail
      refine (ren_find g S s k b3 _ HR1.out HK.out H3.out).mono ?_
      rintro e w2 ⟨rfl, hd⟩
      have HD2 := Aside0.mk (Chg.drawn (Chg.of_drawn HD.out none_) hd)
      have HR2 := Aside0.mk (HR1.out.drawn hd)
      clear hd
      go_wp2_with fail
      refine (ref_valueOk_calls v HV.out false H2.out _).mono ?_
      rintro e w3 ⟨rfl, hd⟩
      have HD3 := Aside0.mk (HD2.out.drawn hd)
      have HR3 := Aside0.mk (HR2.out.drawn hd)
      clear hd
      obtain ⟨A, c, B, d, hbox, hc0, hc1, hR0, hC, hlc, hR1, hD, hld⟩ := HR3.out.opened
      have HC := Aside0.mk hC
      have HLC := Aside0.mk hlc
      clear hbox hc1 hR0 hC hlc hR1 hD hld
      go_wp2
      go_ret
      have hf := HB.out
      unfold setF at hf
      rw [H1.out, H2.out, if_neg (by simp), if_pos (by simp)] at hf
      injection hf with e1 e2
      rw [← e2]
      exact ⟨ret_int' e1, HR3.out, HD3.out.mono (fun _ h => h.elim)⟩
    | true =>
      cases b3 with
      | true =>
        have hlt := (tat_val HR.out.ok.rising H3.out).1
        rw [HK.out] at hlt
        have HLT := Aside0.mk hlt
        have HX := Aside0.mk (Option.isSome_iff_exists.1 H3.out).choose_spec
        clear hlt
        go_enter Try.func21, Try.ntmps21
        go_wp2_with fail
        refine (ref_Name_calls s HS.out true H1.out _).mono ?_
        rintro e w1 ⟨rfl, hd⟩
        have HD := Aside0.mk hd
        have HR1 := Aside0.mk (HR.out.drawn hd)
        clear hd
        go_wp2_with fail
        refine (ren_find g S s k true _ HR1.out HK.out H3.out).mono ?_
        rintro e w2 ⟨rfl, hd⟩
        have HD2 := Aside0.mk (Chg.drawn (Chg.of_drawn HD.out none_) hd)
        have HR2 := Aside0.mk (HR1.out.drawn hd)
        clear hd
        go_wp2_with fail
        refine (ref_valueOk_calls v HV.out true H2.out _).mono ?_
        rintro e w3 ⟨rfl, hd⟩
        have HD3 := Aside0.mk (HD2.out.drawn hd)
        have HR3 := Aside0.mk (HR2.out.drawn hd)
        clear hd
        obtain ⟨A, c, B, d, hbox, hc0, hc1, hR0, hC, hlc, hR1, hD, hld⟩ := HR3.out.opened
        have HC := Aside0.mk hC
        have HLC := Aside0.mk hlc
        clear hbox hc1 hR0 hC hlc hR1 hD hld
        have hkl : k ≤ S.vars.length := by rw [← HK.out]; exact tat_le _ _
        have HKL := Aside0.mk hkl
        have HL := Aside0.mk HR3.out.ok.len
        obtain ⟨inf, hinf, hisz⟩ := e_info2
        have hcut1 := cut_to (P := Try.prog) 29 108 .i64 Try.underlying29 hinf A S.vars.length c (k : Int) (by omega) (by omega) HLC.out
        have hcut2 := cut_from (P := Try.prog) 29 108 .i64 Try.underlying29 hinf 2 hisz A S.vars.length c (((k : Int) + 1) : Int) (by omega) (by have := HLT.out; omega)
        rw [Int.toNat_natCast] at hcut1
        rw [show ((k : Int) + 1).toNat = k + 1 from by omega] at hcut2
        obtain ⟨A2, hA2⟩ : ∃ A2, (if c = (k + 1) then A else A.map (fun x => x.add ((k + 1) * 2))) = A2 := ⟨_, rfl⟩
        rw [hA2] at hcut2
        have HA2 := Aside0.mk hA2
        have hlt2 : (k : Int) < (S.vars.length : Int) := by have := HLT.out; omega
        clear hinf hisz hA2
        have hmk : (k : Int) ≤ 100 := by have := HL.out; have := HKL.out; omega
        have hmk0 : (0 : Int) ≤ (k : Int) := by omega
        clear hkl
        have HLK := Aside0.mk (show (S.vars.take k).length = k from by rw [List.length_take]; have := HKL.out; omega)
        have HLK1 := Aside0.mk (show (S.vars.take k ++ [(s, v)]).length = k + 1 from by rw [List.length_append, List.length_singleton, HLK.out])
        have hc0a := pw_cell_below ((Below.refl _ _).alloc (Nat.le_refl _) (.cells #[] 108)) hc0
        go_wp2_with (first
          | (at_builtin; refine Kd.R_append_rows VarK (w0 := w3.alloc (.cells #[] 108)) w3.heap.size rfl (.tmp 34) (.tmp 40) 29 108 (.agg #[.string ⟨#[]⟩, .string ⟨#[]⟩]) 32 rfl Try.underlying29 e_info_var rfl (by decide) (by omega) _ [] (S.vars.take k) A k c (fun _ => True) (fun _ => False) rfl rfl (R_empty VarK _ _ _ (Nat.le_refl _)) (by have h := Kd.C_take (Kd.C_below HC.out ((Below.refl _ _).alloc (Nat.le_refl _) (.cells #[] 108))) HKL.out; rw [show (S.vars.take k).length = k from by simp; have := HKL.out; omega] at h; exact h) (fun _ _ h => varKM h) (fun _ h => h.elim) (fun _ _ => trivial) (Below.refl _ _) (by simp) (by simp; have := HKL.out; have := HL.out; omega) ?_; intro v4 w4 hR4 _ hG4 _; replace hR4 : Kd.R VarK 108 w4 w3.heap.size (fun _ => True) v4 (S.vars.take k) := hR4; obtain ⟨A4, c4, he4, _, _⟩ := Kd.R_reads hR4; rw [HLK.out] at he4; subst he4; have HR4 := Aside0.mk hR4; have hb4 : Below w3.heap.size w3 w4 := ((Below.refl _ _).alloc (Nat.le_refl _) (.cells #[] 108)).grown hG4 (by simp) (fun k' hk' => Nat.le_of_eq (Option.some.inj (show some w3.heap.size = some k' from hk'))); have HB4 := Aside0.mk hb4; clear hR4 hG4 hb4)
          | (at_builtin; refine Kd.R_append VarK (w0 := w4) w3.heap.size rfl (.tmp 42) (.tmp 46) 29 108 (.agg #[.string ⟨#[]⟩, .string ⟨#[]⟩]) 32 rfl Try.underlying29 e_info_var rfl (by decide) (by omega) _ (S.vars.take k) (s, v) [.string s, .string v] (fun _ => True) (fun _ => False) rfl rfl (var_M s v) (fun _ hk => hk.elim) (fun _ _ => trivial) HR4.out (Below.refl _ _) HB4.out.size (by simp; have := HKL.out; have := HL.out; omega) ?_; intro v5 w5 hR5 _ hG5 _; obtain ⟨A5, c5, he5, _, _⟩ := Kd.R_reads hR5; rw [HLK1.out] at he5; subst he5; have HR5 := Aside0.mk hR5; have hb5 := HB4.out.grown hG5 HB4.out.size (fun k hk => ((Kd.R_bound HR4.out).1 k hk).2.1); have HB5 := Aside0.mk hb5; have hc5 := pw_cell_below hb5 hc0; clear hR5 hG5 hb5)
          | (at_builtin; refine Kd.R_append_rows VarK (w0 := w5) w3.heap.size rfl (.tmp 52) (.tmp 58) 29 108 (.agg #[.string ⟨#[]⟩, .string ⟨#[]⟩]) 32 rfl Try.underlying29 e_info_var rfl (by decide) (by omega) _ (S.vars.take k ++ [(s, v)]) (S.vars.drop (k + 1)) A2 (S.vars.length - (k + 1)) (c - (k + 1)) (fun _ => True) (fun _ => False) rfl rfl HR5.out (by have h := Kd.C_drop (Kd.C_below HC.out HB5.out) (m := (k + 1)) (c := c) (by have := HKL.out; have := HLT.out; omega) HLC.out; rw [show (S.vars.drop (k + 1)).length = S.vars.length - (k + 1) from by simp] at h; rw [← HA2.out]; exact h) (fun _ _ h => varKM h) (fun _ h => h.elim) (fun _ _ => trivial) (Below.refl _ _) HB5.out.size (by simp; have := HKL.out; have := HL.out; omega) ?_; intro v6 w6 hR6 _ hG6 _; obtain ⟨A6, c6, he6, _, _⟩ := Kd.R_reads hR6; obtain ⟨N6, hN6⟩ : ∃ N6, (S.vars.take k ++ [(s, v)] ++ S.vars.drop (k + 1)).length = N6 := ⟨_, rfl⟩; rw [hN6] at he6; subst he6; clear hN6; have HR6 := Aside0.mk hR6; have hb6 := HB5.out.grown hG6 HB5.out.size (fun k hk => ((Kd.R_bound HR5.out).1 k hk).2.1); have HB6 := Aside0.mk hb6; have hc6 := pw_cell_below hb6 hc0; have hz6 := (HR3.out.below hb6).frozen 0; clear hR6 hG6 hb6))
        go_ret
        have hf := HB.out
        have ho := HO.out
        rw [HB.out] at ho
        unfold setF at hf
        rw [H1.out, H2.out, H3.out, if_neg (by simp), if_neg (by simp)] at hf
        injection hf with e1 e2
        refine ⟨ret_int' e1, ?_, (((HD3.out.below HB6.out).mono (S' := fun k => k = g) (fun _ h => h.elim)).setCell (p := ⟨g, 0, none⟩) (.inl rfl) _)⟩
        subst e2
        have hp : tput S.vars s v = S.vars.take k ++ [(s, v)] ++ S.vars.drop (k + 1) := by
          rw [tput_there HR3.out.ok.rising HX.out, HK.out, List.append_assoc, List.singleton_append]
        have h6 := HR6.out
        rw [← hp] at h6
        have h7 := (HR3.out.below HB6.out).stored0 (L := tput S.vars s v) (Kd.R_lower h6 (Nat.zero_le _)) ho
        exact h7
      | false =>
        have HX := Aside0.mk (show tget S.vars s = none from by cases h : tget S.vars s with | none => rfl | some x => have := H3.out; rw [h] at this; cases this)
        by_cases h100 : 100 ≤ S.vars.length
        · have H100 := Aside0.mk h100
          have h100' : (100 : Int) ≤ (S.vars.length : Int) := by omega
          clear h100
          go_enter Try.func21, Try.ntmps21
          go_wp2_with fail
          refine (ref_Name_calls s HS.out true H1.out _).mono ?_
          rintro e w1 ⟨rfl, hd⟩
          have HD := Aside0.mk hd
          have HR1 := Aside0.mk (HR.out.drawn hd)
          clear hd
          go_wp2_with fail
          refine (ren_find g S s k false _ HR1.out HK.out H3.out).mono ?_
          rintro e w2 ⟨rfl, hd⟩
          have HD2 := Aside0.mk (Chg.drawn (Chg.of_drawn HD.out none_) hd)
          have HR2 := Aside0.mk (HR1.out.drawn hd)
          clear hd
          go_wp2_with fail
          refine (ref_valueOk_calls v HV.out true H2.out _).mono ?_
          rintro e w3 ⟨rfl, hd⟩
          have HD3 := Aside0.mk (HD2.out.drawn hd)
          have HR3 := Aside0.mk (HR2.out.drawn hd)
          clear hd
          obtain ⟨A, c, B, d, hbox, hc0, hc1, hR0, hC, hlc, hR1, hD, hld⟩ := HR3.out.opened
          have HC := Aside0.mk hC
          have HLC := Aside0.mk hlc
          clear hbox hc1 hR0 hC hlc hR1 hD hld
          go_wp2
          go_ret
          have hf := HB.out
          unfold setF at hf
          rw [H1.out, H2.out, H3.out, if_neg (by simp), if_pos (by simp [H100.out])] at hf
          injection hf with e1 e2
          rw [← e2]
          exact ⟨ret_int' e1, HR3.out, HD3.out.mono (fun _ h => h.elim)⟩
        · have H100 := Aside0.mk h100
          have h100' : (S.vars.length : Int) < 100 := by omega
          clear h100
          go_enter Try.func21, Try.ntmps21
          go_wp2_with fail
          refine (ref_Name_calls s HS.out true H1.out _).mono ?_
          rintro e w1 ⟨rfl, hd⟩
          have HD := Aside0.mk hd
          have HR1 := Aside0.mk (HR.out.drawn hd)
          clear hd
          go_wp2_with fail
          refine (ren_find g S s k false _ HR1.out HK.out H3.out).mono ?_
          rintro e w2 ⟨rfl, hd⟩
          have HD2 := Aside0.mk (Chg.drawn (Chg.of_drawn HD.out none_) hd)
          have HR2 := Aside0.mk (HR1.out.drawn hd)
          clear hd
          go_wp2_with fail
          refine (ref_valueOk_calls v HV.out true H2.out _).mono ?_
          rintro e w3 ⟨rfl, hd⟩
          have HD3 := Aside0.mk (HD2.out.drawn hd)
          have HR3 := Aside0.mk (HR2.out.drawn hd)
          clear hd
          obtain ⟨A, c, B, d, hbox, hc0, hc1, hR0, hC, hlc, hR1, hD, hld⟩ := HR3.out.opened
          have HC := Aside0.mk hC
          have HLC := Aside0.mk hlc
          clear hbox hc1 hR0 hC hlc hR1 hD hld
          have hkl : k ≤ S.vars.length := by rw [← HK.out]; exact tat_le _ _
          have HKL := Aside0.mk hkl
          have HL := Aside0.mk HR3.out.ok.len
          obtain ⟨inf, hinf, hisz⟩ := e_info2
          have hcut1 := cut_to (P := Try.prog) 29 108 .i64 Try.underlying29 hinf A S.vars.length c (k : Int) (by omega) (by omega) HLC.out
          have hcut2 := cut_from (P := Try.prog) 29 108 .i64 Try.underlying29 hinf 2 hisz A S.vars.length c ((k : Int) : Int) (by omega) (by omega)
          rw [Int.toNat_natCast] at hcut1
          rw [Int.toNat_natCast] at hcut2
          obtain ⟨A2, hA2⟩ : ∃ A2, (if c = k then A else A.map (fun x => x.add (k * 2))) = A2 := ⟨_, rfl⟩
          rw [hA2] at hcut2
          have HA2 := Aside0.mk hA2

          clear hinf hisz hA2
          have hmk : (k : Int) ≤ 100 := by have := HL.out; have := HKL.out; omega
          have hmk0 : (0 : Int) ≤ (k : Int) := by omega
          clear hkl
          have HLK := Aside0.mk (show (S.vars.take k).length = k from by rw [List.length_take]; have := HKL.out; omega)
          have HLK1 := Aside0.mk (show (S.vars.take k ++ [(s, v)]).length = k + 1 from by rw [List.length_append, List.length_singleton, HLK.out])
          have hc0a := pw_cell_below ((Below.refl _ _).alloc (Nat.le_refl _) (.cells #[] 108)) hc0
          go_wp2_with (first
            | (at_builtin; refine Kd.R_append_rows VarK (w0 := w3.alloc (.cells #[] 108)) w3.heap.size rfl (.tmp 34) (.tmp 40) 29 108 (.agg #[.string ⟨#[]⟩, .string ⟨#[]⟩]) 32 rfl Try.underlying29 e_info_var rfl (by decide) (by omega) _ [] (S.vars.take k) A k c (fun _ => True) (fun _ => False) rfl rfl (R_empty VarK _ _ _ (Nat.le_refl _)) (by have h := Kd.C_take (Kd.C_below HC.out ((Below.refl _ _).alloc (Nat.le_refl _) (.cells #[] 108))) HKL.out; rw [show (S.vars.take k).length = k from by simp; have := HKL.out; omega] at h; exact h) (fun _ _ h => varKM h) (fun _ h => h.elim) (fun _ _ => trivial) (Below.refl _ _) (by simp) (by simp; have := HKL.out; have := HL.out; omega) ?_; intro v4 w4 hR4 _ hG4 _; replace hR4 : Kd.R VarK 108 w4 w3.heap.size (fun _ => True) v4 (S.vars.take k) := hR4; obtain ⟨A4, c4, he4, _, _⟩ := Kd.R_reads hR4; rw [HLK.out] at he4; subst he4; have HR4 := Aside0.mk hR4; have hb4 : Below w3.heap.size w3 w4 := ((Below.refl _ _).alloc (Nat.le_refl _) (.cells #[] 108)).grown hG4 (by simp) (fun k' hk' => Nat.le_of_eq (Option.some.inj (show some w3.heap.size = some k' from hk'))); have HB4 := Aside0.mk hb4; clear hR4 hG4 hb4)
            | (at_builtin; refine Kd.R_append VarK (w0 := w4) w3.heap.size rfl (.tmp 42) (.tmp 46) 29 108 (.agg #[.string ⟨#[]⟩, .string ⟨#[]⟩]) 32 rfl Try.underlying29 e_info_var rfl (by decide) (by omega) _ (S.vars.take k) (s, v) [.string s, .string v] (fun _ => True) (fun _ => False) rfl rfl (var_M s v) (fun _ hk => hk.elim) (fun _ _ => trivial) HR4.out (Below.refl _ _) HB4.out.size (by simp; have := HKL.out; have := HL.out; omega) ?_; intro v5 w5 hR5 _ hG5 _; obtain ⟨A5, c5, he5, _, _⟩ := Kd.R_reads hR5; rw [HLK1.out] at he5; subst he5; have HR5 := Aside0.mk hR5; have hb5 := HB4.out.grown hG5 HB4.out.size (fun k hk => ((Kd.R_bound HR4.out).1 k hk).2.1); have HB5 := Aside0.mk hb5; have hc5 := pw_cell_below hb5 hc0; clear hR5 hG5 hb5)
            | (at_builtin; refine Kd.R_append_rows VarK (w0 := w5) w3.heap.size rfl (.tmp 52) (.tmp 58) 29 108 (.agg #[.string ⟨#[]⟩, .string ⟨#[]⟩]) 32 rfl Try.underlying29 e_info_var rfl (by decide) (by omega) _ (S.vars.take k ++ [(s, v)]) (S.vars.drop k) A2 (S.vars.length - k) (c - k) (fun _ => True) (fun _ => False) rfl rfl HR5.out (by have h := Kd.C_drop (Kd.C_below HC.out HB5.out) (m := k) (c := c) (by have := HKL.out; omega) HLC.out; rw [show (S.vars.drop k).length = S.vars.length - k from by simp] at h; rw [← HA2.out]; exact h) (fun _ _ h => varKM h) (fun _ h => h.elim) (fun _ _ => trivial) (Below.refl _ _) HB5.out.size (by simp; have := HKL.out; have := HL.out; omega) ?_; intro v6 w6 hR6 _ hG6 _; obtain ⟨A6, c6, he6, _, _⟩ := Kd.R_reads hR6; obtain ⟨N6, hN6⟩ : ∃ N6, (S.vars.take k ++ [(s, v)] ++ S.vars.drop k).length = N6 := ⟨_, rfl⟩; rw [hN6] at he6; subst he6; clear hN6; have HR6 := Aside0.mk hR6; have hb6 := HB5.out.grown hG6 HB5.out.size (fun k hk => ((Kd.R_bound HR5.out).1 k hk).2.1); have HB6 := Aside0.mk hb6; have hc6 := pw_cell_below hb6 hc0; have hz6 := (HR3.out.below hb6).frozen 0; clear hR6 hG6 hb6))
          go_ret
          have hf := HB.out
          have ho := HO.out
          rw [HB.out] at ho
          unfold setF at hf
          rw [H1.out, H2.out, H3.out, if_neg (by simp), if_neg (by simp [H100.out])] at hf
          injection hf with e1 e2
          refine ⟨ret_int' e1, ?_, (((HD3.out.below HB6.out).mono (S' := fun k => k = g) (fun _ h => h.elim)).setCell (p := ⟨g, 0, none⟩) (.inl rfl) _)⟩
          subst e2
          have hp : tput S.vars s v = S.vars.take k ++ [(s, v)] ++ S.vars.drop k := by
            rw [tput_new HR3.out.ok.rising HX.out, HK.out, List.append_assoc, List.singleton_append]
          have h6 := HR6.out
          rw [← hp] at h6
          have h7 := (HR3.out.below HB6.out).stored0 (L := tput S.vars s v) (Kd.R_lower h6 (Nat.zero_le _)) ho
          exact h7
end Go.Proofs.Ytfdjbjinomfgiaa
