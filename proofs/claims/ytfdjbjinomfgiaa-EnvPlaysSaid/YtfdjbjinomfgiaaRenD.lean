/- The document's own variables: SetArgs, NewEnv. -/
import Derived.Test.YtfdjbjinomfgiaaRenC
namespace Go.Proofs.Ytfdjbjinomfgiaa
open Go.RowKit Go.Maps Go.Proofs.YtfdjbjinomfgiaaW.PrintWords Go.Proofs.YtfdjbjinomfgiaaW.PrintLast Go.Proofs.YtfdjbjinomfgiaaW.PrintMore
set_option linter.unusedSimpArgs false
set_option linter.unusedVariables false

theorem RenIs.stored1 {w : World} {g : Nat} {S : EnvS} {v : Value} {xs : List ByteArray} (h : RenIs w g S) (hR : Kd.R Kd.string 9 w 0 (fun _ => True) v xs) (ho : EnvOk { S with args := xs }) : RenIs (w.setCell ⟨g, 1, none⟩ v) g { S with args := xs } := by
  obtain ⟨⟨v1, v2, hb, h1, h2⟩, _⟩ := h
  refine ⟨⟨v1, v, by rw [blk_set hb]; rfl, Kd.R_set h1 hb (fun q hq => by rw [varK_E hq]; decide) 1 v, Kd.R_set hR hb (fun q hq => ?_) 1 v⟩, ho⟩
  rcases List.mem_cons.1 hq with rfl | hq
  · decide
  · cases hq
theorem take_100 (l : List ByteArray) {k N : Nat} (hN : N = min l.length 100) (hk : k = N) : l.take k = l.take 100 := by
  subst hk
  rw [hN]
  by_cases h : l.length ≤ 100
  · rw [Nat.min_eq_left h, List.take_length, List.take_of_length_le h]
  · rw [Nat.min_eq_right (by omega)]
set_option maxHeartbeats 4000000 in
set_option maxRecDepth 100000 in
theorem ren_SetArgs (g : Nat) (S : EnvS) (A : Option Addr) (c : Nat) (l : List ByteArray) (w : World) (hC : Kd.C Kd.string w A l.length l) (hlc : l.length ≤ c) (hsz : ∀ s ∈ l, s.size ≤ 1000000) (hr : RenIs w g S) :
    Calls Try.prog 25 #[.pointer (some ⟨g, 0, none⟩), .slice A l.length c] w fun e w' => e = .returned (.tuple #[]) ∧ RenIs w' g { S with args := argsF l } ∧ Chg (fun k => k = g) w w' := by
  have HR := Aside0.mk hr
  have HC := Aside0.mk hC
  have HS := Aside0.mk hsz
  have HO := Aside0.mk (argsF_ok hr.ok l)
  have hmax : (l.length : Int) ≤ 9223372036854775807 := by have := hC.2.1; omega
  clear hr hC hsz
  obtain ⟨N, hN⟩ : ∃ N, N = min l.length 100 := ⟨_, rfl⟩
  have HN := Aside0.mk hN
  clear hN
  go_enter Try.func25, Try.ntmps25
  go_wp2_with fail
  go_loopw [4, 5] (fun v i wr => ∃ k : Nat, k ≤ N ∧ i = .int .i64 k ∧ Aside0 (Kd.R Kd.string 9 wr w.heap.size (fun _ => True) v ((l.take k).map argF)) ∧ Aside0 (Below w.heap.size w wr)) (fun _ i _ => N - (intOf i).toNat)
  case atStart => exact ⟨0, Nat.zero_le _, rfl, ⟨Kd.R_nil _ _ _ _ _⟩, ⟨Below.refl _ _⟩⟩
  case round =>
    obtain ⟨k, hk, rfl, HRR, HB⟩ := hrel
    by_cases hlt : k < N
    · have hll : k < l.length := by have := HN.out; omega
      obtain ⟨ad, e, hx⟩ := str_at (Kd.C_below HC.out HB.out) hll
      subst e
      have HSK := Aside0.mk (HS.out _ (getD_mem' hll ByteArray.empty))
      have HTK := Aside0.mk (take_snoc' hll ByteArray.empty)
      generalize l.getD k ByteArray.empty = s at *
      have hlt1 : (k : Int) < (l.length : Int) := by omega
      have hlt2 : (k : Int) < 100 := by have := HN.out; omega
      have hd1 : decide ((k : Int) < (l.length : Int)) = true := decide_eq_true hlt1
      have HLT := Aside0.mk hlt
      have HLEN := Aside0.mk (show ((l.take k).map argF).length = k from by simp; omega)
      obtain ⟨A1, c1, he1, _, _⟩ := Kd.R_reads HRR.out
      rw [HLEN.out] at he1
      subst he1
      obtain ⟨b, hb⟩ : ∃ b, valB s = b := ⟨_, rfl⟩
      have HV := Aside0.mk hb
      clear hb hlt hll hk
      cases b with
      | true =>
        go_wp2_with fail
        refine (ref_valueOk_calls s HSK.out true HV.out _).mono ?_
        rintro e w1 ⟨rfl, hd⟩
        have HB1 := Aside0.mk (HB.out.trans (hd.below.mono HB.out.size))
        have HR1 := Aside0.mk (Kd.R_below HRR.out hd.below)
        have hx1 := pw_cell_below hd.below hx
        clear hd hx
        go_wp2_with (at_builtin; refine Kd.R_append Kd.string (w0 := w1) w.heap.size rfl (.tmp 21) (.tmp 26) 22 9 (.string ⟨#[]⟩) 16 rfl Try.underlying22 e_info_str rfl (by decide) (by omega) _ ((l.take k).map argF) s [.string s] (fun _ => True) (fun _ => False) rfl rfl rfl (fun _ hk => hk.elim) (fun _ _ => trivial) HR1.out (Below.refl _ _) HB1.out.size (by rw [HLEN.out]; omega) ?_; intro v2 w2 hR2 _ hG2 _; obtain ⟨A2, c2, he2, _, _⟩ := Kd.R_reads hR2; rw [List.length_append, List.length_singleton, HLEN.out] at he2; subst he2; have HR2 := Aside0.mk hR2; have HB2 := Aside0.mk (HB1.out.grown hG2 HB1.out.size (fun k' hk' => ((Kd.R_bound HR1.out).1 k' hk').2.1)); clear hR2 hG2)
        go_roundw
        case rel =>
          refine ⟨k + 1, HLT.out, by go_num, ⟨?_⟩, HB2⟩
          rw [HTK.out, List.map_append, List.map_cons, List.map_nil, show argF s = s from by unfold argF; rw [HV.out]; rfl]
          exact HR2.out
        case measure => have := HLT.out; simp [intOf]; omega
      | false =>
        go_wp2_with fail
        refine (ref_valueOk_calls s HSK.out false HV.out _).mono ?_
        rintro e w1 ⟨rfl, hd⟩
        have HB1 := Aside0.mk (HB.out.trans (hd.below.mono HB.out.size))
        have HR1 := Aside0.mk (Kd.R_below HRR.out hd.below)
        clear hd hx
        go_wp2_with (at_builtin; refine Kd.R_append Kd.string (w0 := w1) w.heap.size rfl (.tmp 28) (.tmp 29) 22 9 (.string ⟨#[]⟩) 16 rfl Try.underlying22 e_info_str rfl (by decide) (by omega) _ ((l.take k).map argF) ⟨#[]⟩ [.string ⟨#[]⟩] (fun _ => True) (fun _ => False) rfl rfl rfl (fun _ hk => hk.elim) (fun _ _ => trivial) HR1.out (Below.refl _ _) HB1.out.size (by rw [HLEN.out]; omega) ?_; intro v2 w2 hR2 _ hG2 _; obtain ⟨A2, c2, he2, _, _⟩ := Kd.R_reads hR2; rw [List.length_append, List.length_singleton, HLEN.out] at he2; subst he2; have HR2 := Aside0.mk hR2; have HB2 := Aside0.mk (HB1.out.grown hG2 HB1.out.size (fun k' hk' => ((Kd.R_bound HR1.out).1 k' hk').2.1)); clear hR2 hG2)
        go_roundw
        case rel =>
          refine ⟨k + 1, HLT.out, by go_num, ⟨?_⟩, HB2⟩
          rw [HTK.out, List.map_append, List.map_cons, List.map_nil, show argF s = ⟨#[]⟩ from by unfold argF; rw [HV.out]; rfl]
          exact HR2.out
        case measure => have := HLT.out; simp [intOf]; omega
    · have hkN : k = N := by omega
      have HT := Aside0.mk (show (l.take k).map argF = argsF l from by unfold argsF; rw [take_100 l HN.out hkN])
      obtain ⟨A1, c1, he1, _, _⟩ := Kd.R_reads HRR.out
      have HLEN := Aside0.mk (show ((l.take k).map argF).length = k from by have := HN.out; simp; omega)
      rw [HLEN.out] at he1
      subst he1
      have HR2 := Aside0.mk (HR.out.below HB.out)
      have hcell : ∃ u, wr.cell? ⟨g, 1, none⟩ = some u := by
        obtain ⟨A, c, B, d, _, _, h, _⟩ := HR2.out.opened
        exact ⟨_, h⟩
      obtain ⟨u1, hu1⟩ := hcell
      have hfz := HR2.out.frozen 1
      have hR1 := HRR.out
      rw [HT.out] at hR1
      have HRF := Aside0.mk hR1
      by_cases hll : (l.length : Int) ≤ (k : Int)
      · have hd1 : decide ((k : Int) < (l.length : Int)) = false := decide_eq_false (by omega)
        clear hlt hk hkN hR1
        go_wp2
        go_end0
        exact ⟨rfl, HR2.out.stored1 (Kd.R_lower HRF.out (Nat.zero_le _)) HO.out, (Chg.of_below HB.out (fun k => k = g)).setCell (p := ⟨g, 1, none⟩) (.inl rfl) _⟩
      · have hd1 : decide ((k : Int) < (l.length : Int)) = true := decide_eq_true (by omega)
        have h100 : (100 : Int) ≤ (k : Int) := by have := HN.out; omega
        have hll' : (k : Int) < (l.length : Int) := by omega
        clear hlt hk hkN hR1 hll
        go_wp2
        go_end0
        exact ⟨rfl, HR2.out.stored1 (Kd.R_lower HRF.out (Nat.zero_le _)) HO.out, (Chg.of_below HB.out (fun k => k = g)).setCell (p := ⟨g, 1, none⟩) (.inl rfl) _⟩

theorem newVarF_eq (S : EnvS) (n u : ByteArray) (h : n ≠ ifsB) : newVarF S (n, u) = (setF S n u).2 := by
  unfold newVarF
  rw [if_neg h]
theorem box53 (W : World) : RenIs (W.alloc (.cells #[.slice none 0 0, .slice none 0 0, .bool false, .bool false, .bool false] 53)) W.heap.size ⟨[], [], (none, none, none)⟩ :=
  ⟨⟨_, _, heap_alloc_new _ _, Kd.R_nil _ _ _ _ _, Kd.R_nil _ _ _ _ _⟩, ⟨by simp [Rising], by simp, by simp, fun p hp => by simp at hp, fun s hs => by simp at hs⟩⟩
set_option maxHeartbeats 4000000 in
set_option maxRecDepth 100000 in
theorem ren_New (A : Option Addr) (c : Nat) (l : VTab) (B : Option Addr) (d : Nat) (args : List ByteArray) (w : World) (hA : Kd.C VarK w A l.length l) (hB : Kd.C Kd.string w B args.length args) (hlc : l.length ≤ c) (hld : args.length ≤ d) (hsz : ∀ p ∈ l, p.1.size ≤ 1000000 ∧ p.2.size ≤ 1000000) (hsa : ∀ s ∈ args, s.size ≤ 1000000) :
    Calls Try.prog 18 #[.slice A l.length c, .slice B args.length d] w fun e w' => ∃ g, e = .returned (.pointer (some ⟨g, 0, none⟩)) ∧ RenIs w' g (newF l args) ∧ Below w.heap.size w w' ∧ w.heap.size ≤ g := by
  have HA := Aside0.mk hA
  have HB := Aside0.mk hB
  have HSZ := Aside0.mk hsz
  have HSA := Aside0.mk hsa
  have hmx : (l.length : Int) ≤ 9223372036854775807 := by have := hA.2.1; omega
  clear hA hB hsz hsa
  go_enter Try.func18, Try.ntmps18
  go_wp2_with fail
  refine (ren_Set w.heap.size _ env0 ifsB blanksB 0 _ (by decide) (by decide) (box53 w) (by rfl)).mono ?_
  rintro e w1 ⟨rfl, hr1, hc1⟩
  have HR0 := Aside0.mk hr1
  have HC0 := Aside0.mk (((Chg.refl none_ w).alloc _).then_ hc1 (fun k hk => .inr (by rw [hk]; exact Nat.le_refl _)))
  have HG := Aside0.mk (Nat.le_refl w.heap.size)
  clear hr1 hc1
  generalize hg : w.heap.size = g at HR0 HG ⊢
  have HG2 := Aside0.mk (show w.heap.size ≤ g from by omega)
  clear hg HG
  go_wp2_with fail
  go_loopw [6] (fun i wr => ∃ k : Nat, k ≤ l.length ∧ i = .int .i64 k ∧ Aside0 (RenIs wr g (newVars (l.take k))) ∧ Aside0 (Chg none_ w wr)) (fun i _ => l.length - (intOf i).toNat)
  case atStart => exact ⟨0, Nat.zero_le _, rfl, HR0, HC0⟩
  case round =>
    obtain ⟨k, hk, rfl, HR, HW⟩ := hrel
    by_cases hlt : k < l.length
    · obtain ⟨ad, e, hx0, hx1⟩ := var_at (Kd.C_below HA.out HW.out.toBelow) hlt
      subst e
      have hmem := getD_mem' hlt (ByteArray.empty, ByteArray.empty)
      have htk := take_snoc' hlt (ByteArray.empty, ByteArray.empty)
      obtain ⟨⟨n, u⟩, hp⟩ : ∃ p, l.getD k (ByteArray.empty, ByteArray.empty) = p := ⟨_, rfl⟩
      rw [hp] at hx0 hx1 hmem htk
      have HN := Aside0.mk (show n.size ≤ 1000000 from (HSZ.out _ hmem).1)
      have HU := Aside0.mk (show u.size ≤ 1000000 from (HSZ.out _ hmem).2)
      have HTK := Aside0.mk (show newVars (l.take (k + 1)) = newVarF (newVars (l.take k)) (n, u) from by rw [htk, newVars_snoc])
      have hlt' : (k : Int) < (l.length : Int) := by omega
      have HLT := Aside0.mk hlt
      clear hp hmem htk hlt hk
      generalize newVars (l.take k) = S at HR HTK
      by_cases hif : n = ifsB
      · have hb2 : (n.toList == [73, 70, 83]) = true := by rw [hif, ifs_list]; rfl
        have HIF := Aside0.mk hif
        clear hif
        go_wp2_with fail
        go_roundw
        case rel =>
          refine ⟨k + 1, HLT.out, by go_num, ⟨?_⟩, HW⟩
          rw [HTK.out, show newVarF S (n, u) = S from by unfold newVarF; rw [if_pos HIF.out]]
          exact HR.out
        case measure => have := HLT.out; simp [intOf]; omega
      · have hb2 : (n.toList == [73, 70, 83]) = false := beq_eq_false_iff_ne.2 (fun h => hif (toList_inj.1 (h.trans ifs_list.symm)))
        have HIF := Aside0.mk hif
        clear hif
        obtain ⟨⟨r, S'⟩, hset⟩ : ∃ p, setF S n u = p := ⟨_, rfl⟩
        have HSET := Aside0.mk hset
        clear hset
        go_wp2_with fail
        refine start_ (n := 12) (S := fun w' => w'.cell? (ad.add (k * 2)) = some (.string n) ∧ w'.cell? ⟨(ad.add (k * 2)).block, (ad.add (k * 2)).off + 1, none⟩ = some (.string u)) (ds := [11]) #[false, false, false, false, false, false, false, false, false, false, false, false] (by kernel_rfl) rfl rfl ⟨hx0, hx1⟩ (fun hHeld => ?_)
        have hbd : Below wr.heap.size wr wr.drew := Drawn0.below ⟨1, rfl⟩; have HRD := Aside0.mk (HR.out.below hbd); have HWD := Aside0.mk (HW.out.below hbd); clear hbd; generalize wr.drew = wd at HRD HWD hHeld ⊢
        refine pure_ (i := 0) (N := some 23) (v := ?_) (a' := ?_) #[true, false, false, false, false, false, false, false, false, false, false, false] rfl rfl (by kernel_rfl) (fun _ _ _ h => h) (Or.inl ⟨by rfl, ?_⟩) ?_ ?_
        rotate_left
        · intro w'
          go_simp
          with_reducible rfl
        rotate_left
        · simp only [Act.put, List.setIfInBounds_toArray, List.set_cons_zero, List.set_cons_succ, i64_w, i32_w]
          rfl
        refine pure_ (i := 1) (N := some 24) (v := ?_) (a' := ?_) #[true, true, false, false, false, false, false, false, false, false, false, false] rfl rfl (by kernel_rfl) (fun _ _ _ h => h) (Or.inl ⟨by rfl, ?_⟩) ?_ ?_
        rotate_left
        · intro w'
          go_simp
          with_reducible rfl
        rotate_left
        · simp only [Act.put, List.setIfInBounds_toArray, List.set_cons_zero, List.set_cons_succ, i64_w, i32_w]
          rfl
        refine pure_ (i := 2) (N := some 25) (v := ?_) (a' := ?_) #[true, true, true, false, false, false, false, false, false, false, false, false] rfl rfl (by kernel_rfl) (fun _ _ _ h => h) (Or.inl ⟨by rfl, ?_⟩) ?_ ?_
        rotate_left
        · intro w'
          go_simp
          with_reducible rfl
        rotate_left
        · simp only [Act.put, List.setIfInBounds_toArray, List.set_cons_zero, List.set_cons_succ, i64_w, i32_w]
          rfl
        refine pure_ (i := 3) (N := some 26) (v := ?_) (a' := ?_) #[true, true, true, true, false, false, false, false, false, false, false, false] rfl rfl (by kernel_rfl) (fun _ _ _ h => h) (Or.inl ⟨by rfl, ?_⟩) ?_ ?_
        rotate_left
        · intro w'
          go_simp
          with_reducible rfl
        rotate_left
        · simp only [Act.put, List.setIfInBounds_toArray, List.set_cons_zero, List.set_cons_succ, i64_w, i32_w]
          rfl
        refine pure_ (i := 4) (N := some 27) (v := ?_) (a' := ?_) #[true, true, true, true, true, false, false, false, false, false, false, false] rfl rfl (by kernel_rfl) (fun _ _ _ h => h) (Or.inl ⟨by rfl, ?_⟩) ?_ ?_
        rotate_left
        · intro w'
          go_simp
          with_reducible rfl
        rotate_left
        · simp only [Act.put, List.setIfInBounds_toArray, List.set_cons_zero, List.set_cons_succ, i64_w, i32_w]
          rfl
        refine pure_ (i := 6) (N := some 29) (v := ?_) (a' := ?_) #[true, true, true, true, true, false, true, false, false, false, false, false] rfl rfl (by kernel_rfl) (fun _ _ _ h => h) (Or.inl ⟨by rfl, ?_⟩) ?_ ?_
        rotate_left
        · intro w'
          go_simp
          with_reducible rfl
        rotate_left
        · simp only [Act.put, List.setIfInBounds_toArray, List.set_cons_zero, List.set_cons_succ, i64_w, i32_w]
          rfl
        refine pure_ (i := 7) (N := some 30) (v := ?_) (a' := ?_) #[true, true, true, true, true, false, true, true, false, false, false, false] rfl rfl (by kernel_rfl) (fun _ _ _ h => h) (Or.inl ⟨by rfl, ?_⟩) ?_ ?_
        rotate_left
        · intro w'
          go_simp
          with_reducible rfl
        rotate_left
        · simp only [Act.put, List.setIfInBounds_toArray, List.set_cons_zero, List.set_cons_succ, i64_w, i32_w]
          rfl
        refine pure_ (i := 8) (N := some 31) (v := ?_) (a' := ?_) #[true, true, true, true, true, false, true, true, true, false, false, false] rfl rfl (by kernel_rfl) (fun _ _ _ h => h) (Or.inl ⟨by rfl, ?_⟩) ?_ ?_
        rotate_left
        · intro w'
          go_simp
          with_reducible rfl
        rotate_left
        · simp only [Act.put, List.setIfInBounds_toArray, List.set_cons_zero, List.set_cons_succ, i64_w, i32_w]
          rfl
        refine pure_ (i := 9) (N := some 32) (v := ?_) (a' := ?_) #[true, true, true, true, true, false, true, true, true, true, false, false] rfl rfl (by kernel_rfl) (fun _ _ _ h => h) (Or.inl ⟨by rfl, ?_⟩) ?_ ?_
        rotate_left
        · intro w'
          go_simp
          with_reducible rfl
        rotate_left
        · simp only [Act.put, List.setIfInBounds_toArray, List.set_cons_zero, List.set_cons_succ, i64_w, i32_w]
          rfl
        refine take_ (i := 5) (N := some 28) (v := ?_) (a' := ?_) #[true, true, true, true, true, true, true, true, true, true, false, false] rfl rfl (by kernel_rfl) (fun _ _ _ h => h) (Or.inl ⟨by rfl, ?_⟩) hHeld ?_ ?_
        rotate_left
        · rintro w' ⟨s0, s1⟩
          go_simp
          with_reducible rfl
        rotate_left
        · simp only [Act.put, List.setIfInBounds_toArray, List.set_cons_zero, List.set_cons_succ, i64_w, i32_w]
          rfl
        refine take_ (i := 10) (N := some 33) (v := ?_) (a' := ?_) #[true, true, true, true, true, true, true, true, true, true, true, false] rfl rfl (by kernel_rfl) (fun _ _ _ h => h) (Or.inl ⟨by rfl, ?_⟩) hHeld ?_ ?_
        rotate_left
        · rintro w' ⟨s0, s1⟩
          go_simp
          with_reducible rfl
        rotate_left
        · simp only [Act.put, List.setIfInBounds_toArray, List.set_cons_zero, List.set_cons_succ, i64_w, i32_w]
          rfl
        refine last_ (i := 11) (N := some 34) #[true, true, true, true, true, true, true, true, true, true, true, true] rfl rfl (by kernel_rfl) (by decide) (fun K hK => ?_)
        refine goes_ Try.func21 (by kernel_rfl) rfl #[.pointer (some ⟨g, 0, none⟩), .string n, .string u] (by rfl) rfl rfl (by simp only [List.map_toArray, List.map_cons, List.map_nil]; rfl) ?_
        with_reducible refine (ren_Set g S S' n u r _ HN.out HU.out HRD.out HSET.out).mono ?_
        rintro e w5 ⟨rfl, hr5, hc5⟩
        refine ⟨_, rfl, ?_⟩
        have HR5 := Aside0.mk hr5
        have HC5 := Aside0.mk (HWD.out.then_ hc5 (fun k' hk' => .inr (by rw [hk']; exact HG2.out)))
        clear hr5 hc5
        refine hK.out _ _ ?_
        clear hK K
        refine norm_ (a' := ?_) ?_ ?_
        rotate_left
        · show Act.put _ (some 34) _ = _
          simp only [Act.put, List.setIfInBounds_toArray, List.set_cons_zero, List.set_cons_succ, i64_w, i32_w]
          rfl
        refine done_ (by kernel_rfl) ?_
        go_wp2_with fail
        go_roundw
        case rel =>
          refine ⟨k + 1, HLT.out, by go_num, ⟨?_⟩, HC5⟩
          rw [HTK.out, newVarF_eq _ _ _ HIF.out, HSET.out]
          exact HR5.out
        case measure => have := HLT.out; simp [intOf]; omega
    · obtain rfl : k = l.length := by omega
      rw [List.take_length] at HR
      go_wp2_with fail
      refine (ren_SetArgs g (newVars l) B d args _ (Kd.C_below HB.out HW.out.toBelow) hld HSA.out HR.out).mono ?_
      rintro e w5 ⟨rfl, he5, hc5⟩
      have HE5 := Aside0.mk he5
      have HC5 := Aside0.mk hc5
      clear he5 hc5
      go_wp2
      go_ret
      exact ⟨g, rfl, HE5.out, (HW.out.then_ HC5.out (fun k hk => .inr (by rw [hk]; exact HG2.out))).toBelow, HG2.out⟩
end Go.Proofs.Ytfdjbjinomfgiaa
