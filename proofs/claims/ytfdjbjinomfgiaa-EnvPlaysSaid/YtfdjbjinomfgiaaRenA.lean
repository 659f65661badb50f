/- The document's own variables: what they are in memory; find, Get, IFS. -/
import Derived.Test.YtfdjbjinomfgiaaEnvF
namespace Go.Proofs.Ytfdjbjinomfgiaa
open Go.RowKit Go.Maps Go.Proofs.YtfdjbjinomfgiaaW.PrintWords Go.Proofs.YtfdjbjinomfgiaaW.PrintLast Go.Proofs.YtfdjbjinomfgiaaW.PrintMore
set_option linter.unusedSimpArgs false
set_option linter.unusedVariables false

structure RenIs (w : World) (g : Nat) (S : EnvS) : Prop where
  row : ∃ v1 v2, w.heap[g]? = some (.cells #[v1, v2, .bool (onB S.flag.1), .bool (onB S.flag.2.1), .bool (onB S.flag.2.2)] 53 (0, 0)) ∧ Kd.R VarK 108 w 0 (fun _ => True) v1 S.vars ∧ Kd.R Kd.string 9 w 0 (fun _ => True) v2 S.args
  ok : EnvOk S
theorem varK_E {q : Nat} (h : q ∈ 108 :: VarK.E) : q = 108 := by
  rcases List.mem_cons.1 h with h | h
  · exact h
  · simp [VarK, Kd.pair, Kd.string, Kd.scalar] at h
theorem RenIs.chg {T : Nat → Prop} {w W : World} {g : Nat} {S : EnvS} (h : RenIs w g S) (hc : Chg T w W) (hg : ¬ T g) (hT : ∀ k, T k → NotRow w 9 k ∧ NotRow w 108 k) : RenIs W g S := by
  obtain ⟨⟨v1, v2, hb, h1, h2⟩, ho⟩ := h
  refine ⟨⟨v1, v2, hc.blk hb hg, R_chg h1 hc (fun k hk q hq => ?_), R_chg h2 hc (fun k hk q hq => ?_)⟩, ho⟩
  · rw [varK_E hq]; exact (hT k hk).2
  · rcases List.mem_cons.1 hq with rfl | hq
    · exact (hT k hk).1
    · cases hq
theorem RenIs.below {w W : World} {g : Nat} {S : EnvS} (h : RenIs w g S) (hb : Below w.heap.size w W) : RenIs W g S := h.chg (Chg.of_below hb none_) (fun h => h) (fun _ h => h.elim)
theorem RenIs.drawn {w W : World} {g : Nat} {S : EnvS} (h : RenIs w g S) (hb : Drawn0 w W) : RenIs W g S := h.below hb.below
theorem RenIs.opened {w : World} {g : Nat} {S : EnvS} (h : RenIs w g S) : ∃ A c B d, w.heap[g]? = some (.cells #[.slice A S.vars.length c, .slice B S.args.length d, .bool (onB S.flag.1), .bool (onB S.flag.2.1), .bool (onB S.flag.2.2)] 53 (0, 0)) ∧ w.cell? ⟨g, 0, none⟩ = some (.slice A S.vars.length c) ∧ w.cell? ⟨g, 1, none⟩ = some (.slice B S.args.length d) ∧ Kd.R VarK 108 w 0 (fun _ => True) (.slice A S.vars.length c) S.vars ∧ Kd.C VarK w A S.vars.length S.vars ∧ S.vars.length ≤ c ∧ Kd.R Kd.string 9 w 0 (fun _ => True) (.slice B S.args.length d) S.args ∧ Kd.C Kd.string w B S.args.length S.args ∧ S.args.length ≤ d := by
  obtain ⟨⟨v1, v2, hb, h1, h2⟩, ho⟩ := h
  obtain ⟨A, c, rfl, hlc, hC⟩ := Kd.R_reads h1
  obtain ⟨B, d, rfl, hld, hD⟩ := Kd.R_reads h2
  exact ⟨A, c, B, d, hb, (blk_cell hb 0).trans rfl, (blk_cell hb 1).trans rfl, h1, hC, hlc, h2, hD, hld⟩

theorem v_tat_eq (s : ByteArray) : ∀ (L : VTab) (k : Nat), k ≤ L.length → (∀ x ∈ L.take k, ltB x.1 s = true) → (k = L.length ∨ ltB (L.getD k (ByteArray.empty, ByteArray.empty)).1 s = false) → tat L s = k
  | [], k, hk, _, _ => by simp at hk; subst hk; rfl
  | q :: r, 0, _, _, h => by
    have h1 : ltB q.1 s = false := by simpa using h
    unfold tat
    rw [List.takeWhile_cons, if_neg (by simp [h1])]
    rfl
  | q :: r, k + 1, hk, ha, h => by
    have h1 : ltB q.1 s = true := ha q (by simp)
    have ih := v_tat_eq s r k (by simpa using hk) (fun x hx => ha x (by simp [hx])) (by simpa using h)
    unfold tat at ih ⊢
    rw [List.takeWhile_cons, if_pos h1, List.length_cons, ih]
/-- Is the name there: it stands at its place. -/
theorem tat_there {L : VTab} {s : ByteArray} (h : Rising L) (hk : tat L s < L.length) : (tget L s).isSome = decide ((L.getD (tat L s) (ByteArray.empty, ByteArray.empty)).1 = s) := by
  cases hg : tget L s with
  | none =>
    have := tget_none.1 hg _ (getD_mem' hk (ByteArray.empty, ByteArray.empty))
    simpa using this
  | some v =>
    obtain ⟨b, hb, _⟩ := there_at h hg
    have h2 : L[tat L s]? = some (s, v) := by
      have := congrArg (fun l => l[0]?) hb
      simpa using this
    simp [List.getD_eq_getElem?_getD, h2]
theorem tat_gone {L : VTab} {s : ByteArray} (h : Rising L) (hk : L.length ≤ tat L s) : tget L s = none := by
  cases hg : tget L s with
  | none => rfl
  | some v =>
    obtain ⟨b, hb, _⟩ := there_at h hg
    rw [List.drop_eq_nil_of_le hk] at hb
    cases hb
theorem tat_val {L : VTab} {s : ByteArray} (h : Rising L) (hg : (tget L s).isSome = true) : tat L s < L.length ∧ (L.getD (tat L s) (ByteArray.empty, ByteArray.empty)).2 = (tget L s).getD ⟨#[]⟩ := by
  obtain ⟨v, hv⟩ := Option.isSome_iff_exists.1 hg
  obtain ⟨b, hb, _⟩ := there_at h hv
  have h2 : L[tat L s]? = some (s, v) := by
    have := congrArg (fun l => l[0]?) hb
    simpa using this
  refine ⟨(List.getElem?_eq_some_iff.1 h2).1, ?_⟩
  simp [List.getD_eq_getElem?_getD, h2, hv]
theorem all_take {α : Type} {P : α → Prop} {l : List α} {k : Nat} {d : α} (hk : k < l.length) (h : ∀ s ∈ l.take k, P s) (hx : P (l.getD k d)) : ∀ s ∈ l.take (k + 1), P s := by
  intro s hs
  rw [take_snoc' hk d] at hs
  rcases List.mem_append.1 hs with hs | hs
  · exact h s hs
  · rw [List.mem_singleton.1 hs]; exact hx

set_option maxHeartbeats 4000000 in
set_option maxRecDepth 100000 in
theorem ren_find (g : Nat) (S : EnvS) (s : ByteArray) (k0 : Nat) (b : Bool) (w : World) (hr : RenIs w g S) (hk : tat S.vars s = k0) (hb : (tget S.vars s).isSome = b) :
    Calls Try.prog 81 #[.pointer (some ⟨g, 0, none⟩), .string s] w fun e w' => e = .returned (.tuple #[.int .i64 k0, .bool b]) ∧ Drawn0 w w' := by
  obtain ⟨A, c, B, d, hbox, hc0, hc1, _, hC, _, _, _, _⟩ := hr.opened
  have HO := Aside0.mk hr.ok
  have HC := Aside0.mk hC
  have HK := Aside0.mk hk
  have HB := Aside0.mk hb
  have hmx : (S.vars.length : Int) ≤ 100 := by have := hr.ok.len; omega
  clear hr hk hb hbox hc1 hC
  go_enter Try.func81, Try.ntmps81
  go_wp2
  go_loop [6] (fun i => ∃ k : Nat, k ≤ S.vars.length ∧ i = .int .i64 k ∧ Aside0 (∀ x ∈ S.vars.take k, ltB x.1 s = true)) (fun i => S.vars.length - (intOf i).toNat)
  case atStart => exact ⟨0, Nat.zero_le _, rfl, ⟨by simp⟩⟩
  case round =>
    obtain ⟨k, hk, rfl, HN⟩ := hrel
    by_cases hlt : k < S.vars.length
    · obtain ⟨ad, e, hx, _⟩ := var_at HC.out hlt
      subst e
      have hlt' : (k : Int) < (S.vars.length : Int) := by omega
      cases hb : ltB (S.vars.getD k (ByteArray.empty, ByteArray.empty)).1 s with
      | true =>
        have HN1 := Aside0.mk (all_take (P := fun x => ltB x.1 s = true) (d := (ByteArray.empty, ByteArray.empty)) hlt HN.out hb)
        generalize (S.vars.getD k (ByteArray.empty, ByteArray.empty)).1 = x at hx hb
        have hb1 : Op.bytesLess x.toList s.toList = true := by rw [bytesLess_ltB]; exact hb
        have HLT := Aside0.mk hlt
        clear hlt hb
        go_wp2
        go_round
        case rel => exact ⟨k + 1, HLT.out, by go_num, HN1⟩
        case measure => have := HLT.out; simp [intOf]; omega
      | false =>
        have ht := v_tat_eq s S.vars k hk HN.out (.inr hb)
        have hth := tat_there (s := s) HO.out.rising (by rw [ht]; exact hlt)
        rw [HB.out, ht] at hth
        rw [HK.out] at ht
        generalize (S.vars.getD k (ByteArray.empty, ByteArray.empty)).1 = x at hx hb hth
        have hb1 : Op.bytesLess x.toList s.toList = false := by rw [bytesLess_ltB]; exact hb
        have hd1 : decide ((k : Int) < (S.vars.length : Int)) = true := decide_eq_true hlt'
        have he1 : (x.toList == s.toList) = b := by rw [hth, Bool.eq_iff_iff]; simp [toList_inj]
        have HT := Aside0.mk ht
        have HLT := Aside0.mk hlt
        clear hlt hb hth ht hk
        go_wp2_with fail
        go_quiet (fail)
        go_wp2_with fail
        go_ret2
        exact ⟨ret_nb (by rw [HT.out]) rfl, ⟨_, rfl⟩⟩
    · obtain rfl : k = S.vars.length := by omega
      have ht := v_tat_eq s S.vars _ (Nat.le_refl _) HN.out (.inl rfl)
      have hth := tat_gone (s := s) HO.out.rising (by rw [ht]; exact Nat.le_refl _)
      have HBF := Aside0.mk (show false = b from by rw [← HB.out, hth]; rfl)
      rw [HK.out] at ht
      have hd1 : decide (((S.vars.length : Nat) : Int) < (S.vars.length : Int)) = false := decide_eq_false (by omega)
      have HT := Aside0.mk ht
      clear hlt hth ht hk
      go_wp2_with fail
      go_quiet (fail)
      go_wp2_with fail
      go_ret2
      exact ⟨ret_nb (by rw [HT.out]) HBF.out, ⟨_, rfl⟩⟩

set_option maxHeartbeats 4000000 in
set_option maxRecDepth 100000 in
theorem ren_Get (g : Nat) (S : EnvS) (s v : ByteArray) (b : Bool) (w : World) (hs : s.size ≤ 1000000) (hr : RenIs w g S) (hb : getF S s = (v, b)) :
    Calls Try.prog 27 #[.pointer (some ⟨g, 0, none⟩), .string s] w fun e w' => e = .returned (.tuple #[.string v, .bool b]) ∧ Drawn0 w w' := by
  obtain ⟨A, c, B, d, hbox, hc0, hc1, _, hC, _, _, hD, _⟩ := hr.opened
  have HR := Aside0.mk hr
  have HC := Aside0.mk hC
  have HD := Aside0.mk hD
  have HB := Aside0.mk hb
  have HS := Aside0.mk hs
  have hmx : (S.vars.length : Int) ≤ 100 := by have := hr.ok.len; omega
  have hmy : (S.args.length : Int) ≤ 100 := by have := hr.ok.alen; omega
  clear hr hb hs hbox hC hD
  obtain ⟨n, ok, hn⟩ : ∃ n ok, numR (numF s) = (n, ok) := ⟨_, _, rfl⟩
  have HN := Aside0.mk hn
  clear hn
  go_enter Try.func27, Try.ntmps27
  go_wp2_with fail
  refine (ref_Number_calls s HS.out n ok HN.out _).mono ?_
  rintro e w1 ⟨rfl, rfl⟩
  cases hnum : numF s with
  | some k =>
    have hk := numF_bound hnum
    have hbb := HB.out
    have hnn := HN.out
    rw [hnum] at hnn
    unfold getF at hbb
    rw [hnum] at hbb
    injection hnn with h1 h2
    subst h1 h2
    dsimp only at hbb
    by_cases hin : 1 ≤ k ∧ k ≤ S.args.length
    · rw [if_pos hin] at hbb
      obtain ⟨ad, e, hx⟩ := str_at HD.out (k := k - 1) (by omega)
      subst e
      have h1 : (1 : Int) ≤ (k : Int) := by omega
      have h2 : (k : Int) ≤ (S.args.length : Int) := by omega
      have h1' : decide ((1 : Int) ≤ (k : Int)) = true := decide_eq_true (by omega)
      have h2' : decide (k ≤ S.args.length) = true := decide_eq_true (by omega)
      have hw : IntKind.i64.wrap ((k : Int) - 1) = ((k - 1 : Nat) : Int) := by rw [i64_w]; unfold wrap64; omega
      have hlt : ((k - 1 : Nat) : Int) < (S.args.length : Int) := by omega
      have hbb' := Aside0.mk hbb
      clear hbb hin hk hnum HB HR HN
      go_wp2
      go_ret2
      injection hbb'.out with e1 e2
      exact ⟨ret_sb e1 e2, Drawn0.refl _⟩
    · rw [if_neg hin] at hbb
      have hbb' := Aside0.mk hbb
      by_cases h1 : (k : Int) < 1
      · have h1' : decide ((1 : Int) ≤ (k : Int)) = false := decide_eq_false (by omega)
        clear hbb hin hk hnum HB HR HN
        go_wp2
        go_ret2
        injection hbb'.out with e1 e2
        exact ⟨ret_sb e1 e2, Drawn0.refl _⟩
      · have h1' : decide ((1 : Int) ≤ (k : Int)) = true := decide_eq_true (by omega)
        have h1'' : (1 : Int) ≤ (k : Int) := by omega
        have h2 : (S.args.length : Int) < (k : Int) := by omega
        have h2' : decide (k ≤ S.args.length) = false := decide_eq_false (by omega)
        clear hbb hin hk hnum HB HR HN h1
        go_wp2
        go_ret2
        injection hbb'.out with e1 e2
        exact ⟨ret_sb e1 e2, Drawn0.refl _⟩
  | none =>
    have hbb := HB.out
    have hnn := HN.out
    rw [hnum] at hnn
    unfold getF at hbb
    rw [hnum] at hbb
    injection hnn with h1 h2
    subst h1 h2
    dsimp only at hbb
    injection hbb with e1 e2
    have E1 := Aside0.mk e1
    have E2 := Aside0.mk e2
    clear e1 e2 hnum HB HN
    cases b with
    | true =>
      obtain ⟨hlt, hval⟩ := tat_val HR.out.ok.rising E2.out
      rw [E1.out] at hval
      obtain ⟨ad, e, _, hx⟩ := var_at HC.out hlt
      subst e
      rw [hval] at hx
      have HC0 := Aside0.mk hc0
      have HX := Aside0.mk hx
      obtain ⟨k, hk⟩ : ∃ k, tat S.vars s = k := ⟨_, rfl⟩
      rw [hk] at hlt HX
      have HK := Aside0.mk hk
      have hlt' : (k : Int) < (S.vars.length : Int) := by omega
      clear hval hx hlt hk hc0
      go_wp2_with fail
      refine (ren_find g S s k true _ HR.out HK.out E2.out).mono ?_
      rintro e w2 ⟨rfl, hd⟩
      have hc0 := pw_cell_below hd.below HC0.out
      have hx := pw_cell_below hd.below HX.out
      have HDD := Aside0.mk hd
      clear hd
      go_wp2
      go_ret2
      exact ⟨rfl, HDD.out⟩
    | false =>
      have HV := Aside0.mk (show (⟨#[]⟩ : ByteArray) = v from by
        have h1 := E1.out
        have h2 := E2.out
        cases hg : tget S.vars s with
        | none => rw [hg] at h1; exact h1
        | some x => rw [hg] at h2; cases h2)
      go_wp2_with fail
      refine (ren_find g S s _ false _ HR.out rfl E2.out).mono ?_
      rintro e w2 ⟨rfl, hd⟩
      have HDD := Aside0.mk hd
      clear hd
      go_wp2
      go_ret2
      exact ⟨ret_sb HV.out rfl, HDD.out⟩
theorem ifs_get {S : EnvS} : getF S ifsB = ((tget S.vars ifsB).getD ⟨#[]⟩, (tget S.vars ifsB).isSome) := by
  have h : numF ifsB = none := by decide +kernel
  unfold getF
  rw [h]
set_option maxHeartbeats 1000000 in
set_option maxRecDepth 100000 in
theorem ren_IFS (g : Nat) (S : EnvS) (v : ByteArray) (w : World) (hr : RenIs w g S) (hb : ifsF S = v) :
    Calls Try.prog 79 #[.pointer (some ⟨g, 0, none⟩)] w fun e w' => e = .returned (.string v) ∧ Drawn0 w w' := by
  have HR := Aside0.mk hr
  have HB := Aside0.mk hb
  clear hr hb
  obtain ⟨u, hu⟩ : ∃ u, (tget S.vars ifsB).getD ⟨#[]⟩ = u := ⟨_, rfl⟩
  obtain ⟨b, hbb⟩ : ∃ b, (tget S.vars ifsB).isSome = b := ⟨_, rfl⟩
  have HU := Aside0.mk hu
  have HBB := Aside0.mk hbb
  clear hu hbb
  go_enter Try.func79, Try.ntmps79
  go_wp2_with fail
  refine (ren_Get g S ifsB u b _ (by decide) HR.out (by rw [ifs_get, HU.out, HBB.out])).mono ?_
  rintro e w2 ⟨rfl, hd⟩
  have HD := Aside0.mk hd
  clear hd
  cases b with
  | true =>
    go_wp2
    go_ret
    refine ⟨ret_str ?_, HD.out⟩
    rw [← HB.out, ← HU.out]
    unfold ifsF
    have := HBB.out
    cases h : tget S.vars ifsB with
    | none => rw [h] at this; cases this
    | some x => rfl
  | false =>
    go_wp2
    go_ret
    refine ⟨ret_str ?_, HD.out⟩
    rw [← HB.out]
    unfold ifsF
    have := HBB.out
    cases h : tget S.vars ifsB with
    | none => rfl
    | some x => rw [h] at this; cases this
end Go.Proofs.Ytfdjbjinomfgiaa
