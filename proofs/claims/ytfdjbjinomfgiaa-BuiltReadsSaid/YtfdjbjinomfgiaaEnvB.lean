/- Variables: Get, Set, Unset, Flag, SetFlag, IFS. -/
import Derived.Test.YtfdjbjinomfgiaaEnvA
namespace Go.Proofs.Ytfdjbjinomfgiaa
open Go.RowKit Go.Maps Go.Proofs.YtfdjbjinomfgiaaW.PrintWords Go.Proofs.YtfdjbjinomfgiaaW.PrintLast Go.Proofs.YtfdjbjinomfgiaaW.PrintMore
set_option linter.unusedSimpArgs false
set_option linter.unusedVariables false

def getF (S : EnvS) (s : ByteArray) : ByteArray × Bool :=
  match numF s with
  | some n => if 1 ≤ n ∧ n ≤ S.args.length then (S.args.getD (n - 1) ⟨#[]⟩, true) else (⟨#[]⟩, false)
  | none => ((tget S.vars s).getD ⟨#[]⟩, (tget S.vars s).isSome)
theorem ret_sb {a b : ByteArray} {x y : Bool} (h : a = b) (k : x = y) : Ending.returned (.tuple #[.string a, .bool x]) = .returned (.tuple #[.string b, .bool y]) := by rw [h, k]
theorem ret_str {a b : ByteArray} (h : a = b) : Ending.returned (.string a) = .returned (.string b) := by rw [h]
theorem ret_int' {k : IntKind} {a b : Int} (h : a = b) : Ending.returned (.int k a) = .returned (.int k b) := by rw [h]

set_option maxHeartbeats 1000000 in
set_option maxRecDepth 100000 in
theorem env_Get (g m1 m2 : Nat) (S : EnvS) (s : ByteArray) (v : ByteArray) (b : Bool) (w : World) (hs : s.size ≤ 1000000) (he : EnvIs w g m1 m2 S) (hb : getF S s = (v, b)) :
    Calls Try.prog 15 #[.pointer (some ⟨g, 0, none⟩), .string s] w fun e w' => e = .returned (.tuple #[.string v, .bool b]) ∧ Drawn0 w w' := by
  have HE := Aside0.mk he
  have HB := Aside0.mk hb
  have HS := Aside0.mk hs
  clear hb he hs
  obtain ⟨n, ok, hn⟩ : ∃ n ok, numR (numF s) = (n, ok) := ⟨_, _, rfl⟩
  have HN := Aside0.mk hn
  clear hn
  go_enter Try.func15, Try.ntmps15
  go_wp2_with fail
  refine (text_Number_calls s HS.out n ok HN.out _).mono ?_
  rintro e w1 ⟨rfl, hd⟩
  have HD := Aside0.mk hd
  have HE1 := Aside0.mk (HE.out.drawn hd)
  obtain ⟨A, c, hbox, hc0, hc1, hc2, hR, hC, hlc⟩ := HE1.out.opened
  have HC := Aside0.mk hC
  have HLC := Aside0.mk hlc
  have HAL := Aside0.mk HE.out.ok.alen
  clear hd hbox hR hC hlc hc2
  cases hnum : numF s with
  | some k =>
    have hk := numF_bound hnum
    have hbb := HB.out
    have hnn := HN.out
    rw [hnum] at hnn
    unfold getF at hbb
    rw [hnum] at hbb
    injection hnn with h1 h2
    subst h1 h2
    dsimp only at hbb
    by_cases hin : 1 ≤ k ∧ k ≤ S.args.length
    · rw [if_pos hin] at hbb
      obtain ⟨ad, e, hx⟩ := str_at HC.out (k := k - 1) (by omega)
      subst e
      have h1 : (1 : Int) ≤ (k : Int) := by omega
      have h1' : decide ((k : Int) < 1) = false := decide_eq_false (by omega)
      have h2 : decide ((S.args.length : Int) < (k : Int)) = false := decide_eq_false (by omega)
      have h2' : decide (S.args.length < k) = false := decide_eq_false (by omega)
      have hw : IntKind.i64.wrap ((k : Int) - 1) = ((k - 1 : Nat) : Int) := by rw [i64_w]; unfold wrap64; omega
      have hlt : ((k - 1 : Nat) : Int) < (S.args.length : Int) := by omega
      have hbb' := Aside0.mk hbb
      clear hbb hin hk hnum HB HE HN
      go_wp2
      go_ret2
      injection hbb'.out with e1 e2
      exact ⟨ret_sb e1 e2, HD.out⟩
    · rw [if_neg hin] at hbb
      have hbb' := Aside0.mk hbb
      by_cases h1 : (k : Int) < 1
      · clear hbb hin hk hnum HB HE HN
        go_wp2
        go_ret2
        injection hbb'.out with e1 e2
        exact ⟨ret_sb e1 e2, HD.out⟩
      · have h1' : decide ((k : Int) < 1) = false := decide_eq_false h1
        have h1'' : (1 : Int) ≤ (k : Int) := by omega
        have h2 : decide ((S.args.length : Int) < (k : Int)) = true := decide_eq_true (by omega)
        have h2' : decide (S.args.length < k) = true := decide_eq_true (by omega)
        clear hbb hin hk hnum HB HE HN h1
        go_wp2
        go_ret2
        injection hbb'.out with e1 e2
        exact ⟨ret_sb e1 e2, HD.out⟩
  | none =>
    have hbb := HB.out
    have hnn := HN.out
    rw [hnum] at hnn
    unfold getF at hbb
    rw [hnum] at hbb
    injection hnn with h1 h2
    subst h1 h2
    dsimp only at hbb
    injection hbb with e1 e2
    have E1 := Aside0.mk e1
    have E2 := Aside0.mk e2
    clear e1 e2 hnum HB HE HN
    go_wp2_with (at_lookup; refine lookup_ok_str _ rfl _ _ _ rfl Try.underlying100 m1 _ S.vars rfl HE1.out.vars s (by have := HS.out; unfold maxLen; omega) rfl v b E1.out E2.out ?_)
    go_ret2
    exact ⟨rfl, HD.out⟩

theorem wf8 {x : Int} (hx : 0 ≤ x ∧ x ≤ 255) : (Lit.int .u8 x).wf = true := by
  have h1 : IntKind.u8.min = 0 := rfl
  have h2 : IntKind.u8.max = 255 := rfl
  simp [Lit.wf, h1, h2]
  omega
def ifsB : ByteArray := ⟨#[73, 70, 83]⟩
def blanksB : ByteArray := ⟨#[32, 9, 10]⟩
def ifsF (S : EnvS) : ByteArray := (tget S.vars ifsB).getD blanksB
set_option maxHeartbeats 1000000 in
set_option maxRecDepth 100000 in
theorem env_IFS (g m1 m2 : Nat) (S : EnvS) (v : ByteArray) (w : World) (he : EnvIs w g m1 m2 S) (hb : ifsF S = v) :
    Calls Try.prog 76 #[.pointer (some ⟨g, 0, none⟩)] w fun e w' => e = .returned (.string v) ∧ w' = w := by
  obtain ⟨A, c, hbox, hc0, hc1, hc2, hR, hC, hlc⟩ := he.opened
  have HE := Aside0.mk he
  have HB := Aside0.mk hb
  clear hb he hbox hc1 hc2 hR hC hlc
  obtain ⟨u, hu⟩ : ∃ u, (tget S.vars ifsB).getD ⟨#[]⟩ = u := ⟨_, rfl⟩
  obtain ⟨b, hbb⟩ : ∃ b, (tget S.vars ifsB).isSome = b := ⟨_, rfl⟩
  have HU := Aside0.mk hu
  have HBB := Aside0.mk hbb
  clear hu hbb
  cases b with
  | true =>
    go_enter Try.func76, Try.ntmps76
    go_wp2_with (at_lookup; refine lookup_ok_str _ rfl _ _ _ rfl Try.underlying100 m1 _ S.vars rfl HE.out.vars ifsB (by decide) rfl u true HU.out HBB.out ?_)
    go_ret
    refine ⟨ret_str ?_, rfl⟩
    rw [← HB.out, ← HU.out]
    unfold ifsF
    have := HBB.out
    cases h : tget S.vars ifsB with
    | none => rw [h] at this; cases this
    | some x => rfl
  | false =>
    go_enter Try.func76, Try.ntmps76
    go_wp2_with (at_lookup; refine lookup_ok_str _ rfl _ _ _ rfl Try.underlying100 m1 _ S.vars rfl HE.out.vars ifsB (by decide) rfl u false HU.out HBB.out ?_)
    go_ret
    refine ⟨ret_str ?_, rfl⟩
    rw [← HB.out]
    unfold ifsF
    have := HBB.out
    cases h : tget S.vars ifsB with
    | none => rfl
    | some x => rw [h] at this; cases this

set_option maxHeartbeats 1000000 in
set_option maxRecDepth 100000 in
theorem env_Flag (g m1 m2 : Nat) (S : EnvS) (x : Int) (b : Bool) (w : World) (hx : 0 ≤ x ∧ x ≤ 255) (he : EnvIs w g m1 m2 S) (hb : flagAt S.flag x = b) :
    Calls Try.prog 77 #[.pointer (some ⟨g, 0, none⟩), .int .u8 x] w fun e w' => e = .returned (.bool b) ∧ w' = w := by
  obtain ⟨A, c, hbox, hc0, hc1, hc2, hR, hC, hlc⟩ := he.opened
  have HE := Aside0.mk he
  have HB := Aside0.mk hb
  have hkey : keyOf Try.prog 5 (.int .u8 x) = some (.int .u8 x) := Maps.keyOf_int_mk Try.underlying5 (wf8 hx)
  have HK := Aside0.mk hkey
  clear hb he hbox hc1 hc0 hR hC hlc hkey
  go_enter Try.func77, Try.ntmps77
  go_wp2_with (at_lookup; refine wpList_lookup_own_int _ rfl _ _ 104 rfl 5 3 .i64 e_law5 Try.underlying104 Try.underlying3 (e_zero_int _) m2 _ (flagsD S.flag) rfl HE.out.flags _ _ rfl HK.out ?_; intro c hat hwc)
  go_ret
  refine ⟨e_ret_bool ?_, rfl⟩
  rw [flags_at, HB.out] at hat
  injection hat with hat
  injection hat with _ hat
  cases b <;> simp_all <;> omega

/-- What Set leaves. -/
def setF (S : EnvS) (s v : ByteArray) : Int × EnvS :=
  if !nameB s then (1, S) else if !valB v || (!(tget S.vars s).isSome && decide (100 ≤ S.vars.length)) then (15, S) else (0, { S with vars := tput S.vars s v })
theorem setF_ok {S : EnvS} (h : EnvOk S) (s v : ByteArray) (hs : s.size ≤ 1000000) : EnvOk (setF S s v).2 := by
  unfold setF
  split
  · exact h
  · rename_i hn
    split
    · exact h
    · rename_i hc
      simp only [Bool.or_eq_true, Bool.and_eq_true, decide_eq_true_eq, not_or, not_and, Bool.not_eq_true'] at hc hn
      refine ⟨tput_rising h.rising s v, ?_, h.alen, ?_, h.vals⟩
      · show (tput S.vars s v).length ≤ 100
        rw [tput_length h.rising]
        have := h.len
        split
        · exact this
        · rename_i hs
          have := hc.2 (by simpa using hs)
          omega
      · intro p hp
        rcases (tins_mem (s, v) (tdel S.vars s) p).1 hp with rfl | hp
        · exact ⟨by simpa using hn, hs, by simpa using hc.1⟩
        · exact h.names p (List.mem_filter.1 hp).1
theorem valB_size {v : ByteArray} (h : valB v = true) : v.size ≤ 4096 := by
  unfold valB at h
  simp only [Bool.and_eq_true, decide_eq_true_eq] at h
  exact h.1

theorem EnvIs.updated {w W : World} {g m1 m2 : Nat} {S : EnvS} {s v : ByteArray} {n : Nat} (h : EnvIs w g m1 m2 S) (hown : W.ownsMap Try.prog 9 (plainElem (H := Unit) Try.prog 9) m1 n ((tab encS S.vars).put (.string s.data.toList) (.lit (.string v.data.toList)))) (ht : w.mapTurned W m1) (ho : EnvOk { S with vars := tput S.vars s v }) : EnvIs W g m1 m2 { S with vars := tput S.vars s v } := by
  have hc : Chg (fun k => k = m1) w W := (Chg.refl _ _).turned ht (.inl rfl)
  have hne := h.ne
  obtain ⟨⟨x, hb, hr⟩, hv, hf, hm, _⟩ := h
  refine ⟨⟨x, hc.blk hb hne.1, R_chg hr hc (fun k hk q hq => by rw [hk]; exact map_notRow hv q)⟩, ?_, hc.map hf (fun e => hm e.symm), hm, ho⟩
  have h2 := e_owns_exact hown
  rw [show (DataW.lit (.string v.data.toList) : DataW Unit) = encS v from rfl, tab_put, tab_size] at h2
  exact h2
set_option maxHeartbeats 1000000 in
set_option maxRecDepth 100000 in
theorem env_Set (g m1 m2 : Nat) (S S' : EnvS) (s v : ByteArray) (r : Int) (w : World) (hs : s.size ≤ 1000000) (hv : v.size ≤ 1000000) (he : EnvIs w g m1 m2 S) (hb : setF S s v = (r, S')) :
    Calls Try.prog 20 #[.pointer (some ⟨g, 0, none⟩), .string s, .string v] w fun e w' => e = .returned (.int .i64 r) ∧ EnvIs w' g m1 m2 S' ∧ Chg (fun k => k = m1) w w' := by
  obtain ⟨A, c, hbox, hc0, hc1, hc2, hR, hC, hlc⟩ := he.opened
  have HE := Aside0.mk he
  have HB := Aside0.mk hb
  have HS := Aside0.mk hs
  have HO := Aside0.mk (setF_ok he.ok s v hs)
  clear hb he hs hc1 hc2 hR hC hlc hbox hv
  obtain ⟨b1, h1⟩ : ∃ b, nameB s = b := ⟨_, rfl⟩
  obtain ⟨b2, h2⟩ : ∃ b, valB v = b := ⟨_, rfl⟩
  obtain ⟨b3, h3⟩ : ∃ b, (tget S.vars s).isSome = b := ⟨_, rfl⟩
  obtain ⟨u, hu⟩ : ∃ u, (tget S.vars s).getD ⟨#[]⟩ = u := ⟨_, rfl⟩
  have H1 := Aside0.mk h1
  have H2 := Aside0.mk h2
  have H3 := Aside0.mk h3
  have HU := Aside0.mk hu
  clear h1 h2 h3 hu
  cases b1 with
  | false =>
    go_enter Try.func20, Try.ntmps20
    go_wp2_with (at_lookup; refine lookup_ok_str _ rfl _ _ _ rfl Try.underlying100 m1 _ S.vars rfl HE.out.vars s (by have := HS.out; unfold maxLen; omega) rfl u b3 HU.out H3.out ?_)
    refine (text_Name_calls s HS.out false H1.out _).mono ?_
    rintro e w1 ⟨rfl, hd⟩
    have HD := Aside0.mk hd
    clear hd
    go_wp2
    go_ret
    have hf := HB.out
    unfold setF at hf
    rw [H1.out, if_pos (by rfl)] at hf
    injection hf with e1 e2
    rw [← e2]
    exact ⟨ret_int' e1, HE.out.drawn HD.out, Chg.of_drawn HD.out _⟩
  | true =>
    cases b2 with
    | false =>
      go_enter Try.func20, Try.ntmps20
      go_wp2_with (at_lookup; refine lookup_ok_str _ rfl _ _ _ rfl Try.underlying100 m1 _ S.vars rfl HE.out.vars s (by have := HS.out; unfold maxLen; omega) rfl u b3 HU.out H3.out ?_)
      refine (text_Name_calls s HS.out true H1.out _).mono ?_
      rintro e w1 ⟨rfl, hd⟩
      have HD := Aside0.mk hd
      have HE1 := Aside0.mk (HE.out.drawn hd)
      have hc0 := (HE1.out.opened).choose_spec.choose_spec.2.1
      clear hd
      go_wp2_with fail
      refine (env_fits v false H2.out _).mono ?_
      rintro e w2 ⟨rfl, rfl⟩
      go_wp2
      go_ret
      have hf := HB.out
      unfold setF at hf
      rw [H1.out, H2.out, H3.out, if_neg (by simp), if_pos (by simp)] at hf
      injection hf with e1 e2
      rw [← e2]
      exact ⟨ret_int' e1, HE1.out, Chg.of_drawn HD.out _⟩
    | true =>
      have HN0 : Aside0 (S.vars.length < maxLen) := ⟨by have := HE.out.ok.len; unfold maxLen; omega⟩
      cases b3 with
      | true =>
        go_enter Try.func20, Try.ntmps20
        go_wp2_with (at_lookup; refine lookup_ok_str _ rfl _ _ _ rfl Try.underlying100 m1 _ S.vars rfl HE.out.vars s (by have := HS.out; unfold maxLen; omega) rfl u true HU.out H3.out ?_)
        refine (text_Name_calls s HS.out true H1.out _).mono ?_
        rintro e w1 ⟨rfl, hd⟩
        have HD := Aside0.mk hd
        have HE1 := Aside0.mk (HE.out.drawn hd)
        have hc0 := (HE1.out.opened).choose_spec.choose_spec.2.1
        clear hd
        go_wp2_with fail
        refine (env_fits v true H2.out _).mono ?_
        rintro e w2 ⟨rfl, rfl⟩
        go_wp2_with (at_mapUpdate; refine wpList_mapUpdate_in _ rfl _ _ _ 100 rfl 9 9 e_law9 Try.underlying100 (plainElem (H := Unit) Try.prog 9) m1 _ (tab encS S.vars) rfl HE1.out.vars HN0.out _ _ (.string s.data.toList) rfl rfl (WideMaps.keyOf_string_mk Try.underlying9 (by have := HS.out; unfold maxLen; omega)) (.lit (.string v.data.toList)) [] (plainElem_string Try.underlying9 (by have := valB_size H2.out; unfold maxLen; omega)) ?_; intro w2 hown hturn)
        go_ret
        have hf := HB.out
        have ho := HO.out
        rw [HB.out] at ho
        unfold setF at hf
        rw [H1.out, H2.out, H3.out, if_neg (by simp), if_neg (by simp)] at hf
        injection hf with e1 e2
        refine ⟨ret_int' e1, ?_, (Chg.of_drawn HD.out _).then_ ((Chg.refl (fun k => k = m1) _).turned hturn (.inl rfl)) (fun _ h => .inl h)⟩
        subst e2
        exact HE1.out.updated hown hturn ho
      | false =>
        by_cases h100 : 100 ≤ S.vars.length
        · have H100 := Aside0.mk h100
          have h100' : (100 : Int) ≤ (S.vars.length : Int) := by omega
          clear h100
          go_enter Try.func20, Try.ntmps20
          go_wp2_with (at_lookup; refine lookup_ok_str _ rfl _ _ _ rfl Try.underlying100 m1 _ S.vars rfl HE.out.vars s (by have := HS.out; unfold maxLen; omega) rfl u false HU.out H3.out ?_)
          refine (text_Name_calls s HS.out true H1.out _).mono ?_
          rintro e w1 ⟨rfl, hd⟩
          have HD := Aside0.mk hd
          have HE1 := Aside0.mk (HE.out.drawn hd)
          have hc0 := (HE1.out.opened).choose_spec.choose_spec.2.1
          clear hd
          go_wp2_with fail
          refine (env_fits v true H2.out _).mono ?_
          rintro e w2 ⟨rfl, rfl⟩
          have hlen := fun ty => HE1.out.vars.len Try.underlying100 ty
          rw [tab_size] at hlen
          go_wp2
          go_ret
          have hf := HB.out
          unfold setF at hf
          rw [H1.out, H2.out, H3.out, if_neg (by simp), if_pos (by simp [H100.out])] at hf
          injection hf with e1 e2
          rw [← e2]
          exact ⟨ret_int' e1, HE1.out, Chg.of_drawn HD.out _⟩
        · have H100 := Aside0.mk h100
          have h100' : (S.vars.length : Int) < 100 := by omega
          clear h100
          go_enter Try.func20, Try.ntmps20
          go_wp2_with (at_lookup; refine lookup_ok_str _ rfl _ _ _ rfl Try.underlying100 m1 _ S.vars rfl HE.out.vars s (by have := HS.out; unfold maxLen; omega) rfl u false HU.out H3.out ?_)
          refine (text_Name_calls s HS.out true H1.out _).mono ?_
          rintro e w1 ⟨rfl, hd⟩
          have HD := Aside0.mk hd
          have HE1 := Aside0.mk (HE.out.drawn hd)
          have hc0 := (HE1.out.opened).choose_spec.choose_spec.2.1
          clear hd
          go_wp2_with fail
          refine (env_fits v true H2.out _).mono ?_
          rintro e w2 ⟨rfl, rfl⟩
          have hlen := fun ty => HE1.out.vars.len Try.underlying100 ty
          rw [tab_size] at hlen
          go_wp2_with (at_mapUpdate; refine wpList_mapUpdate_in _ rfl _ _ _ 100 rfl 9 9 e_law9 Try.underlying100 (plainElem (H := Unit) Try.prog 9) m1 _ (tab encS S.vars) rfl HE1.out.vars HN0.out _ _ (.string s.data.toList) rfl rfl (WideMaps.keyOf_string_mk Try.underlying9 (by have := HS.out; unfold maxLen; omega)) (.lit (.string v.data.toList)) [] (plainElem_string Try.underlying9 (by have := valB_size H2.out; unfold maxLen; omega)) ?_; intro w2 hown hturn)
          go_ret
          have hf := HB.out
          have ho := HO.out
          rw [HB.out] at ho
          unfold setF at hf
          rw [H1.out, H2.out, H3.out, if_neg (by simp), if_neg (by simp [H100.out])] at hf
          injection hf with e1 e2
          refine ⟨ret_int' e1, ?_, (Chg.of_drawn HD.out _).then_ ((Chg.refl (fun k => k = m1) _).turned hturn (.inl rfl)) (fun _ h => .inl h)⟩
          subst e2
          exact HE1.out.updated hown hturn ho
end Go.Proofs.Ytfdjbjinomfgiaa
