/- Variables: Unset, SetFlag, Args, SetArgs, Vars. -/
import Derived.Test.YtfdjbjinomfgiaaEnvB
namespace Go.Proofs.Ytfdjbjinomfgiaa
open Go.RowKit Go.Maps Go.Proofs.YtfdjbjinomfgiaaW.PrintWords Go.Proofs.YtfdjbjinomfgiaaW.PrintLast Go.Proofs.YtfdjbjinomfgiaaW.PrintMore
set_option linter.unusedSimpArgs false
set_option linter.unusedVariables false

def unsetF (S : EnvS) (s : ByteArray) : EnvS := { S with vars := tdel S.vars s }
theorem unsetF_ok {S : EnvS} (h : EnvOk S) (s : ByteArray) : EnvOk (unsetF S s) :=
  ⟨tdel_rising h.rising s, Nat.le_trans (List.length_filter_le _ _) h.len, h.alen, fun p hp => h.names p (List.mem_filter.1 hp).1, h.vals⟩
theorem EnvIs.dropped {w W : World} {g m1 m2 : Nat} {S : EnvS} {s : ByteArray} {n : Nat} (h : EnvIs w g m1 m2 S) (hown : W.ownsMap Try.prog 9 (plainElem (H := Unit) Try.prog 9) m1 n ((tab encS S.vars).del (.string s.data.toList))) (ht : w.mapTurned W m1) : EnvIs W g m1 m2 (unsetF S s) := by
  have hc : Chg (fun k => k = m1) w W := (Chg.refl _ _).turned ht (.inl rfl)
  have hne := h.ne
  obtain ⟨⟨x, hb, hr⟩, hv, hf, hm, ho⟩ := h
  refine ⟨⟨x, hc.blk hb hne.1, R_chg hr hc (fun k hk q hq => by rw [hk]; exact map_notRow hv q)⟩, ?_, hc.map hf (fun e => hm e.symm), hm, unsetF_ok ho s⟩
  have h2 := e_owns_exact hown
  rw [tab_del, tab_size] at h2
  exact h2
set_option maxHeartbeats 1000000 in
set_option maxRecDepth 100000 in
theorem env_Unset (g m1 m2 : Nat) (S : EnvS) (s : ByteArray) (b : Bool) (w : World) (hs : s.size ≤ 1000000) (he : EnvIs w g m1 m2 S) (hb : nameB s = b) :
    Calls Try.prog 22 #[.pointer (some ⟨g, 0, none⟩), .string s] w fun e w' => e = .returned (.bool b) ∧ EnvIs w' g m1 m2 (unsetF S s) ∧ Chg (fun k => k = m1) w w' := by
  obtain ⟨A, c, hbox, hc0, hc1, hc2, hR, hC, hlc⟩ := he.opened
  have HE := Aside0.mk he
  have HB := Aside0.mk hb
  have HS := Aside0.mk hs
  clear hb he hs hc1 hc2 hR hC hlc hbox
  go_enter Try.func22, Try.ntmps22
  go_wp2_with (at_delete; refine wpList_delete_own _ rfl _ _ 100 9 rfl 9 e_law9 Try.underlying100 _ m1 _ (tab encS S.vars) rfl HE.out.vars _ (.string s.data.toList) rfl (WideMaps.keyOf_string_mk Try.underlying9 (by have := HS.out; unfold maxLen; omega)) ?_; intro w1 hown1 hturn1; have HE1 := Aside0.mk (HE.out.dropped hown1 hturn1); have HC1 := Aside0.mk ((Chg.refl (fun k => k = m1) _).turned hturn1 (.inl rfl)); clear hown1 hturn1 hc0)
  refine (text_Name_calls s HS.out b HB.out _).mono ?_
  rintro e w2 ⟨rfl, hd⟩
  have HD := Aside0.mk hd
  clear hd
  go_wp2
  go_ret
  exact ⟨rfl, HE1.out.drawn HD.out, HC1.out.drawn HD.out⟩

def efuB : ByteArray := ⟨#[101, 102, 117]⟩
def isFlag (x : Int) : Bool := decide (x = 101) || decide (x = 102) || decide (x = 117)
def flagF (S : EnvS) (x : Int) (on : Bool) : EnvS := if isFlag x then { S with flag := flagPut S.flag x on } else S
theorem flag_index {x : Int} (hx : 0 ≤ x ∧ x ≤ 255) : decide (Lib.indexByte efuB.data.toList x.toNat.toUInt8 < 0) = !isFlag x := by
  rw [e_index_neg]
  obtain ⟨n, rfl⟩ := Int.eq_ofNat_of_zero_le hx.1
  have hn : n < 256 := by omega
  unfold isFlag
  congr 1
  rw [Bool.eq_iff_iff]
  simp only [decide_eq_true_eq, Bool.or_eq_true]
  show n.toUInt8 ∈ ([101, 102, 117] : List UInt8) ↔ _
  have key : ∀ c : Nat, c < 256 → (n.toUInt8 = c.toUInt8 ↔ (n : Int) = c) := fun c hc => by
    constructor
    · intro h
      have := congrArg UInt8.toNat h
      simp [Nat.toUInt8, UInt8.toNat_ofNat'] at this
      omega
    · intro h
      have : n = c := by omega
      rw [this]
  simp only [List.mem_cons, List.not_mem_nil, or_false]
  have h1 := key 101 (by omega)
  have h2 := key 102 (by omega)
  have h3 := key 117 (by omega)
  rw [show (101 : UInt8) = (101 : Nat).toUInt8 from rfl, show (102 : UInt8) = (102 : Nat).toUInt8 from rfl, show (117 : UInt8) = (117 : Nat).toUInt8 from rfl, h1, h2, h3]
  simp only [Int.cast_ofNat_Int, or_assoc]
theorem isFlag_cases {x : Int} (h : isFlag x = true) : x = 101 ∨ x = 102 ∨ x = 117 := by
  unfold isFlag at h
  simpa [or_assoc] using h
theorem EnvIs.flagged {w W : World} {g m1 m2 : Nat} {S : EnvS} {x : Int} {b : Bool} {n : Nat} (h : EnvIs w g m1 m2 S) (hx : isFlag x = true) (hown : W.ownsMap Try.prog 5 (plainElem (H := Unit) Try.prog 3) m2 n ((flagsD S.flag).put (.int .u8 x) (.lit (.int .i64 (if b then 1 else 0))))) (ht : w.mapTurned W m2) : EnvIs W g m1 m2 { S with flag := flagPut S.flag x b } := by
  have hc : Chg (fun k => k = m2) w W := (Chg.refl _ _).turned ht (.inl rfl)
  have hne := h.ne
  obtain ⟨⟨y, hb, hr⟩, hv, hf, hm, ho⟩ := h
  refine ⟨⟨y, hc.blk hb hne.2, R_chg hr hc (fun k hk q hq => by rw [hk]; exact map_notRow hf q)⟩, hc.map hv hm, ?_, hm, ⟨ho.rising, ho.len, ho.alen, ho.names, ho.vals⟩⟩
  have h2 := e_owns_exact hown
  rw [flags_put _ _ _ (isFlag_cases hx)] at h2
  exact h2
theorem flagPut_twice (f : Flags) (x : Int) (a b : Bool) (hx : isFlag x = true) : flagPut (flagPut f x a) x b = flagPut f x b := by
  rcases isFlag_cases hx with rfl | rfl | rfl <;> rfl
theorem flags_max (f : Flags) : Maps.size (flagsD (H := Unit) f) < maxLen := by have := flags_size (H := Unit) f; unfold maxLen; omega
set_option maxHeartbeats 1000000 in
set_option maxRecDepth 100000 in
theorem env_SetFlag (g m1 m2 : Nat) (S : EnvS) (x : Int) (on b : Bool) (w : World) (hx : 0 ≤ x ∧ x ≤ 255) (he : EnvIs w g m1 m2 S) (hb : isFlag x = b) :
    Calls Try.prog 26 #[.pointer (some ⟨g, 0, none⟩), .int .u8 x, .bool on] w fun e w' => e = .returned (.bool b) ∧ EnvIs w' g m1 m2 (flagF S x on) ∧ Chg (fun k => k = m2) w w' := by
  obtain ⟨A, c, hbox, hc0, hc1, hc2, hR, hC, hlc⟩ := he.opened
  have HE := Aside0.mk he
  have HB := Aside0.mk hb
  have HX := Aside0.mk hbox
  have hi := flag_index hx
  rw [hb] at hi
  have hkey : keyOf Try.prog 5 (.int .u8 x) = some (.int .u8 x) := Maps.keyOf_int_mk Try.underlying5 (wf8 hx)
  have HK := Aside0.mk hkey
  have HI := Aside0.mk hi
  have HNE := Aside0.mk he.ne
  clear hb he hc0 hc1 hR hC hlc hbox hi hkey
  go_enter Try.func26, Try.ntmps26
  go_wp2_with fail
  refine (Try.strings_IndexByte efuB x _).mono ?_
  rintro e w1 ⟨rfl, rfl⟩
  have hi := HI.out
  cases b with
  | false =>
    simp only [Bool.not_false, decide_eq_true_eq] at hi
    go_wp2
    go_ret
    refine ⟨rfl, ?_, Chg.refl _ _⟩
    unfold flagF
    rw [HB.out]
    exact HE.out
  | true =>
    simp only [Bool.not_true, decide_eq_false_iff_not] at hi
    have hi2 : 0 ≤ Lib.indexByte efuB.data.toList x.toNat.toUInt8 := by omega
    generalize Lib.indexByte efuB.data.toList x.toNat.toUInt8 = z at *
    clear hi HI
    cases on with
    | false =>
      go_wp2_with (at_mapUpdate; refine wpList_mapUpdate_in _ rfl _ _ _ 104 rfl 5 3 e_law5 Try.underlying104 (plainElem (H := Unit) Try.prog 3) m2 _ (flagsD S.flag) rfl HE.out.flags (flags_max _) _ _ (.int .u8 x) rfl rfl HK.out (.lit (.int .i64 0)) [] (plainElem_int Try.underlying3 (by decide)) ?_; intro w1 hown1 hturn1; have HE1 := Aside0.mk (HE.out.flagged (b := false) HB.out hown1 hturn1); have HC1 := Aside0.mk ((Chg.refl (fun k => k = m2) _).turned hturn1 (.inl rfl)); clear hown1 hturn1)
      go_ret
      refine ⟨rfl, ?_, HC1.out⟩
      unfold flagF
      rw [HB.out]
      exact HE1.out
    | true =>
      go_wp2_with (first
        | (at_mapUpdate; refine wpList_mapUpdate_in _ rfl _ _ _ 104 rfl 5 3 e_law5 Try.underlying104 (plainElem (H := Unit) Try.prog 3) m2 _ (flagsD S.flag) rfl HE.out.flags (flags_max _) _ _ (.int .u8 x) rfl rfl HK.out (.lit (.int .i64 0)) [] (plainElem_int Try.underlying3 (by decide)) ?_; intro w1 hown1 hturn1; have HE1 := Aside0.mk (HE.out.flagged (b := false) HB.out hown1 hturn1); have HC1 := Aside0.mk ((Chg.refl (fun k => k = m2) _).turned hturn1 (.inl rfl)); have hc2 := (HE1.out.opened).choose_spec.choose_spec.2.2.2.1; clear hown1 hturn1)
        | (at_mapUpdate; refine wpList_mapUpdate_in _ rfl _ _ _ 104 rfl 5 3 e_law5 Try.underlying104 (plainElem (H := Unit) Try.prog 3) m2 _ (flagsD (flagPut S.flag x false)) rfl HE1.out.flags (flags_max _) _ _ (.int .u8 x) rfl rfl HK.out (.lit (.int .i64 1)) [] (plainElem_int Try.underlying3 (by decide)) ?_; intro w2 hown1 hturn1; have HE2 := Aside0.mk (HE1.out.flagged (b := true) HB.out hown1 hturn1); have HC2 := Aside0.mk (HC1.out.turned hturn1 (.inl rfl)); clear hown1 hturn1))
      go_ret
      refine ⟨rfl, ?_, HC2.out⟩
      unfold flagF
      rw [HB.out]
      have h2 := HE2.out
      rw [flagPut_twice _ _ _ _ HB.out] at h2
      exact h2

theorem e_clone (A : Option Addr) (c : Nat) (L : List ByteArray) (w : World) (h : Kd.C Kd.string w A L.length L) (hl : L.length ≤ 1000000) :
    Calls Try.prog 66 #[.slice A L.length c] w fun e w' => ∃ v, e = .returned v ∧ Kd.R Kd.string 9 w' w.heap.size (fun _ => True) v L ∧ Below w.heap.size w w' := by
  cases A with
  | none =>
    have h0 : L = [] := by
      cases L with
      | nil => rfl
      | cons x r => obtain ⟨ad, e, _⟩ := str_at h (k := 0) (by simp); cases e
    subst h0
    refine (Try.slices_Clone_string_nil _ c w).mono ?_
    rintro e w' ⟨rfl, rfl⟩
    exact ⟨_, rfl, Kd.R_nil _ _ _ _ _, Below.refl _ _⟩
  | some ad =>
    by_cases h0 : L = []
    · subst h0
      refine (Try.slices_Clone_string_zero ad c w).mono ?_
      rintro e w' ⟨v, rfl, ho, _, hb⟩
      exact ⟨v, rfl, Kd.R_of_own (by simpa [encs] using ho) (fun _ _ => trivial), hb⟩
    · obtain ⟨k, o, i⟩ := ad
      have hpos : 0 < L.length := List.length_pos_iff.2 h0
      have hx : ∀ j, j < L.length → w.cell? ((⟨k, o, i⟩ : Addr).add j) = some (.string (L.getD j ByteArray.empty)) := fun j hj => by
        obtain ⟨ad, e, hx⟩ := str_at h hj
        injection e with e
        subst e
        exact hx
      have hi : i = none := by
        have h1 := hx 0 hpos
        cases i with
        | none => rfl
          | some i =>
          simp [Addr.add, World.cell?] at h1
          split at h1 <;> cases h1
      subst hi
      refine (Try.slices_Clone_string k o L.length c L w (Nat.le_refl _) (by omega) (fun j hj => ?_)).mono ?_
      · have := hx j hj
        have e : (⟨k, o, none⟩ : Addr).add j = ⟨k, o + j, none⟩ := by unfold Addr.add; split <;> simp_all
        rw [e] at this
        exact this
      · rintro e w' ⟨v, rfl, ho, _, hb⟩
        rw [List.take_length] at ho
        exact ⟨v, rfl, Kd.R_of_own ho (fun _ _ => trivial), hb⟩
set_option maxHeartbeats 1000000 in
set_option maxRecDepth 100000 in
theorem env_Args (g m1 m2 : Nat) (S : EnvS) (w : World) (he : EnvIs w g m1 m2 S) :
    Calls Try.prog 78 #[.pointer (some ⟨g, 0, none⟩)] w fun e w' => ∃ v, e = .returned v ∧ Kd.R Kd.string 9 w' w.heap.size (fun _ => True) v S.args ∧ Below w.heap.size w w' := by
  obtain ⟨A, c, hbox, hc0, hc1, hc2, hR, hC, hlc⟩ := he.opened
  have HC := Aside0.mk hC
  have HL := Aside0.mk he.ok.alen
  clear he hc0 hc2 hR hC hlc hbox
  go_enter Try.func78, Try.ntmps78
  go_wp2_with fail
  refine (e_clone A c S.args _ HC.out (by have := HL.out; omega)).mono ?_
  rintro e w1 ⟨v, rfl, hR, hb⟩
  have HR := Aside0.mk hR
  have HB := Aside0.mk hb
  clear hR hb
  go_wp2
  go_ret
  exact ⟨_, rfl, HR.out, HB.out⟩

/-- What SetArgs leaves. -/
def argF (s : ByteArray) : ByteArray := if valB s then s else ⟨#[]⟩
def argsF (l : List ByteArray) : List ByteArray := (l.take 100).map argF
theorem argF_ok (s : ByteArray) : valB (argF s) = true := by
  unfold argF
  split
  · assumption
  · rfl
theorem argsF_ok {S : EnvS} (h : EnvOk S) (l : List ByteArray) : EnvOk { S with args := argsF l } :=
  ⟨h.rising, h.len, by simp [argsF]; omega, h.names, fun s hs => by
    obtain ⟨x, _, rfl⟩ := List.mem_map.1 hs
    exact argF_ok x⟩
theorem e_info_str : (Try.prog.info? 9).map (fun i => (i.zero, i.size, i.bytes)) = some (some (.string ⟨#[]⟩), 1, 16) := by kernel_rfl
theorem e_C_take {w : World} {A : Option Addr} {n : Nat} {xs : List ByteArray} (h : Kd.C Kd.string w A n xs) (k : Nat) (hk : k ≤ n) : Kd.C Kd.string w A k (xs.take k) := by
  have hr := Kd.reads_of_C (d := ByteArray.empty) h
  refine Kd.C_of_reads (d := ByteArray.empty) ⟨by rw [List.length_take]; have := hr.1; omega, by have := hr.2.1; omega, fun h0 => ?_⟩
  obtain ⟨ad, e, hc⟩ := hr.2.2 (by omega)
  refine ⟨ad, e, fun j hj => ?_⟩
  rw [hc j (by omega)]
  simp [List.getD_eq_getElem?_getD, hj]
/-- The environment while its args are set: the row lies behind base. -/
structure ArgsAt (w : World) (g m1 m2 base : Nat) (S : EnvS) (xs : List ByteArray) : Prop where
  row : ∃ v, w.heap[g]? = some (.cells #[.map (some m1), v, .map (some m2)] 106 (0, 0)) ∧ Kd.R Kd.string 9 w base (fun _ => True) v xs
  vars : w.ownsMap Try.prog 9 (plainElem (H := Unit) Try.prog 9) m1 S.vars.length (tab encS S.vars)
  flags : w.ownsMap Try.prog 5 (plainElem (H := Unit) Try.prog 3) m2 (Maps.size (flagsD (H := Unit) S.flag)) (flagsD S.flag)
theorem ArgsAt.opened {w : World} {g m1 m2 base : Nat} {S : EnvS} {xs : List ByteArray} (h : ArgsAt w g m1 m2 base S xs) : ∃ A c, w.heap[g]? = some (.cells #[.map (some m1), .slice A xs.length c, .map (some m2)] 106 (0, 0)) ∧ w.cell? ⟨g, 1, none⟩ = some (.slice A xs.length c) ∧ w.frozen? ⟨g, 1, none⟩ = false ∧ Kd.R Kd.string 9 w base (fun _ => True) (.slice A xs.length c) xs := by
  obtain ⟨⟨v, hb, hr⟩, _⟩ := h
  obtain ⟨A, c, rfl, hlc, hC⟩ := Kd.R_reads hr
  exact ⟨A, c, hb, by simp [World.cell?, hb], by simp [World.frozen?, hb], hr⟩
theorem ArgsAt.below {w W : World} {g m1 m2 base : Nat} {S : EnvS} {xs : List ByteArray} (h : ArgsAt w g m1 m2 base S xs) (hb : Below w.heap.size w W) : ArgsAt W g m1 m2 base S xs := by
  obtain ⟨⟨v, hx, hr⟩, hv, hf⟩ := h
  have hc := Chg.of_below hb none_
  exact ⟨⟨v, hc.blk hx (fun h => h), Kd.R_below hr hb⟩, hc.map hv (fun h => h), hc.map hf (fun h => h)⟩
theorem ArgsAt.stored {w W : World} {g m1 m2 base : Nat} {S : EnvS} {xs ys : List ByteArray} {v : Value} {row : Option Nat} (h : ArgsAt w g m1 m2 base S xs) (hg : w.grownBy W row) (hrow : ∀ k, row = some k → NotRow w 106 k ∧ k ≠ m1 ∧ k ≠ m2) (hR : Kd.R Kd.string 9 W base (fun _ => True) v ys) : ArgsAt (W.setCell ⟨g, 1, none⟩ v) g m1 m2 base S ys := by
  obtain ⟨⟨u, hx, hr⟩, hv, hf⟩ := h
  have hc : Chg (fun k => row = some k) w W := (Chg.refl _ _).grown hg (fun k hk => .inl hk)
  have hx2 := hc.blk hx (fun hk => (hrow g hk).1 _ hx)
  have hv2 := hc.map hv (fun hk => (hrow m1 hk).2.1 rfl)
  have hf2 := hc.map hf (fun hk => (hrow m2 hk).2.2 rfl)
  have hn1 : g ≠ m1 := fun e => by subst e; exact map_notRow hv2 _ _ hx2
  have hn2 : g ≠ m2 := fun e => by subst e; exact map_notRow hf2 _ _ hx2
  have hs : Chg (fun k => k = g) W (W.setCell ⟨g, 1, none⟩ v) := (Chg.refl (fun k => k = g) W).setCell (p := ⟨g, 1, none⟩) (.inl rfl) v
  refine ⟨⟨v, ?_, ?_⟩, hs.map hv2 (fun e => hn1 e.symm), hs.map hf2 (fun e => hn2 e.symm)⟩
  · simp [World.setCell, Array.getElem?_modify, hx2]
  · exact Kd.R_set hR hx2 (fun q hq => by
      rcases List.mem_cons.1 hq with rfl | hq
      · decide
      · cases hq) 1 v
theorem EnvIs.argsAt {w : World} {g m1 m2 : Nat} {S : EnvS} (h : EnvIs w g m1 m2 S) (base : Nat) : ArgsAt (w.setCell ⟨g, 1, none⟩ (.slice none 0 0)) g m1 m2 base S [] := by
  obtain ⟨⟨u, hx, hr⟩, hv, hf, _⟩ := h
  have h0 : ArgsAt w g m1 m2 0 S S.args := ⟨⟨u, hx, hr⟩, hv, hf⟩
  have h1 := h0.stored (row := none) (v := .slice none 0 0) (ys := []) (World.grownBy.refl _ _) (fun k hk => by cases hk) (Kd.R_nil _ _ _ _ _)
  obtain ⟨⟨v, hx2, hr2⟩, hv2, hf2⟩ := h1
  refine ⟨⟨.slice none 0 0, ?_, Kd.R_nil _ _ _ _ _⟩, hv2, hf2⟩
  simp [World.setCell, Array.getElem?_modify, hx]
theorem row_apart {w : World} {g m1 m2 base : Nat} {S : EnvS} {xs ys : List ByteArray} {v : Value} (h : ArgsAt w g m1 m2 base S xs) (hR : Kd.R Kd.string 9 w base (fun _ => True) v ys) : ∀ k, v.ownBlock = some k → NotRow w 106 k ∧ k ≠ m1 ∧ k ≠ m2 := by
  intro k hk
  obtain ⟨_, _, _, q, hq, cs, hx⟩ := (Kd.R_bound hR).1 k hk
  obtain rfl : q = 9 := by
    rcases List.mem_cons.1 hq with hq | hq
    · exact hq
    · cases hq
  refine ⟨cells_notRow hx (by decide), ?_, ?_⟩
  · rintro rfl; exact map_notRow h.vars _ _ hx
  · rintro rfl; exact map_notRow h.flags _ _ hx

theorem e_C_chg {w W : World} {A : Option Addr} {n g : Nat} {xs : List ByteArray} (h : Kd.C Kd.string w A n xs) (hch : Chg (fun k => k = g) w W) (hA : ∀ ad, A = some ad → 0 < n → ad.block ≠ g) : Kd.C Kd.string W A n xs := by
  have hr := Kd.reads_of_C (d := ByteArray.empty) h
  refine Kd.C_of_reads (d := ByteArray.empty) ⟨hr.1, hr.2.1, fun h0 => ?_⟩
  obtain ⟨ad, e, hc⟩ := hr.2.2 h0
  refine ⟨ad, e, fun j hj => ?_⟩
  exact hch.cell (hc j hj) (fun hk => hA ad e h0 (by rw [← hk]; unfold Addr.add; split <;> rfl))
theorem ArgsAt.cells {w W : World} {g m1 m2 base : Nat} {S : EnvS} {xs ys : List ByteArray} {v : Value} (h : ArgsAt w g m1 m2 base S xs) (hR : Kd.R Kd.string 9 w base (fun _ => True) v ys) (hg : w.grownBy W v.ownBlock) : (∃ u, W.cell? ⟨g, 1, none⟩ = some u) ∧ W.frozen? ⟨g, 1, none⟩ = false := by
  obtain ⟨⟨u, hx, _⟩, _⟩ := id h
  have hx2 := (Chg.grown (Chg.refl (fun k => v.ownBlock = some k) _) hg (fun k hk => .inl hk)).blk hx (fun hk => (row_apart h hR g hk).1 _ hx)
  exact ⟨⟨u, by simp [World.cell?, hx2]⟩, by simp [World.frozen?, hx2]⟩
set_option maxHeartbeats 4000000 in
set_option maxRecDepth 100000 in
theorem env_SetArgs (g m1 m2 : Nat) (S : EnvS) (A : Option Addr) (c : Nat) (l : List ByteArray) (w : World) (hC : Kd.C Kd.string w A l.length l) (hlc : l.length ≤ c) (hsz : ∀ s ∈ l, s.size ≤ 1000000) (hA : ∀ ad, A = some ad → 0 < l.length → ad.block ≠ g) (he : EnvIs w g m1 m2 S) :
    Calls Try.prog 24 #[.pointer (some ⟨g, 0, none⟩), .slice A l.length c] w fun e w' => e = .returned (.tuple #[]) ∧ EnvIs w' g m1 m2 { S with args := argsF l } ∧ Chg (fun k => k = g) w w' := by
  obtain ⟨A0, c0, hbox, _, hc1, _, hR0, _, _⟩ := he.opened
  have hfz : w.frozen? ⟨g, 1, none⟩ = false := by simp [World.frozen?, hbox]
  have HO := Aside0.mk (argsF_ok he.ok l)
  have HM := Aside0.mk he.apart
  have HC := Aside0.mk hC
  have HS := Aside0.mk hsz
  have hmax : (l.length : Int) ≤ 9223372036854775807 := by have := hC.2.1; omega
  have HAT := Aside0.mk (he.argsAt w.heap.size)
  have hch : Chg (fun k => k = g) w (w.setCell ⟨g, 1, none⟩ (.slice none 0 0)) := (Chg.refl (fun k => k = g) w).setCell (p := ⟨g, 1, none⟩) (.inl rfl) _
  have HCH := Aside0.mk hch
  have HA := Aside0.mk hA
  clear hbox hR0 hC hsz hA he hch
  obtain ⟨N, hN⟩ : ∃ N, N = min l.length 100 := ⟨_, rfl⟩
  have HN := Aside0.mk hN
  go_enter Try.func24, Try.ntmps24
  go_wp2_with fail
  rw [show ((min (l.length : Int) 100).toNat) = N from by omega, show max (min (l.length : Int) 100) 0 = (N : Int) from by omega]
  clear hN hc1
  go_loopw [15] (fun i wr => ∃ k : Nat, k ≤ N ∧ i = .int .i64 k ∧ Aside0 (ArgsAt wr g m1 m2 w.heap.size S ((l.take k).map argF)) ∧ Aside0 (Chg (fun k => k = g) w wr)) (fun i _ => N - (intOf i).toNat)
  case atStart => exact ⟨0, Nat.zero_le _, rfl, ⟨by simpa using HAT.out⟩, HCH⟩
  case round =>
    obtain ⟨k, hk, rfl, HR, HW⟩ := hrel
    by_cases hlt : k < N
    · have hll : k < l.length := by have := HN.out; omega
      have hCr := e_C_chg HC.out HW.out HA.out
      obtain ⟨ad, e, hx⟩ := str_at hCr hll
      subst e
      have hsk := Aside0.mk (HS.out _ (getD_mem' hll ByteArray.empty))
      have htk := Aside0.mk (take_snoc' hll ByteArray.empty)
      generalize l.getD k ByteArray.empty = s at *
      have hlt' : (k : Int) < (N : Int) := by omega
      have hll' : (k : Int) < (l.length : Int) := by omega
      have hNl : (N : Int) ≤ (l.length : Int) := by have := HN.out; omega
      have HLT := Aside0.mk hlt
      have HLL := Aside0.mk hll
      obtain ⟨A1, c1, hbox1, hcell1, hfz1, hR1⟩ := HR.out.opened
      have HB1 := Aside0.mk hbox1
      have HR1 := Aside0.mk hR1
      have hlen : ((l.take k).map argF).length = k := by simp; omega
      have HLEN := Aside0.mk hlen
      have HSZ := Aside0.mk HW.out.size
      clear hCr hlt hll hbox1 hR1 hlen
      generalize hxs : (l.take k).map argF = xs at *
      have HXS := Aside0.mk hxs
      clear hxs
      obtain ⟨b, hb⟩ : ∃ b, valB s = b := ⟨_, rfl⟩
      have HV := Aside0.mk hb
      clear hb
      cases b with
      | true =>
        go_wp2_with fail
        refine (env_fits s true HV.out _).mono ?_
        rintro e w1 ⟨rfl, rfl⟩
        go_wp2_with (at_builtin; refine Kd.R_append Kd.string (w0 := w1) w.heap.size rfl (.tmp 26) (.tmp 28) 22 9 (.string ⟨#[]⟩) 16 rfl Try.underlying22 e_info_str rfl (by decide) (by omega) _ xs s [.string s] (fun _ => True) (fun _ => False) rfl rfl rfl (fun _ hk => hk.elim) (fun _ _ => trivial) HR1.out (Below.refl _ _) HSZ.out (by rw [HLEN.out]; have := HN.out; have := HLT.out; omega) ?_; intro v2 w2 hR2 _ hG2 _; obtain ⟨A2, c2, rfl, _, _⟩ := Kd.R_reads hR2; have HR2 := Aside0.mk hR2; have HG2 := Aside0.mk (show w1.grownBy w2 (Value.slice A1 xs.length c1).ownBlock from hG2); obtain ⟨⟨u2, hu2⟩, hf2⟩ := HR.out.cells HR1.out HG2.out; clear hR2 hG2)
        go_roundw
        case rel =>
          have hrow := row_apart HR.out HR1.out
          refine ⟨k + 1, HLT.out, by go_num, ⟨?_⟩, ⟨?_⟩⟩
          · rw [htk.out, List.map_append, HXS.out]
            have ha : argF s = s := by unfold argF; rw [HV.out]; rfl
            rw [List.map_cons, List.map_nil, ha]
            exact HR.out.stored HG2.out hrow (by have h := HR2.out; rw [List.length_append] at h; exact h)
          · refine (HW.out.then_ ((Chg.refl (fun k => (Value.slice A1 xs.length c1).ownBlock = some k) _).grown HG2.out (fun k hk => .inl hk)) (fun k hk => .inr ?_)).setCell (p := ⟨g, 1, none⟩) (.inl rfl) _
            exact ((Kd.R_bound HR1.out).1 k hk).2.1
        case measure => have := HLT.out; simp [intOf]; omega
      | false =>
        go_wp2_with fail
        refine (env_fits s false HV.out _).mono ?_
        rintro e w1 ⟨rfl, rfl⟩
        go_wp2_with (at_builtin; refine Kd.R_append Kd.string (w0 := w1) w.heap.size rfl (.tmp 26) (.tmp 28) 22 9 (.string ⟨#[]⟩) 16 rfl Try.underlying22 e_info_str rfl (by decide) (by omega) _ xs ⟨#[]⟩ [.string ⟨#[]⟩] (fun _ => True) (fun _ => False) rfl rfl rfl (fun _ hk => hk.elim) (fun _ _ => trivial) HR1.out (Below.refl _ _) HSZ.out (by rw [HLEN.out]; have := HN.out; have := HLT.out; omega) ?_; intro v2 w2 hR2 _ hG2 _; obtain ⟨A2, c2, rfl, _, _⟩ := Kd.R_reads hR2; have HR2 := Aside0.mk hR2; have HG2 := Aside0.mk (show w1.grownBy w2 (Value.slice A1 xs.length c1).ownBlock from hG2); obtain ⟨⟨u2, hu2⟩, hf2⟩ := HR.out.cells HR1.out HG2.out; clear hR2 hG2)
        go_roundw
        case rel =>
          have hrow := row_apart HR.out HR1.out
          refine ⟨k + 1, HLT.out, by go_num, ⟨?_⟩, ⟨?_⟩⟩
          · rw [htk.out, List.map_append, HXS.out]
            have ha : argF s = ⟨#[]⟩ := by unfold argF; rw [HV.out]; rfl
            rw [List.map_cons, List.map_nil, ha]
            exact HR.out.stored HG2.out hrow (by have h := HR2.out; rw [List.length_append] at h; exact h)
          · refine (HW.out.then_ ((Chg.refl (fun k => (Value.slice A1 xs.length c1).ownBlock = some k) _).grown HG2.out (fun k hk => .inl hk)) (fun k hk => .inr ?_)).setCell (p := ⟨g, 1, none⟩) (.inl rfl) _
            exact ((Kd.R_bound HR1.out).1 k hk).2.1
        case measure => have := HLT.out; simp [intOf]; omega
    · obtain rfl : k = N := by omega
      go_wp2
      go_end0
      refine ⟨rfl, ?_, HW.out⟩
      obtain ⟨⟨v, hx, hr⟩, hv, hf⟩ := HR.out
      have ht : l.take (min l.length 100) = l.take 100 := by
        by_cases h : l.length ≤ 100
        · rw [Nat.min_eq_left h, List.take_length, List.take_of_length_le h]
        · rw [Nat.min_eq_right (by omega)]
      rw [HN.out, ht] at hr
      exact ⟨⟨v, hx, Kd.R_lower hr (Nat.zero_le _)⟩, hv, hf, HM.out, HO.out⟩
end Go.Proofs.Ytfdjbjinomfgiaa
