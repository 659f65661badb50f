/- What a shell does itself: Run, at export, unset, echo, false. -/
import Derived.Test.YtfdjbjinomfgiaaBltC
namespace Go.Proofs.Ytfdjbjinomfgiaa
open Go.RowKit Go.Maps Go.Proofs.YtfdjbjinomfgiaaW.PrintWords Go.Proofs.YtfdjbjinomfgiaaW.PrintLast Go.Proofs.YtfdjbjinomfgiaaW.PrintMore
set_option linter.unusedSimpArgs false
set_option linter.unusedVariables false

theorem info_s : ∃ i, Try.prog.info? 9 = some i ∧ i.size = 1 := by
  obtain ⟨i, h, h2⟩ := Option.map_eq_some_iff.1 e_info_str
  simp only [Prod.mk.injEq] at h2
  exact ⟨i, h, h2.2.1⟩
abbrev zbox : Obj := .cells #[.int .i64 0, .string ⟨#[]⟩, .int .i64 0, .int .i64 0, .int .i64 0] 35
theorem add_block (ad : Addr) (j : Nat) : (ad.add j).block = ad.block := by unfold Addr.add; split <;> rfl
/-- The rest of a row. -/
theorem rest_C {w : World} {ad : Addr} {c : Nat} {s : ByteArray} {r : List ByteArray} (h : Kd.C Kd.string w (some ad) (r.length + 1) (s :: r)) (hc : r.length + 1 ≤ c) : Kd.C Kd.string w (if c = 1 then some ad else some (ad.add 1)) r.length r := by
  have h2 := Kd.C_drop (k := Kd.string) (xs := s :: r) (m := 1) (c := c) h (by simp) hc
  rw [show ((s :: r).drop 1).length = r.length from rfl] at h2
  exact h2
def exportB : ByteArray := ⟨#[101, 120, 112, 111, 114, 116]⟩
set_option maxHeartbeats 4000000 in
set_option maxRecDepth 100000 in
theorem run_export (g m1 m2 gw : Nat) (S : EnvS) (ad : Addr) (c : Nat) (r : List ByteArray) (st : Int) (w : World) (hC : Kd.C Kd.string w (some ad) (r.length + 1) (exportB :: r)) (hlc : r.length + 1 ≤ c) (hsz : ∀ s ∈ r, s.size ≤ 1000000) (hA : ad.block ≠ m1) (he : EnvIs w g m1 m2 S) :
    Calls Try.prog 14 #[.pointer (some ⟨g, 0, none⟩), .pointer (some ⟨gw, 0, none⟩), .slice (some ad) (r.length + 1) c, .int .i64 st] w fun e w' => e = .returned (doneOf (expF S r).1) ∧ EnvIs w' g m1 m2 (expF S r).2 ∧ Chg (fun k => k = m1) w w' := by
  obtain ⟨ad', e, hx⟩ := str_at hC (k := 0) (by omega)
  injection e with e
  subst e
  have hx0 : w.cell? ad = some (.string exportB) := by simpa [Addr.add] using hx
  have hbl : Below w.heap.size w (w.alloc zbox) := (Below.refl _ _).alloc (Nat.le_refl _) _
  have hy0 := pw_cell_below hbl hx0
  have HC := Aside0.mk (Kd.C_below (rest_C hC hlc) hbl)
  have HS := Aside0.mk hsz
  have HB0 := Aside0.mk (heap_alloc_new w zbox)
  have HE0 := Aside0.mk (he.below hbl)
  have HW0 := Aside0.mk ((Chg.refl (fun k => k = m1) w).alloc zbox)
  have HBL := Aside0.mk hbl
  have HADB := Aside0.mk (World.block_lt_of_cell? w _ hx0)
  obtain ⟨inf, hinf, hisz⟩ := info_s
  have hcut := cut_from (P := Try.prog) 22 9 .i64 Try.underlying22 hinf 1 hisz (some ad) (r.length + 1) c 1 (by omega) (by omega)
  obtain ⟨A2, hA2⟩ : ∃ A2, (if c = 1 then some ad else some (ad.add 1)) = A2 := ⟨_, rfl⟩
  have hcut2 : ∀ W : World, (Instr.slice 22 (.slice (some ad) (r.length + 1) c) (some (.int .i64 1)) none none).run Try.prog W = .ok (.slice A2 r.length (c - 1)) W := fun W => by rw [hcut W, ← hA2]; rfl
  have HA2 := Aside0.mk (show ∀ ad', A2 = some ad' → ad'.block = ad.block from fun ad' h => by
    rw [← hA2] at h
    split at h
    · rw [← Option.some.inj h]
    · rw [← Option.some.inj h, add_block])
  rw [hA2] at HC
  have hlc' : (r.length : Int) + 1 ≤ (c : Int) := by omega
  have hl0 : (((r.length + 1 : Nat) : Int) == 0) = false := beq_eq_false_iff_ne.2 (by omega)
  have hl1 : (0 : Int) < ((r.length + 1 : Nat) : Int) := by omega
  have HLC := Aside0.mk (show r.length ≤ c - 1 from by omega)
  have z_false : (exportB.toList == [102, 97, 108, 115, 101]) = false := by rw [toList_data]; rfl
  have z_echo : (exportB.toList == [101, 99, 104, 111]) = false := by rw [toList_data]; rfl
  have z_export : (exportB.toList == [101, 120, 112, 111, 114, 116]) = true := by rw [toList_data]; rfl
  clear hC hsz he hx hx0 hbl hinf hisz hcut hA2
  go_enter Try.func14, Try.ntmps14
  go_wp2_with fail
  refine (built_Is exportB true _ (by decide +kernel)).mono ?_
  rintro e w2 ⟨rfl, hb⟩
  have HC2 := Aside0.mk (Kd.C_below HC.out hb)
  have HB2 := Aside0.mk ((Chg.of_below hb none_).blk HB0.out (fun h => h))
  have HE2 := Aside0.mk (HE0.out.below hb)
  have HW2 := Aside0.mk (HW0.out.below hb)
  have HBL2 := Aside0.mk (HBL.out.trans (hb.mono HBL.out.size))
  have hy2 := pw_cell_below hb hy0
  clear hb hy0
  generalize hbk : w.heap.size = b at HB2 ⊢
  have HBK := Aside0.mk hbk
  clear hbk
  go_wp2_with fail
  refine (built_exported g m1 m2 S A2 (c - 1) r _ HC2.out HLC.out HS.out (fun ad' h _ hb => hA (by rw [← HA2.out ad' h]; exact hb)) HE2.out).mono ?_
  rintro e w3 ⟨rfl, he3, hc3⟩
  have HE3 := Aside0.mk he3
  have HB3 := Aside0.mk (hc3.blk HB2.out (fun e => map_notRow HE2.out.vars _ _ (by rw [← e]; exact HB2.out)))
  have HW3 := Aside0.mk (HW2.out.then_ hc3 (fun _ h => .inl h))
  clear he3 hc3 hy2
  obtain ⟨⟨q0, q1, q2, q3, q4⟩, qf⟩ := box5 HB3.out
  obtain ⟨⟨x0, x1, x2, x3, x4⟩, hd⟩ : ∃ d, (expF S r).1 = d := ⟨_, rfl⟩
  have HDN := Aside0.mk hd
  rw [hd]
  simp only [doneOf, doneV]
  clear hd
  go_wp2_with fail
  refine bodyPost_ret (v := doneOf (x0, x1, x2, x3, x4)) (done_ret rfl rfl (set5 HB3.out (.int .i64 x0) (.string x1) (.int .i64 x2) (.int .i64 x3) (.int .i64 x4))) rfl ?_
  exact ⟨by rw [HDN.out], HE3.out.box HB3.out (by decide) (by decide) (set5_chg5 _ _ _ _ _ _ _), HW3.out.then_ (set5_chg5 w3 b _ _ _ _ _) (fun k hk => .inr (by rw [hk, HBK.out]; exact Nat.le_refl _))⟩

def unsetB : ByteArray := ⟨#[117, 110, 115, 101, 116]⟩
set_option maxHeartbeats 4000000 in
set_option maxRecDepth 100000 in
theorem run_unset (g m1 m2 gw : Nat) (S : EnvS) (ad : Addr) (c : Nat) (r : List ByteArray) (st : Int) (w : World) (hC : Kd.C Kd.string w (some ad) (r.length + 1) (unsetB :: r)) (hlc : r.length + 1 ≤ c) (hsz : ∀ s ∈ r, s.size ≤ 1000000) (hA : ad.block ≠ m1) (he : EnvIs w g m1 m2 S) :
    Calls Try.prog 14 #[.pointer (some ⟨g, 0, none⟩), .pointer (some ⟨gw, 0, none⟩), .slice (some ad) (r.length + 1) c, .int .i64 st] w fun e w' => e = .returned (doneOf (remF S r).1) ∧ EnvIs w' g m1 m2 (remF S r).2 ∧ Chg (fun k => k = m1) w w' := by
  obtain ⟨ad', e, hx⟩ := str_at hC (k := 0) (by omega)
  injection e with e
  subst e
  have hx0 : w.cell? ad = some (.string unsetB) := by simpa [Addr.add] using hx
  have hbl : Below w.heap.size w (w.alloc zbox) := (Below.refl _ _).alloc (Nat.le_refl _) _
  have hy0 := pw_cell_below hbl hx0
  have HC := Aside0.mk (Kd.C_below (rest_C hC hlc) hbl)
  have HS := Aside0.mk hsz
  have HB0 := Aside0.mk (heap_alloc_new w zbox)
  have HE0 := Aside0.mk (he.below hbl)
  have HW0 := Aside0.mk ((Chg.refl (fun k => k = m1) w).alloc zbox)
  have HBL := Aside0.mk hbl
  have HADB := Aside0.mk (World.block_lt_of_cell? w _ hx0)
  obtain ⟨inf, hinf, hisz⟩ := info_s
  have hcut := cut_from (P := Try.prog) 22 9 .i64 Try.underlying22 hinf 1 hisz (some ad) (r.length + 1) c 1 (by omega) (by omega)
  obtain ⟨A2, hA2⟩ : ∃ A2, (if c = 1 then some ad else some (ad.add 1)) = A2 := ⟨_, rfl⟩
  have hcut2 : ∀ W : World, (Instr.slice 22 (.slice (some ad) (r.length + 1) c) (some (.int .i64 1)) none none).run Try.prog W = .ok (.slice A2 r.length (c - 1)) W := fun W => by rw [hcut W, ← hA2]; rfl
  have HA2 := Aside0.mk (show ∀ ad', A2 = some ad' → ad'.block = ad.block from fun ad' h => by
    rw [← hA2] at h
    split at h
    · rw [← Option.some.inj h]
    · rw [← Option.some.inj h, add_block])
  rw [hA2] at HC
  have hlc' : (r.length : Int) + 1 ≤ (c : Int) := by omega
  have hl0 : (((r.length + 1 : Nat) : Int) == 0) = false := beq_eq_false_iff_ne.2 (by omega)
  have hl1 : (0 : Int) < ((r.length + 1 : Nat) : Int) := by omega
  have HLC := Aside0.mk (show r.length ≤ c - 1 from by omega)
  have z_false : (unsetB.toList == [102, 97, 108, 115, 101]) = false := by rw [toList_data]; rfl
  have z_echo : (unsetB.toList == [101, 99, 104, 111]) = false := by rw [toList_data]; rfl
  have z_export : (unsetB.toList == [101, 120, 112, 111, 114, 116]) = false := by rw [toList_data]; rfl
  have z_unset : (unsetB.toList == [117, 110, 115, 101, 116]) = true := by rw [toList_data]; rfl
  clear hC hsz he hx hx0 hbl hinf hisz hcut hA2
  go_enter Try.func14, Try.ntmps14
  go_wp2_with fail
  refine (built_Is unsetB true _ (by decide +kernel)).mono ?_
  rintro e w2 ⟨rfl, hb⟩
  have HC2 := Aside0.mk (Kd.C_below HC.out hb)
  have HB2 := Aside0.mk ((Chg.of_below hb none_).blk HB0.out (fun h => h))
  have HE2 := Aside0.mk (HE0.out.below hb)
  have HW2 := Aside0.mk (HW0.out.below hb)
  have HBL2 := Aside0.mk (HBL.out.trans (hb.mono HBL.out.size))
  have hy2 := pw_cell_below hb hy0
  clear hb hy0
  generalize hbk : w.heap.size = b at HB2 ⊢
  have HBK := Aside0.mk hbk
  clear hbk
  go_wp2_with fail
  refine (built_removed g m1 m2 S A2 (c - 1) r _ HC2.out HLC.out HS.out (fun ad' h _ hb => hA (by rw [← HA2.out ad' h]; exact hb)) HE2.out).mono ?_
  rintro e w3 ⟨rfl, he3, hc3⟩
  have HE3 := Aside0.mk he3
  have HB3 := Aside0.mk (hc3.blk HB2.out (fun e => map_notRow HE2.out.vars _ _ (by rw [← e]; exact HB2.out)))
  have HW3 := Aside0.mk (HW2.out.then_ hc3 (fun _ h => .inl h))
  clear he3 hc3 hy2
  obtain ⟨⟨q0, q1, q2, q3, q4⟩, qf⟩ := box5 HB3.out
  obtain ⟨⟨x0, x1, x2, x3, x4⟩, hd⟩ : ∃ d, (remF S r).1 = d := ⟨_, rfl⟩
  have HDN := Aside0.mk hd
  rw [hd]
  simp only [doneOf, doneV]
  clear hd
  go_wp2_with fail
  refine bodyPost_ret (v := doneOf (x0, x1, x2, x3, x4)) (done_ret rfl rfl (set5 HB3.out (.int .i64 x0) (.string x1) (.int .i64 x2) (.int .i64 x3) (.int .i64 x4))) rfl ?_
  exact ⟨by rw [HDN.out], HE3.out.box HB3.out (by decide) (by decide) (set5_chg5 _ _ _ _ _ _ _), HW3.out.then_ (set5_chg5 w3 b _ _ _ _ _) (fun k hk => .inr (by rw [hk, HBK.out]; exact Nat.le_refl _))⟩

def falseB : ByteArray := ⟨#[102, 97, 108, 115, 101]⟩
set_option maxHeartbeats 4000000 in
set_option maxRecDepth 100000 in
theorem run_false (g m1 m2 gw : Nat) (S : EnvS) (ad : Addr) (c : Nat) (r : List ByteArray) (st : Int) (w : World) (hC : Kd.C Kd.string w (some ad) (r.length + 1) (falseB :: r)) (hlc : r.length + 1 ≤ c) (hsz : ∀ s ∈ r, s.size ≤ 1000000) (he : EnvIs w g m1 m2 S) :
    Calls Try.prog 14 #[.pointer (some ⟨g, 0, none⟩), .pointer (some ⟨gw, 0, none⟩), .slice (some ad) (r.length + 1) c, .int .i64 st] w fun e w' => e = .returned (doneOf (1, ⟨#[]⟩, 0, 0, 0)) ∧ Below w.heap.size w w' := by
  obtain ⟨ad', e, hx⟩ := str_at hC (k := 0) (by omega)
  injection e with e
  subst e
  have hx0 : w.cell? ad = some (.string falseB) := by simpa [Addr.add] using hx
  have hbl : Below w.heap.size w (w.alloc zbox) := (Below.refl _ _).alloc (Nat.le_refl _) _
  have hy0 := pw_cell_below hbl hx0
  have HC := Aside0.mk (Kd.C_below (rest_C hC hlc) hbl)
  have HS := Aside0.mk hsz
  have HB0 := Aside0.mk (heap_alloc_new w zbox)
  have HE0 := Aside0.mk (he.below hbl)
  have HW0 := Aside0.mk ((Chg.refl (none_) w).alloc zbox)
  have HBL := Aside0.mk hbl
  have HADB := Aside0.mk (World.block_lt_of_cell? w _ hx0)
  obtain ⟨inf, hinf, hisz⟩ := info_s
  have hcut := cut_from (P := Try.prog) 22 9 .i64 Try.underlying22 hinf 1 hisz (some ad) (r.length + 1) c 1 (by omega) (by omega)
  obtain ⟨A2, hA2⟩ : ∃ A2, (if c = 1 then some ad else some (ad.add 1)) = A2 := ⟨_, rfl⟩
  have hcut2 : ∀ W : World, (Instr.slice 22 (.slice (some ad) (r.length + 1) c) (some (.int .i64 1)) none none).run Try.prog W = .ok (.slice A2 r.length (c - 1)) W := fun W => by rw [hcut W, ← hA2]; rfl
  have HA2 := Aside0.mk (show ∀ ad', A2 = some ad' → ad'.block = ad.block from fun ad' h => by
    rw [← hA2] at h
    split at h
    · rw [← Option.some.inj h]
    · rw [← Option.some.inj h, add_block])
  rw [hA2] at HC
  have hlc' : (r.length : Int) + 1 ≤ (c : Int) := by omega
  have hl0 : (((r.length + 1 : Nat) : Int) == 0) = false := beq_eq_false_iff_ne.2 (by omega)
  have hl1 : (0 : Int) < ((r.length + 1 : Nat) : Int) := by omega
  have HLC := Aside0.mk (show r.length ≤ c - 1 from by omega)
  have z_false : (falseB.toList == [102, 97, 108, 115, 101]) = true := by rw [toList_data]; rfl
  clear hC hsz he hx hx0 hbl hinf hisz hcut hA2
  go_enter Try.func14, Try.ntmps14
  go_wp2_with fail
  refine (built_Is falseB true _ (by decide +kernel)).mono ?_
  rintro e w2 ⟨rfl, hb⟩
  have HC2 := Aside0.mk (Kd.C_below HC.out hb)
  have HB2 := Aside0.mk ((Chg.of_below hb none_).blk HB0.out (fun h => h))
  have HE2 := Aside0.mk (HE0.out.below hb)
  have HW2 := Aside0.mk (HW0.out.below hb)
  have HBL2 := Aside0.mk (HBL.out.trans (hb.mono HBL.out.size))
  have hy2 := pw_cell_below hb hy0
  clear hb hy0
  generalize hbk : w.heap.size = b at HB2 ⊢
  have HBK := Aside0.mk hbk
  clear hbk
  skip
  obtain ⟨⟨q0, q1, q2, q3, q4⟩, qf⟩ := box5 HB2.out
  go_wp2_with fail
  refine bodyPost_ret (v := doneOf (1, ⟨#[]⟩, 0, 0, 0)) (done_ret rfl rfl (set5 HB2.out (.int .i64 1) (.string ⟨#[]⟩) (.int .i64 0) (.int .i64 0) (.int .i64 0))) rfl ?_
  exact ⟨rfl, (HW2.out.then_ (set5_chg5 w2 b _ _ _ _ _) (fun k hk => .inr (by rw [hk, HBK.out]; exact Nat.le_refl _))).toBelow⟩

/-- What echo says. -/
def joinB (r : List ByteArray) : ByteArray := ⟨(Lib.join (r.map (·.data.toList)) [32]).toArray⟩
theorem lens_le (r : List ByteArray) (h : ∀ s ∈ r, s.size ≤ 1000000) : Lib.lens (r.map (·.data.toList)) ≤ r.length * 1000000 := by
  induction r with
  | nil => simp [Lib.lens]
  | cons x r ih =>
    have h1 := ih (fun s hs => h s (by simp [hs]))
    have h2 : x.data.toList.length ≤ 1000000 := h x (by simp)
    unfold Lib.lens at h1 ⊢
    simp only [List.map_cons, List.sum_cons, List.length_cons, Nat.add_mul, Nat.one_mul]
    omega
theorem join_le (r : List ByteArray) (h : ∀ s ∈ r, s.size ≤ 1000000) (hl : r.length ≤ 1000000) : (Lib.join (r.map (·.data.toList)) [32]).length ≤ 1000001000000 := by
  cases r with
  | nil => simp [Lib.join_nil]
  | cons x r =>
    have h1 := lens_le (x :: r) h
    rw [List.map_cons, Lib.join_length]
    rw [List.map_cons] at h1
    simp only [List.length_cons, List.length_map, List.length_nil] at h1 hl ⊢
    omega
theorem join_calls (A : Option Addr) (c : Nat) (r : List ByteArray) (w : World) (hC : Kd.C Kd.string w A r.length r) (hc : r.length ≤ c) (hsz : ∀ s ∈ r, s.size ≤ 1000000) (hl : r.length ≤ 1000000) :
    Calls Try.prog 67 #[.slice A r.length c, .string ⟨#[32]⟩] w fun e w' => e = .returned (.string (joinB r)) ∧ Below w.heap.size w w' := by
  cases r with
  | nil =>
    refine (Try.strings_Join_none A c ⟨#[32]⟩ w).mono ?_
    rintro e w' ⟨rfl, rfl⟩
    exact ⟨rfl, Below.refl _ _⟩
  | cons s r =>
    obtain ⟨ad, rfl, hx⟩ := str_at hC (k := 0) (by simp)
    obtain ⟨bk, o, i⟩ := ad
    have hi : i = none := by
      cases i with
      | none => rfl
      | some i =>
        simp [Addr.add, World.cell?] at hx
        split at hx <;> cases hx
    subst hi
    have hadd : ∀ j, (⟨bk, o, none⟩ : Addr).add j = ⟨bk, o + j, none⟩ := fun j => by unfold Addr.add; split <;> simp_all
    refine (Try.strings_Join bk o c (s :: r) ⟨#[32]⟩ w (fun j x hj => ?_) ?_ (by omega) hc ?_).mono ?_
    · have hjl := (List.getElem?_eq_some_iff.1 hj).1
      obtain ⟨ad, e, hy⟩ := str_at hC hjl
      injection e with e
      subst e
      rw [hadd] at hy
      rw [hy]
      simp [List.getD_eq_getElem?_getD, hj]
    · have := World.block_lt_of_cell? w _ hx
      rw [add_block] at this
      exact this
    · have := join_le (s :: r) hsz hl
      exact Nat.le_trans this (by omega)
    · rintro e w' ⟨rfl, hb⟩
      exact ⟨rfl, hb⟩
def echoB : ByteArray := ⟨#[101, 99, 104, 111]⟩
set_option maxHeartbeats 4000000 in
set_option maxRecDepth 100000 in
theorem run_echo (g m1 m2 gw : Nat) (S : EnvS) (ad : Addr) (c : Nat) (r : List ByteArray) (st : Int) (w : World) (hC : Kd.C Kd.string w (some ad) (r.length + 1) (echoB :: r)) (hlc : r.length + 1 ≤ c) (hsz : ∀ s ∈ r, s.size ≤ 1000000) (hrl : r.length ≤ 1000000) (he : EnvIs w g m1 m2 S) :
    Calls Try.prog 14 #[.pointer (some ⟨g, 0, none⟩), .pointer (some ⟨gw, 0, none⟩), .slice (some ad) (r.length + 1) c, .int .i64 st] w fun e w' => e = .returned (doneOf (0, joinB r ++ ⟨#[10]⟩, 0, 0, 0)) ∧ Below w.heap.size w w' := by
  obtain ⟨ad', e, hx⟩ := str_at hC (k := 0) (by omega)
  injection e with e
  subst e
  have hx0 : w.cell? ad = some (.string echoB) := by simpa [Addr.add] using hx
  have hbl : Below w.heap.size w (w.alloc zbox) := (Below.refl _ _).alloc (Nat.le_refl _) _
  have hy0 := pw_cell_below hbl hx0
  have HC := Aside0.mk (Kd.C_below (rest_C hC hlc) hbl)
  have HS := Aside0.mk hsz
  have HB0 := Aside0.mk (heap_alloc_new w zbox)
  have HE0 := Aside0.mk (he.below hbl)
  have HW0 := Aside0.mk ((Chg.refl (none_) w).alloc zbox)
  have HBL := Aside0.mk hbl
  have HADB := Aside0.mk (World.block_lt_of_cell? w _ hx0)
  obtain ⟨inf, hinf, hisz⟩ := info_s
  have hcut := cut_from (P := Try.prog) 22 9 .i64 Try.underlying22 hinf 1 hisz (some ad) (r.length + 1) c 1 (by omega) (by omega)
  obtain ⟨A2, hA2⟩ : ∃ A2, (if c = 1 then some ad else some (ad.add 1)) = A2 := ⟨_, rfl⟩
  have hcut2 : ∀ W : World, (Instr.slice 22 (.slice (some ad) (r.length + 1) c) (some (.int .i64 1)) none none).run Try.prog W = .ok (.slice A2 r.length (c - 1)) W := fun W => by rw [hcut W, ← hA2]; rfl
  have HA2 := Aside0.mk (show ∀ ad', A2 = some ad' → ad'.block = ad.block from fun ad' h => by
    rw [← hA2] at h
    split at h
    · rw [← Option.some.inj h]
    · rw [← Option.some.inj h, add_block])
  rw [hA2] at HC
  have hlc' : (r.length : Int) + 1 ≤ (c : Int) := by omega
  have hl0 : (((r.length + 1 : Nat) : Int) == 0) = false := beq_eq_false_iff_ne.2 (by omega)
  have hl1 : (0 : Int) < ((r.length + 1 : Nat) : Int) := by omega
  have HLC := Aside0.mk (show r.length ≤ c - 1 from by omega)
  have z_false : (echoB.toList == [102, 97, 108, 115, 101]) = false := by rw [toList_data]; rfl
  have z_echo : (echoB.toList == [101, 99, 104, 111]) = true := by rw [toList_data]; rfl
  have HRL := Aside0.mk hrl
  clear hrl
  clear hC hsz he hx hx0 hbl hinf hisz hcut hA2
  go_enter Try.func14, Try.ntmps14
  go_wp2_with fail
  refine (built_Is echoB true _ (by decide +kernel)).mono ?_
  rintro e w2 ⟨rfl, hb⟩
  have HC2 := Aside0.mk (Kd.C_below HC.out hb)
  have HB2 := Aside0.mk ((Chg.of_below hb none_).blk HB0.out (fun h => h))
  have HE2 := Aside0.mk (HE0.out.below hb)
  have HW2 := Aside0.mk (HW0.out.below hb)
  have HBL2 := Aside0.mk (HBL.out.trans (hb.mono HBL.out.size))
  have hy2 := pw_cell_below hb hy0
  clear hb hy0
  generalize hbk : w.heap.size = b at HB2 ⊢
  have HBK := Aside0.mk hbk
  clear hbk
  go_wp2_with fail
  refine (join_calls A2 (c - 1) r _ HC2.out HLC.out HS.out HRL.out).mono ?_
  rintro e w3 ⟨rfl, hbj⟩
  have HBJ := Aside0.mk hbj
  have HB3 := Aside0.mk ((Chg.of_below hbj none_).blk HB2.out (fun h => h))
  have HW3 := Aside0.mk (HW2.out.below hbj)
  have hjs : (joinB r).size ≤ 1000001000000 := by
    have := join_le r HS.out HRL.out
    have h2 : (joinB r).size = (Lib.join (r.map (·.data.toList)) [32]).length := by unfold joinB; simp [ByteArray.size]
    omega
  clear hbj hy2
  obtain ⟨⟨q0, q1, q2, q3, q4⟩, qf⟩ := box5 HB3.out
  obtain ⟨jb, hjb⟩ : ∃ jb, joinB r = jb := ⟨_, rfl⟩
  rw [hjb] at hjs ⊢
  have HJS := Aside0.mk hjs
  have HJB := Aside0.mk hjb
  clear hjs hjb
  go_wp2_with fail
  · rename_i hh
    exfalso
    exact absurd hh (by have := HJS.out; omega)
  obtain ⟨jc, hjc⟩ : ∃ jc, jb ++ (⟨#[10]⟩ : ByteArray) = jc := ⟨_, rfl⟩
  rw [hjc]
  refine bodyPost_ret (v := doneOf (0, jc, 0, 0, 0)) (done_ret rfl rfl (set5 HB3.out (.int .i64 0) (.string jc) (.int .i64 0) (.int .i64 0) (.int .i64 0))) rfl ?_
  exact ⟨by rw [HJB.out, hjc], (HW3.out.then_ (set5_chg5 w3 b _ _ _ _ _) (fun k hk => .inr (by rw [hk, HBK.out]; exact Nat.le_refl _))).toBelow⟩

end Go.Proofs.Ytfdjbjinomfgiaa
