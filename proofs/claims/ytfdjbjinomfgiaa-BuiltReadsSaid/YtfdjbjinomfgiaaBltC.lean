/- What a shell does itself: export and unset. -/
import Derived.Test.YtfdjbjinomfgiaaBltB
namespace Go.Proofs.Ytfdjbjinomfgiaa
open Go.RowKit Go.Maps Go.Proofs.YtfdjbjinomfgiaaW.PrintWords Go.Proofs.YtfdjbjinomfgiaaW.PrintLast Go.Proofs.YtfdjbjinomfgiaaW.PrintMore
set_option linter.unusedSimpArgs false
set_option linter.unusedVariables false

def doneV (c : Int) (o : ByteArray) (g n e : Int) : Value := .agg #[.int .i64 c, .string o, .int .i64 g, .int .i64 n, .int .i64 e]
abbrev DoneT := Int × ByteArray × Int × Int × Int
def doneOf (d : DoneT) : Value := doneV d.1 d.2.1 d.2.2.1 d.2.2.2.1 d.2.2.2.2
def done0 : Array Value := #[.int .i64 0, .string ⟨#[]⟩, .int .i64 0, .int .i64 0, .int .i64 0]
theorem box5 {W : World} {b t : Nat} {z0 z1 z2 z3 z4 : Value} (hb : W.heap[b]? = some (.cells #[z0, z1, z2, z3, z4] t (0, 0))) :
    (W.cell? ⟨b, 0, none⟩ = some z0 ∧ W.cell? ⟨b, 1, none⟩ = some z1 ∧ W.cell? ⟨b, 2, none⟩ = some z2 ∧ W.cell? ⟨b, 3, none⟩ = some z3 ∧ W.cell? ⟨b, 4, none⟩ = some z4) ∧ ∀ j, W.frozen? ⟨b, j, none⟩ = false :=
  ⟨⟨(blk_cell hb 0).trans rfl, (blk_cell hb 1).trans rfl, (blk_cell hb 2).trans rfl, (blk_cell hb 3).trans rfl, (blk_cell hb 4).trans rfl⟩, fun j => blk_frozen hb j⟩
theorem set5 {W : World} {b t : Nat} {z0 z1 z2 z3 z4 : Value} (hb : W.heap[b]? = some (.cells #[z0, z1, z2, z3, z4] t (0, 0))) (v0 v1 v2 v3 v4 : Value) :
    (W.setCells b 0 [v0, v1, v2, v3, v4]).heap[b]? = some (.cells #[v0, v1, v2, v3, v4] t (0, 0)) := by
  simp [World.setCells, World.setCell, Array.getElem?_modify, hb]
theorem set5_chg (W : World) (b : Nat) (vs : List Value) : Chg (fun k => k = b) W (W.setCells b 0 vs) := by
  obtain ⟨h1, h2, h3, h4⟩ := setCells_same b vs 0 W
  exact ⟨h1, h2, h3, by rw [h4]; exact Nat.le_refl _, fun k _ hn => setCells_far vs 0 k hn⟩

theorem set5_chg5 (W : World) (b : Nat) (v0 v1 v2 v3 v4 : Value) : Chg (fun k => k = b) W (((((W.setCell ⟨b, 0, none⟩ v0).setCell ⟨b, 1, none⟩ v1).setCell ⟨b, 2, none⟩ v2).setCell ⟨b, 3, none⟩ v3).setCell ⟨b, 4, none⟩ v4) := set5_chg W b [v0, v1, v2, v3, v4]
theorem EnvIs.box {w W : World} {g m1 m2 : Nat} {S : EnvS} {b t : Nat} {cs : Array Value} (h : EnvIs w g m1 m2 S) (hb : w.heap[b]? = some (.cells cs t (0, 0))) (h1 : t ≠ 106) (h2 : t ≠ 9) (hc : Chg (fun k => k = b) w W) : EnvIs W g m1 m2 S := by
  obtain ⟨⟨v, hx, _⟩, _⟩ := id h
  exact h.chg hc (fun e => by subst e; exact cells_notRow hb h1 _ hx) (fun e => by subst e; exact map_notRow h.vars _ _ hb) (fun e => by subst e; exact map_notRow h.flags _ _ hb) (fun k hk => by rw [hk]; exact cells_notRow hb h2)
theorem done_ret {fn : Func} {p : Tmp} {tmps : Array Value} {w : World} {b : Nat} {d : DoneT} (h : fn.results = #[.cell p 35]) (hp : tmps.getD p undef = .pointer (some ⟨b, 0, none⟩)) (hb : w.heap[b]? = some (.cells #[.int .i64 d.1, .string d.2.1, .int .i64 d.2.2.1, .int .i64 d.2.2.2.1, .int .i64 d.2.2.2.2] 35 (0, 0))) :
    (results fn tmps).run Try.prog w = .ok (doneOf d) w :=
  results_single h (.cell b 35 _ (0, 0) _ hp hb Try.underlying35 rfl (by kernel_rfl) .nil)
/-- What unset does to a row of names. -/
def remF (S : EnvS) : List ByteArray → DoneT × EnvS
  | [] => ((0, ⟨#[]⟩, 0, 0, 0), S)
  | s :: r => if nameB s then remF (unsetF S s) r else ((2, ⟨#[]⟩, 0, 0, 0), unsetF S s)
set_option maxHeartbeats 4000000 in
set_option maxRecDepth 100000 in
theorem built_removed (g m1 m2 : Nat) (S : EnvS) (A : Option Addr) (c : Nat) (l : List ByteArray) (w : World) (hC : Kd.C Kd.string w A l.length l) (hlc : l.length ≤ c) (hsz : ∀ s ∈ l, s.size ≤ 1000000) (hA : ∀ ad, A = some ad → 0 < l.length → ad.block ≠ m1) (he : EnvIs w g m1 m2 S) :
    Calls Try.prog 69 #[.pointer (some ⟨g, 0, none⟩), .slice A l.length c] w fun e w' => e = .returned (doneOf (remF S l).1) ∧ EnvIs w' g m1 m2 (remF S l).2 ∧ Chg (fun k => k = m1) w w' := by
  have HC := Aside0.mk hC
  have HS := Aside0.mk hsz
  have HA := Aside0.mk hA
  have HM := Aside0.mk he.lt.2.1
  have hmx : (l.length : Int) ≤ 9223372036854775807 := by have := hC.2.1; omega
  have HB0 := Aside0.mk (heap_alloc_new w (.cells #[.int .i64 0, .string ⟨#[]⟩, .int .i64 0, .int .i64 0, .int .i64 0] 35))
  have HE0 := Aside0.mk (he.below ((Below.refl _ _).alloc (Nat.le_refl _) (.cells #[.int .i64 0, .string ⟨#[]⟩, .int .i64 0, .int .i64 0, .int .i64 0] 35)))
  have HW0 := Aside0.mk ((Chg.refl (fun k => k = m1) w).alloc (.cells #[.int .i64 0, .string ⟨#[]⟩, .int .i64 0, .int .i64 0, .int .i64 0] 35))
  have HBS := Aside0.mk (Nat.le_refl w.heap.size)
  clear hC hsz hA he
  go_enter Try.func69, Try.ntmps69
  go_wp2_with fail
  generalize hbk : w.heap.size = b at HB0 HBS HM ⊢
  have HBK := Aside0.mk hbk
  clear hbk
  go_loopw [9] (fun i wr => ∃ (k : Nat) (S1 : EnvS), k ≤ l.length ∧ i = .int .i64 k ∧ Aside0 (remF S l = remF S1 (l.drop k)) ∧ Aside0 (EnvIs wr g m1 m2 S1) ∧ Aside0 (wr.heap[b]? = some (.cells #[.int .i64 0, .string ⟨#[]⟩, .int .i64 0, .int .i64 0, .int .i64 0] 35 (0, 0))) ∧ Aside0 (Chg (fun k => k = m1) w wr)) (fun i _ => l.length - (intOf i).toNat)
  case atStart => exact ⟨0, S, Nat.zero_le _, rfl, ⟨rfl⟩, HE0, HB0, HW0⟩
  case round =>
    obtain ⟨k, S1, hk, rfl, HR, HE, HBX, HW⟩ := hrel
    by_cases hlt : k < l.length
    · obtain ⟨ad, e, hx⟩ := str_at (e_C_chg HC.out HW.out HA.out) hlt
      subst e
      have HSK := Aside0.mk (HS.out _ (getD_mem' hlt ByteArray.empty))
      have hdr : l.drop k = l.getD k ByteArray.empty :: l.drop (k + 1) := by rw [List.drop_eq_getElem_cons hlt]; simp [List.getD_eq_getElem?_getD, List.getElem?_eq_getElem hlt]
      generalize l.getD k ByteArray.empty = s at *
      have hlt' : (k : Int) < (l.length : Int) := by omega
      have HLT := Aside0.mk hlt
      obtain ⟨r, hr⟩ : ∃ r, nameB s = r := ⟨_, rfl⟩
      have HN := Aside0.mk hr
      have HR2 := Aside0.mk (show remF S l = if r then remF (unsetF S1 s) (l.drop (k + 1)) else ((2, ⟨#[]⟩, 0, 0, 0), unsetF S1 s) from by rw [HR.out, hdr, ← hr]; rfl)
      clear hr hdr hk hlt
      go_wp2_with fail
      refine (env_Unset g m1 m2 S1 s r _ HSK.out HE.out HN.out).mono ?_
      rintro e w2 ⟨rfl, he2, hc2⟩
      have HE2 := Aside0.mk he2
      have HB2 := Aside0.mk (hc2.blk HBX.out (fun e => map_notRow HE.out.vars _ _ (by rw [← e]; exact HBX.out)))
      have HW2 := Aside0.mk (HW.out.then_ hc2 (fun _ h => .inl h))
      clear he2 hc2
      cases r with
      | true =>
        go_wp2_with fail
        go_roundw
        case rel => exact ⟨k + 1, _, HLT.out, by go_num, HR2, HE2, HB2, HW2⟩
        case measure => have := HLT.out; simp [intOf]; omega
      | false =>
        obtain ⟨⟨q0, q1, q2, q3, q4⟩, qf⟩ := box5 HB2.out
        go_wp2_with fail
        refine bodyPost_ret (v := doneOf (2, ⟨#[]⟩, 0, 0, 0)) (done_ret rfl rfl (set5 HB2.out (.int .i64 2) (.string ⟨#[]⟩) (.int .i64 0) (.int .i64 0) (.int .i64 0))) rfl ?_
        rw [HR2.out]
        exact ⟨rfl, HE2.out.box HB2.out (by decide) (by decide) (set5_chg5 _ _ _ _ _ _ _), HW2.out.then_ (set5_chg5 w2 b _ _ _ _ _) (fun k hk => .inr (by rw [hk, HBK.out]; exact Nat.le_refl _))⟩
    · obtain rfl : k = l.length := by omega
      rw [List.drop_length] at HR
      obtain ⟨⟨q0, q1, q2, q3, q4⟩, qf⟩ := box5 HBX.out
      clear hlt hk
      go_wp2_with fail
      refine bodyPost_ret (v := doneOf (0, ⟨#[]⟩, 0, 0, 0)) (done_ret rfl rfl (set5 HBX.out (.int .i64 0) (.string ⟨#[]⟩) (.int .i64 0) (.int .i64 0) (.int .i64 0))) rfl ?_
      rw [HR.out]
      exact ⟨rfl, HE.out.box HBX.out (by decide) (by decide) (set5_chg5 _ _ _ _ _ _ _), HW.out.then_ (set5_chg5 wr b _ _ _ _ _) (fun k hk => .inr (by rw [hk, HBK.out]; exact Nat.le_refl _))⟩

/-- What export does to a row of words. -/
def expF (S : EnvS) : List ByteArray → DoneT × EnvS
  | [] => ((0, ⟨#[]⟩, 0, 0, 0), S)
  | s :: r => if (assignF s).2.2 then (if (setF S (assignF s).1 (assignF s).2.1).1 = 0 then expF (setF S (assignF s).1 (assignF s).2.1).2 r else ((0, ⟨#[]⟩, 0, 0, (setF S (assignF s).1 (assignF s).2.1).1), S)) else if nameB s then expF S r else ((2, ⟨#[]⟩, 0, 0, 0), S)
theorem setF_bad {S : EnvS} {s v : ByteArray} (h : (setF S s v).1 ≠ 0) : (setF S s v).2 = S := by
  unfold setF at h ⊢
  split
  · rfl
  · split
    · rfl
    · rename_i h1 h2
      rw [if_neg h1, if_neg h2] at h
      exact absurd rfl h
theorem assign_size {s nm v : ByteArray} {ok : Bool} (hs : s.size ≤ 1000000) (h : assignF s = (nm, v, ok)) : nm.size ≤ 1000000 ∧ v.size ≤ 1000000 := by
  unfold assignF at h
  split at h
  · injection h with e1 h
    injection h with e2 _
    rw [← e1, ← e2]
    simp
    omega
  · injection h with e1 h
    injection h with e2 _
    rw [← e1, ← e2]
    exact ⟨Nat.zero_le _, Nat.zero_le _⟩
set_option maxHeartbeats 4000000 in
set_option maxRecDepth 100000 in
theorem built_exported (g m1 m2 : Nat) (S : EnvS) (A : Option Addr) (c : Nat) (l : List ByteArray) (w : World) (hC : Kd.C Kd.string w A l.length l) (hlc : l.length ≤ c) (hsz : ∀ s ∈ l, s.size ≤ 1000000) (hA : ∀ ad, A = some ad → 0 < l.length → ad.block ≠ m1) (he : EnvIs w g m1 m2 S) :
    Calls Try.prog 68 #[.pointer (some ⟨g, 0, none⟩), .slice A l.length c] w fun e w' => e = .returned (doneOf (expF S l).1) ∧ EnvIs w' g m1 m2 (expF S l).2 ∧ Chg (fun k => k = m1) w w' := by
  have HC := Aside0.mk hC
  have HS := Aside0.mk hsz
  have HA := Aside0.mk hA
  have hmx : (l.length : Int) ≤ 9223372036854775807 := by have := hC.2.1; omega
  have HB0 := Aside0.mk (heap_alloc_new w (.cells #[.int .i64 0, .string ⟨#[]⟩, .int .i64 0, .int .i64 0, .int .i64 0] 35))
  have HE0 := Aside0.mk (he.below ((Below.refl _ _).alloc (Nat.le_refl _) (.cells #[.int .i64 0, .string ⟨#[]⟩, .int .i64 0, .int .i64 0, .int .i64 0] 35)))
  have HW0 := Aside0.mk ((Chg.refl (fun k => k = m1) w).alloc (.cells #[.int .i64 0, .string ⟨#[]⟩, .int .i64 0, .int .i64 0, .int .i64 0] 35))
  clear hC hsz hA he
  go_enter Try.func68, Try.ntmps68
  go_wp2_with fail
  generalize hbk : w.heap.size = b at HB0 ⊢
  have HBK := Aside0.mk hbk
  clear hbk
  go_loopw [13] (fun i wr => ∃ (k : Nat) (S1 : EnvS), k ≤ l.length ∧ i = .int .i64 k ∧ Aside0 (expF S l = expF S1 (l.drop k)) ∧ Aside0 (EnvIs wr g m1 m2 S1) ∧ Aside0 (wr.heap[b]? = some (.cells #[.int .i64 0, .string ⟨#[]⟩, .int .i64 0, .int .i64 0, .int .i64 0] 35 (0, 0))) ∧ Aside0 (Chg (fun k => k = m1) w wr)) (fun i _ => l.length - (intOf i).toNat)
  case atStart => exact ⟨0, S, Nat.zero_le _, rfl, ⟨rfl⟩, HE0, HB0, HW0⟩
  case round =>
    obtain ⟨k, S1, hk, rfl, HR, HE, HBX, HW⟩ := hrel
    by_cases hlt : k < l.length
    · obtain ⟨ad, e, hx⟩ := str_at (e_C_chg HC.out HW.out HA.out) hlt
      subst e
      have HSK := Aside0.mk (HS.out _ (getD_mem' hlt ByteArray.empty))
      have hdr : l.drop k = l.getD k ByteArray.empty :: l.drop (k + 1) := by rw [List.drop_eq_getElem_cons hlt]; simp [List.getD_eq_getElem?_getD, List.getElem?_eq_getElem hlt]
      generalize l.getD k ByteArray.empty = s at *
      have hlt' : (k : Int) < (l.length : Int) := by omega
      have HLT := Aside0.mk hlt
      obtain ⟨⟨nm, v, ok⟩, ha⟩ : ∃ p, assignF s = p := ⟨_, rfl⟩
      have HAS := Aside0.mk ha
      have HZ := Aside0.mk (assign_size HSK.out ha)
      have HR2 := Aside0.mk (show expF S l = (if ok then (if (setF S1 nm v).1 = 0 then expF (setF S1 nm v).2 (l.drop (k + 1)) else ((0, ⟨#[]⟩, 0, 0, (setF S1 nm v).1), S1)) else if nameB s then expF S1 (l.drop (k + 1)) else ((2, ⟨#[]⟩, 0, 0, 0), S1)) from by rw [HR.out, hdr]; conv => lhs; unfold expF; rw [ha])
      clear ha hdr hk hlt
      go_wp2_with fail
      refine (built_Assign s nm v ok _ HSK.out HAS.out).mono ?_
      rintro e w2 ⟨rfl, hd⟩
      have HE2 := Aside0.mk (HE.out.drawn hd)
      have HB2 := Aside0.mk ((Chg.of_drawn hd none_).blk HBX.out (fun h => h))
      have HW2 := Aside0.mk (HW.out.drawn hd)
      clear hd hx
      cases ok with
      | true =>
        obtain ⟨⟨r, S2⟩, hset⟩ : ∃ p, setF S1 nm v = p := ⟨_, rfl⟩
        have HSET := Aside0.mk hset
        have HR3 := Aside0.mk (show expF S l = (if r = 0 then expF S2 (l.drop (k + 1)) else ((0, ⟨#[]⟩, 0, 0, r), S1)) from by rw [HR2.out, hset]; rfl)
        have HS2 := Aside0.mk (show r ≠ 0 → S2 = S1 from fun h => by have := setF_bad (S := S1) (s := nm) (v := v); rw [hset] at this; exact this h)
        clear hset HR2
        go_wp2_with fail
        refine (env_Set g m1 m2 S1 S2 nm v r _ HZ.out.1 HZ.out.2 HE2.out HSET.out).mono ?_
        rintro e w3 ⟨rfl, he3, hc3⟩
        have HE3 := Aside0.mk he3
        have HB3 := Aside0.mk (hc3.blk HB2.out (fun e => map_notRow HE2.out.vars _ _ (by rw [← e]; exact HB2.out)))
        have HW3 := Aside0.mk (HW2.out.then_ hc3 (fun _ h => .inl h))
        clear he3 hc3
        by_cases h0 : r = 0
        · subst h0
          go_wp2_with fail
          go_roundw
          case rel => exact ⟨k + 1, S2, HLT.out, by go_num, ⟨by rw [HR3.out]; rfl⟩, HE3, HB3, HW3⟩
          case measure => have := HLT.out; simp [intOf]; omega
        · have hr0 : (r == 0) = false := beq_eq_false_iff_ne.2 h0
          have hr1 : (r != 0) = true := by rw [bne, hr0]; rfl
          have H0 := Aside0.mk h0
          obtain ⟨⟨q0, q1, q2, q3, q4⟩, qf⟩ := box5 HB3.out
          clear h0
          go_wp2_with fail
          refine bodyPost_ret (v := doneOf (0, ⟨#[]⟩, 0, 0, r)) (done_ret rfl rfl (set5 HB3.out (.int .i64 0) (.string ⟨#[]⟩) (.int .i64 0) (.int .i64 0) (.int .i64 r))) rfl ?_
          rw [HR3.out, if_neg H0.out]
          have he := HE3.out.box HB3.out (by decide) (by decide) (set5_chg _ _ [.int .i64 0, .string ⟨#[]⟩, .int .i64 0, .int .i64 0, .int .i64 r])
          rw [HS2.out H0.out] at he
          exact ⟨rfl, he, HW3.out.then_ (set5_chg5 w3 b _ _ _ _ _) (fun k hk => .inr (by rw [hk, HBK.out]; exact Nat.le_refl _))⟩
      | false =>
        obtain ⟨b1, hb1⟩ : ∃ b, nameB s = b := ⟨_, rfl⟩
        have HN := Aside0.mk hb1
        have HR3 := Aside0.mk (show expF S l = (if b1 then expF S1 (l.drop (k + 1)) else ((2, ⟨#[]⟩, 0, 0, 0), S1)) from by rw [HR2.out, hb1]; rfl)
        clear hb1 HR2
        go_wp2_with fail
        refine (text_Name_calls s HSK.out b1 HN.out _).mono ?_
        rintro e w3 ⟨rfl, hd⟩
        have HE3 := Aside0.mk (HE2.out.drawn hd)
        have HB3 := Aside0.mk ((Chg.of_drawn hd none_).blk HB2.out (fun h => h))
        have HW3 := Aside0.mk (HW2.out.drawn hd)
        clear hd
        cases b1 with
        | true =>
          go_wp2_with fail
          go_roundw
          case rel => exact ⟨k + 1, S1, HLT.out, by go_num, HR3, HE3, HB3, HW3⟩
          case measure => have := HLT.out; simp [intOf]; omega
        | false =>
          obtain ⟨⟨q0, q1, q2, q3, q4⟩, qf⟩ := box5 HB3.out
          go_wp2_with fail
          refine bodyPost_ret (v := doneOf (2, ⟨#[]⟩, 0, 0, 0)) (done_ret rfl rfl (set5 HB3.out (.int .i64 2) (.string ⟨#[]⟩) (.int .i64 0) (.int .i64 0) (.int .i64 0))) rfl ?_
          rw [HR3.out]
          exact ⟨rfl, HE3.out.box HB3.out (by decide) (by decide) (set5_chg5 _ _ _ _ _ _ _), HW3.out.then_ (set5_chg5 w3 b _ _ _ _ _) (fun k hk => .inr (by rw [hk, HBK.out]; exact Nat.le_refl _))⟩
    · obtain rfl : k = l.length := by omega
      rw [List.drop_length] at HR
      obtain ⟨⟨q0, q1, q2, q3, q4⟩, qf⟩ := box5 HBX.out
      clear hlt hk
      go_wp2_with fail
      refine bodyPost_ret (v := doneOf (0, ⟨#[]⟩, 0, 0, 0)) (done_ret rfl rfl (set5 HBX.out (.int .i64 0) (.string ⟨#[]⟩) (.int .i64 0) (.int .i64 0) (.int .i64 0))) rfl ?_
      rw [HR.out]
      exact ⟨rfl, HE.out.box HBX.out (by decide) (by decide) (set5_chg5 _ _ _ _ _ _ _), HW.out.then_ (set5_chg5 wr b _ _ _ _ _) (fun k hk => .inr (by rw [hk, HBK.out]; exact Nat.le_refl _))⟩
end Go.Proofs.Ytfdjbjinomfgiaa
