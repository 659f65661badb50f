/- What a shell does itself: a world that begins, names of builtins, a name and a value in one word. -/
import Derived.Test.YtfdjbjinomfgiaaEnvH
import Derived.Test.YtfdjbjinomfgiaaTreeB
namespace Go.Proofs.Ytfdjbjinomfgiaa
open Go.RowKit Go.Maps Go.Proofs.YtfdjbjinomfgiaaW.PrintWords Go.Proofs.YtfdjbjinomfgiaaW.PrintLast Go.Proofs.YtfdjbjinomfgiaaW.PrintMore
set_option linter.unusedSimpArgs false
set_option linter.unusedVariables false

abbrev OutK : Kd (Int × ByteArray) := Kd.pair (Kd.int .i64) Kd.string
theorem info_out : (Try.prog.info? 111).map (fun i => (i.zero, i.size, i.bytes)) = some (some (.agg #[.int .i64 0, .string ⟨#[]⟩]), 2, 24) := by kernel_rfl
theorem outKM {w : World} {base : Nat} {ok : Nat → Prop} {x : Int × ByteArray} {cs : List Value} (h : OutK.K w x cs) : OutK.M w base ok x cs := by
  obtain ⟨c0, c1, rfl, h0, h1⟩ := h
  exact ⟨c0, c1, rfl, h0, h1⟩
set_option maxHeartbeats 1000000 in
set_option maxRecDepth 100000 in
theorem clone_outs (A : Option Addr) (c : Nat) (L : List (Int × ByteArray)) (w : World) (h : Kd.C OutK w A L.length L) (hl : L.length ≤ 1000000) :
    Calls Try.prog 65 #[.slice A L.length c] w fun e w' => ∃ A' n' c', e = .returned (.slice A' n' c') ∧ Below w.heap.size w w' := by
  have HC := Aside0.mk h
  have HL := Aside0.mk hl
  clear h hl
  have q30 : ∀ (w : World) (a : Option Addr) (n c n' c' : Nat), (binOp .eql 30 (.slice a n c) (.slice none n' c')).run Try.prog w = .ok (.bool a.isNone) w := fun w a n c n' c' => Lib.run_eql_slice_nil w _ _ a n c n' c' Try.underlying30
  cases A with
  | none =>
    go_enter Try.func65, Try.ntmps65
    go_wp2_with fail
    go_ret
    exact ⟨_, _, _, rfl, Below.refl _ _⟩
  | some ad =>
    go_enter Try.func65, Try.ntmps65
    go_wp2_with (at_builtin; refine Kd.R_append_rows OutK (w0 := w.alloc (.cells #[] 111)) w.heap.size rfl (.tmp 5) (.tmp 6) 30 111 (.agg #[.int .i64 0, .string ⟨#[]⟩]) 24 rfl Try.underlying30 info_out rfl (by decide) (by omega) _ [] L (some ad) L.length c (fun _ => True) (fun _ => False) rfl rfl (R_emptyH OutK _ _ _ (Nat.le_refl _)) (Kd.C_below HC.out ((Below.refl _ _).alloc (Nat.le_refl _) (.cells #[] 111))) (fun _ _ h => outKM h) (fun _ h => h.elim) (fun _ _ => trivial) (Below.refl _ _) (by simp) (by simp; have := HL.out; omega) ?_; intro v4 w4 hR4 _ hG4 _; obtain ⟨A4, c4, rfl, _, _⟩ := Kd.R_reads hR4; have hb4 : Below w.heap.size w w4 := ((Below.refl _ _).alloc (Nat.le_refl _) (.cells #[] 111)).grown hG4 (by simp) (fun k' hk' => Nat.le_of_eq (Option.some.inj (show some w.heap.size = some k' from hk'))); have HB4 := Aside0.mk hb4; clear hR4 hG4 hb4)
    go_ret
    exact ⟨_, _, _, rfl, HB4.out⟩

/-- A row of texts that lies in a block of texts. -/
def RowAt (w : World) (A : Option Addr) (n : Nat) (xs : List ByteArray) : Prop :=
  xs.length = n ∧ (n = 0 ∨ ∃ b off cells, A = some ⟨b, off, none⟩ ∧ w.heap[b]? = some (.cells cells 9 (0, 0)) ∧ ∀ j, j < n → cells[off + j]? = some (.string (xs.getD j ByteArray.empty)))
theorem RowAt.chg {T : Nat → Prop} {w W : World} {A : Option Addr} {n : Nat} {xs : List ByteArray} (h : RowAt w A n xs) (hc : Chg T w W) (hT : ∀ k, T k → NotRow w 9 k) : RowAt W A n xs := by
  obtain ⟨hl, h | ⟨b, off, cells, rfl, hb, h⟩⟩ := h
  · exact ⟨hl, .inl h⟩
  · exact ⟨hl, .inr ⟨b, off, cells, rfl, hc.blk hb (fun ht => hT b ht _ hb), h⟩⟩
theorem RowAt.of_R {w : World} {base : Nat} {v : Value} {xs : List ByteArray} (h : Kd.R Kd.string 9 w base (fun _ => True) v xs) : ∃ A c, v = .slice A xs.length c ∧ xs.length ≤ c ∧ RowAt w A xs.length xs := by
  obtain ⟨A, c, rfl, hl, hC⟩ := Kd.R_reads h
  refine ⟨A, c, rfl, hl, rfl, ?_⟩
  by_cases h0 : xs.length = 0
  · exact .inl h0
  · right
    obtain ⟨inner, hown⟩ := Kd.R_own h
    obtain ⟨g, cap, he, _⟩ := hown.form (by omega)
    injection he with he1 he2 he3
    subst he1
    obtain ⟨cells, hb⟩ := own_typed hown g rfl
    refine ⟨g, 0, cells, rfl, hb, fun j hj => ?_⟩
    obtain ⟨ad, e, hx⟩ := str_at hC hj
    injection e with e
    subst e
    rw [add_plain, blk_cell hb] at hx
    simpa using hx
/-- A world: what is still to be read in it. -/
structure WorIs (w : World) (gw : Nat) (rs : List ByteArray) : Prop where
  row : ∃ v0 v1 A c v3, w.heap[gw]? = some (.cells #[v0, v1, .slice A rs.length c, v3] 114 (0, 0)) ∧ RowAt w A rs.length rs ∧ rs.length ≤ c
  fits : rs.length ≤ 1000000 ∧ ∀ s ∈ rs, s.size ≤ 1000000
theorem WorIs.chg {T : Nat → Prop} {w W : World} {gw : Nat} {rs : List ByteArray} (h : WorIs w gw rs) (hc : Chg T w W) (hg : ¬ T gw) (hT : ∀ k, T k → NotRow w 9 k) : WorIs W gw rs := by
  obtain ⟨⟨v0, v1, A, c, v3, hb, hr, hl⟩, hf⟩ := h
  exact ⟨⟨v0, v1, A, c, v3, hc.blk hb hg, hr.chg hc hT, hl⟩, hf⟩
theorem WorIs.below {w W : World} {gw : Nat} {rs : List ByteArray} (h : WorIs w gw rs) (hb : Below w.heap.size w W) : WorIs W gw rs := h.chg (Chg.of_below hb none_) (fun h => h) (fun _ h => h.elim)
theorem box_param (w : World) (v : Array Value) (T : TypeId) : (w.alloc (.cells v T)).heap[w.heap.size]? = some (.cells v T (0, 0)) := heap_alloc_new w _
set_option maxHeartbeats 4000000 in
set_option maxRecDepth 100000 in
theorem world_New (V : Value) (hV : V.cells.size = 1) (V2 : Value) (hV2 : V2.cells.size = 1) (F : Option Addr) (cf : Nat) (fs : List ByteArray) (O : Option Addr) (co : Nat) (os_ : List (Int × ByteArray)) (R : Option Addr) (cr : Nat) (rs : List ByteArray) (fuel : Int) (w : World) (hF : Kd.C Kd.string w F fs.length fs) (hfs : ∀ s ∈ fs, s.size ≤ maxLen) (hO : Kd.C OutK w O os_.length os_) (ho : os_.length ≤ 1000000) (hR : Kd.C Kd.string w R rs.length rs) (hr : rs.length ≤ 1000000) (hrs : ∀ s ∈ rs, s.size ≤ 1000000)
    (A1 : Option Addr) (n1 c1 : Nat) (hVe : V = .slice A1 n1 c1) (A2 : Option Addr) (n2 c2 : Nat) (hV2e : V2 = .slice A2 n2 c2) :
    Calls Try.prog 13 #[.agg #[V, V2, .slice F fs.length cf, .slice O os_.length co, .slice R rs.length cr, .int .i64 fuel]] w fun e w' => ∃ gw, e = .returned (.pointer (some ⟨gw, 0, none⟩)) ∧ WorIs w' gw rs ∧ Below w.heap.size w w' ∧ w.heap.size ≤ gw := by
  subst hVe hV2e
  clear hV hV2
  have hbx : Below w.heap.size w (w.alloc (.cells #[.slice A1 n1 c1, .slice A2 n2 c2, .slice F fs.length cf, .slice O os_.length co, .slice R rs.length cr, .int .i64 fuel] 32)) := (Below.refl _ _).alloc (Nat.le_refl _) _
  have hb := box_param w #[.slice A1 n1 c1, .slice A2 n2 c2, .slice F fs.length cf, .slice O os_.length co, .slice R rs.length cr, .int .i64 fuel] 32
  have HF := Aside0.mk (Kd.C_below hF hbx)
  have HO := Aside0.mk (Kd.C_below hO hbx)
  have HR := Aside0.mk (Kd.C_below hR hbx)
  have HBX := Aside0.mk hbx
  have hx2 := (blk_cell hb 2).trans rfl
  have hx3 := (blk_cell hb 3).trans rfl
  have hx4 := (blk_cell hb 4).trans rfl
  have hx5 := (blk_cell hb 5).trans rfl
  have HFS := Aside0.mk hfs
  have HL1 := Aside0.mk ho
  have HL2 := Aside0.mk hr
  have HRS := Aside0.mk hrs
  clear hF hO hR hbx hb hfs ho hr hrs
  go_enter Try.func13, Try.ntmps13
  go_wp2_with fail
  have HG := Aside0.mk (Nat.lt_succ_self w.heap.size)
  have hsz : (w.alloc (.cells #[.slice A1 n1 c1, .slice A2 n2 c2, .slice F fs.length cf, .slice O os_.length co, .slice R rs.length cr, .int .i64 fuel] 32)).heap.size = w.heap.size + 1 := by simp
  have HSZ := Aside0.mk hsz
  clear hsz
  generalize hbk : w.heap.size = bk at hx2 hx3 hx4 hx5 ⊢
  have HBK := Aside0.mk hbk
  clear hbk
  generalize w.alloc (.cells #[.slice A1 n1 c1, .slice A2 n2 c2, .slice F fs.length cf, .slice O os_.length co, .slice R rs.length cr, .int .i64 fuel] 32) = wx at HF HO HR HBX HSZ hx2 hx3 hx4 hx5 ⊢
  refine start_ (n := 16) (S := fun w' => w'.cell? ⟨bk, 2, none⟩ = some (.slice F fs.length cf) ∧ w'.cell? ⟨bk, 3, none⟩ = some (.slice O os_.length co) ∧ w'.cell? ⟨bk, 4, none⟩ = some (.slice R rs.length cr) ∧ w'.cell? ⟨bk, 5, none⟩ = some (.int .i64 fuel)) (ds := []) #[false, false, false, false, false, false, false, false, false, false, false, false, false, false, false, false] (by kernel_rfl) rfl rfl ⟨hx2, hx3, hx4, hx5⟩ (fun hHeld => ?_)
  have hbd : Below wx.heap.size wx wx.drew := Drawn0.below ⟨1, rfl⟩; have HFD := Aside0.mk (Kd.C_below HF.out hbd); have HOD := Aside0.mk (Kd.C_below HO.out hbd); have HRD := Aside0.mk (Kd.C_below HR.out hbd); have HBD := Aside0.mk (HBX.out.trans (hbd.mono HBX.out.size)); clear hbd; have HH0 := Aside0.mk hHeld; generalize wx.drew = wd at HFD HOD HRD HBD HH0 hHeld ⊢
  refine pure_ (i := 0) (N := some 3) (v := ?_) (a' := ?_) #[true, false, false, false, false, false, false, false, false, false, false, false, false, false, false, false] rfl rfl (by kernel_rfl) (fun _ _ _ h => h) (Or.inl ⟨by rfl, ?_⟩) ?_ ?_
  rotate_left
  · intro w'
    go_simp
    with_reducible rfl
  rotate_left
  · simp only [Act.put, List.setIfInBounds_toArray, List.set_cons_zero, List.set_cons_succ, i64_w, i32_w]
    rfl
  refine pure_ (i := 3) (N := some 6) (v := ?_) (a' := ?_) #[true, false, false, true, false, false, false, false, false, false, false, false, false, false, false, false] rfl rfl (by kernel_rfl) (fun _ _ _ h => h) (Or.inl ⟨by rfl, ?_⟩) ?_ ?_
  rotate_left
  · intro w'
    go_simp
    with_reducible rfl
  rotate_left
  · simp only [Act.put, List.setIfInBounds_toArray, List.set_cons_zero, List.set_cons_succ, i64_w, i32_w]
    rfl
  refine pure_ (i := 6) (N := some 9) (v := ?_) (a' := ?_) #[true, false, false, true, false, false, true, false, false, false, false, false, false, false, false, false] rfl rfl (by kernel_rfl) (fun _ _ _ h => h) (Or.inl ⟨by rfl, ?_⟩) ?_ ?_
  rotate_left
  · intro w'
    go_simp
    with_reducible rfl
  rotate_left
  · simp only [Act.put, List.setIfInBounds_toArray, List.set_cons_zero, List.set_cons_succ, i64_w, i32_w]
    rfl
  refine pure_ (i := 9) (N := some 12) (v := ?_) (a' := ?_) #[true, false, false, true, false, false, true, false, false, true, false, false, false, false, false, false] rfl rfl (by kernel_rfl) (fun _ _ _ h => h) (Or.inl ⟨by rfl, ?_⟩) ?_ ?_
  rotate_left
  · intro w'
    go_simp
    with_reducible rfl
  rotate_left
  · simp only [Act.put, List.setIfInBounds_toArray, List.set_cons_zero, List.set_cons_succ, i64_w, i32_w]
    rfl
  refine take_ (i := 1) (N := some 4) (v := ?_) (a' := ?_) #[true, true, false, true, false, false, true, false, false, true, false, false, false, false, false, false] rfl rfl (by kernel_rfl) (fun _ _ _ h => h) (Or.inl ⟨by rfl, ?_⟩) hHeld ?_ ?_
  rotate_left
  · rintro w' ⟨s0, s1, s2, s3⟩
    go_simp
    with_reducible rfl
  rotate_left
  · simp only [Act.put, List.setIfInBounds_toArray, List.set_cons_zero, List.set_cons_succ, i64_w, i32_w]
    rfl
  refine take_ (i := 4) (N := some 7) (v := ?_) (a' := ?_) #[true, true, false, true, true, false, true, false, false, true, false, false, false, false, false, false] rfl rfl (by kernel_rfl) (fun _ _ _ h => h) (Or.inl ⟨by rfl, ?_⟩) hHeld ?_ ?_
  rotate_left
  · rintro w' ⟨s0, s1, s2, s3⟩
    go_simp
    with_reducible rfl
  rotate_left
  · simp only [Act.put, List.setIfInBounds_toArray, List.set_cons_zero, List.set_cons_succ, i64_w, i32_w]
    rfl
  refine take_ (i := 7) (N := some 10) (v := ?_) (a' := ?_) #[true, true, false, true, true, false, true, true, false, true, false, false, false, false, false, false] rfl rfl (by kernel_rfl) (fun _ _ _ h => h) (Or.inl ⟨by rfl, ?_⟩) hHeld ?_ ?_
  rotate_left
  · rintro w' ⟨s0, s1, s2, s3⟩
    go_simp
    with_reducible rfl
  rotate_left
  · simp only [Act.put, List.setIfInBounds_toArray, List.set_cons_zero, List.set_cons_succ, i64_w, i32_w]
    rfl
  refine take_ (i := 10) (N := some 13) (v := ?_) (a' := ?_) #[true, true, false, true, true, false, true, true, false, true, true, false, false, false, false, false] rfl rfl (by kernel_rfl) (fun _ _ _ h => h) (Or.inl ⟨by rfl, ?_⟩) hHeld ?_ ?_
  rotate_left
  · rintro w' ⟨s0, s1, s2, s3⟩
    go_simp
    with_reducible rfl
  rotate_left
  · simp only [Act.put, List.setIfInBounds_toArray, List.set_cons_zero, List.set_cons_succ, i64_w, i32_w]
    rfl
  refine pure_ (i := 11) (N := some 14) (v := ?_) (a' := ?_) #[true, true, false, true, true, false, true, true, false, true, true, true, false, false, false, false] rfl rfl (by kernel_rfl) (fun _ _ _ h => h) (Or.inl ⟨by rfl, ?_⟩) ?_ ?_
  rotate_left
  · intro w'
    go_simp
    with_reducible rfl
  rotate_left
  · simp only [Act.put, List.setIfInBounds_toArray, List.set_cons_zero, List.set_cons_succ, i64_w, i32_w]
    rfl
  refine pure_ (i := 12) (N := some 15) (v := ?_) (a' := ?_) #[true, true, false, true, true, false, true, true, false, true, true, true, true, false, false, false] rfl rfl (by kernel_rfl) (fun _ _ _ h => h) (Or.inl ⟨by rfl, ?_⟩) ?_ ?_
  rotate_left
  · intro w'
    go_simp
    with_reducible rfl
  rotate_left
  · simp only [Act.put, List.setIfInBounds_toArray, List.set_cons_zero, List.set_cons_succ, i64_w, i32_w]
    rfl
  refine one_ (i := 2) (N := some 5) #[true, true, true, true, true, false, true, true, false, true, true, true, true, false, false, false] rfl rfl (by kernel_rfl) (by decide) (fun K hK => ?_)
  refine goes_ Try.func30 (by kernel_rfl) rfl #[.slice F fs.length cf] (by rfl) rfl rfl (by simp only [List.map_toArray, List.map_cons, List.map_nil]; rfl) ?_
  with_reducible refine (tree_New F cf fs _ HFD.out HFS.out).mono ?_
  rintro e w2 ⟨g2, m2, rfl, _, hc2, _, _⟩
  refine ⟨_, rfl, ?_⟩
  have hb2 := hc2.toBelow
  have HB2 := Aside0.mk hb2
  clear hc2 hb2
  refine hK.out _ _ ⟨pw_cell_below HB2.out HH0.out.1, pw_cell_below HB2.out HH0.out.2.1, pw_cell_below HB2.out HH0.out.2.2.1, pw_cell_below HB2.out HH0.out.2.2.2⟩ (fun hHeld => ?_)
  clear hK K
  refine norm_ (a' := ?_) ?_ ?_
  rotate_left
  · show Act.put _ (some 5) _ = _
    simp only [Act.put, List.setIfInBounds_toArray, List.set_cons_zero, List.set_cons_succ, i64_w, i32_w]
    rfl
  refine one_ (i := 5) (N := some 8) #[true, true, true, true, true, true, true, true, false, true, true, true, true, false, false, false] rfl rfl (by kernel_rfl) (by decide) (fun K hK => ?_)
  refine goes_ Try.func65 (by kernel_rfl) rfl #[.slice O os_.length co] (by rfl) rfl rfl (by simp only [List.map_toArray, List.map_cons, List.map_nil]; rfl) ?_
  with_reducible refine (clone_outs O co os_ _ (Kd.C_below HOD.out HB2.out) HL1.out).mono ?_
  rintro e w3 ⟨A3, n3, c3, rfl, hb3⟩
  refine ⟨_, rfl, ?_⟩
  have HB3 := Aside0.mk (HB2.out.trans (hb3.mono HB2.out.size))
  clear hb3
  refine hK.out _ _ ⟨pw_cell_below HB3.out HH0.out.1, pw_cell_below HB3.out HH0.out.2.1, pw_cell_below HB3.out HH0.out.2.2.1, pw_cell_below HB3.out HH0.out.2.2.2⟩ (fun hHeld => ?_)
  clear hK K
  refine norm_ (a' := ?_) ?_ ?_
  rotate_left
  · show Act.put _ (some 8) _ = _
    simp only [Act.put, List.setIfInBounds_toArray, List.set_cons_zero, List.set_cons_succ, i64_w, i32_w]
    rfl
  refine one_ (i := 8) (N := some 11) #[true, true, true, true, true, true, true, true, true, true, true, true, true, false, false, false] rfl rfl (by kernel_rfl) (by decide) (fun K hK => ?_)
  refine goes_ Try.func66 (by kernel_rfl) rfl #[.slice R rs.length cr] (by rfl) rfl rfl (by simp only [List.map_toArray, List.map_cons, List.map_nil]; rfl) ?_
  with_reducible refine (e_clone R cr rs _ (Kd.C_below HRD.out HB3.out) HL2.out).mono ?_
  rintro e w4 ⟨v4, rfl, hR4, hb4⟩
  refine ⟨_, rfl, ?_⟩
  obtain ⟨A4, c4, rfl, hl4, hrow⟩ := RowAt.of_R hR4
  have HB4 := Aside0.mk (HB3.out.trans (hb4.mono HB3.out.size))
  have HROW := Aside0.mk hrow
  have HL4 := Aside0.mk hl4
  clear hb4 hR4 hrow hl4
  refine hK.out _ _ ⟨pw_cell_below HB4.out HH0.out.1, pw_cell_below HB4.out HH0.out.2.1, pw_cell_below HB4.out HH0.out.2.2.1, pw_cell_below HB4.out HH0.out.2.2.2⟩ (fun hHeld => ?_)
  clear hK K
  refine norm_ (a' := ?_) ?_ ?_
  rotate_left
  · show Act.put _ (some 11) _ = _
    simp only [Act.put, List.setIfInBounds_toArray, List.set_cons_zero, List.set_cons_succ, i64_w, i32_w]
    rfl
  refine pure_ (i := 13) (N := some 16) (v := ?_) (a' := ?_) #[true, true, true, true, true, true, true, true, true, true, true, true, true, true, false, false] rfl rfl (by kernel_rfl) (fun _ _ _ h => h) (Or.inl ⟨by rfl, ?_⟩) ?_ ?_
  rotate_left
  · intro w'
    go_simp
    with_reducible rfl
  rotate_left
  · simp only [Act.put, List.setIfInBounds_toArray, List.set_cons_zero, List.set_cons_succ, i64_w, i32_w]
    rfl
  refine one_ (i := 14) (N := some 17) #[true, true, true, true, true, true, true, true, true, true, true, true, true, true, true, false] rfl rfl (by kernel_rfl) (by decide) (fun K hK => ?_)
  refine value_ (w1 := ?_) (v := ?_) (by rfl) rfl ?_ ?_
  rotate_left 2
  · go_simp
    constructor
    · rfl
    · rfl
  refine hK.out _ _ ⟨(pw_cell_below ((Below.refl _ _).alloc (Nat.le_refl _) _) (pw_cell_below HB4.out HH0.out.1)), (pw_cell_below ((Below.refl _ _).alloc (Nat.le_refl _) _) (pw_cell_below HB4.out HH0.out.2.1)), (pw_cell_below ((Below.refl _ _).alloc (Nat.le_refl _) _) (pw_cell_below HB4.out HH0.out.2.2.1)), (pw_cell_below ((Below.refl _ _).alloc (Nat.le_refl _) _) (pw_cell_below HB4.out HH0.out.2.2.2))⟩ (fun hHeld => ?_)
  clear hK K
  refine norm_ (a' := ?_) ?_ ?_
  rotate_left
  · show Act.put _ (some 17) _ = _
    simp only [Act.put, List.setIfInBounds_toArray, List.set_cons_zero, List.set_cons_succ, i64_w, i32_w]
    rfl
  refine pure_ (i := 15) (N := some 2) (v := ?_) (a' := ?_) #[true, true, true, true, true, true, true, true, true, true, true, true, true, true, true, true] rfl rfl (by kernel_rfl) (fun _ _ _ h => h) (Or.inl ⟨by rfl, ?_⟩) ?_ ?_
  rotate_left
  · intro w'
    go_simp
    with_reducible rfl
  rotate_left
  · simp only [Act.put, List.setIfInBounds_toArray, List.set_cons_zero, List.set_cons_succ, i64_w, i32_w]
    rfl
  refine done_ (by kernel_rfl) ?_
  go_wp2_with fail
  go_ret
  have hsz := HSZ.out
  have hs1 := HBD.out.size
  have hs2 := HB4.out.size
  have hbk := HBK.out
  have hB := HBD.out.trans (HB4.out.mono HBD.out.size)
  subst hbk
  refine ⟨w4.heap.size, rfl, ⟨⟨_, _, A4, c4, _, heap_alloc_new _ _, HROW.out.chg (Chg.alloc (Chg.refl none_ _) _) (fun _ h => h.elim), HL4.out⟩, HL2.out, HRS.out⟩, hB.alloc hB.size _, hB.size⟩
end Go.Proofs.Ytfdjbjinomfgiaa
