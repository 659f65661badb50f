/- The document's own files: Make. -/
import Derived.Test.YtfdjbjinomfgiaaRefA
import Derived.Deep.QuietTactic
import Derived.BigQuiet
namespace Go.Proofs.Ytfdjbjinomfgiaa
open Go.RowKit Go.Proofs.YtfdjbjinomfgiaaW.PrintWords Go.Proofs.YtfdjbjinomfgiaaW.PrintLast Go.Proofs.YtfdjbjinomfgiaaW.PrintMore GrTree
set_option linter.unusedSimpArgs false
set_option linter.unusedVariables false

theorem info_str : (Try.prog.info? 9).map (fun i => (i.zero, i.size, i.bytes)) = some (some (.string ⟨#[]⟩), 1, 16) := by kernel_rfl
section
variable {ops : Array Oper} {a : Act} {o : Oper} {Kc : Act → World → Prop} {Q : Exit → Act → World → Prop} {w0 W : World}
/-- Append, at rows of strings. -/
theorem str_append_step (base : Nat) (hw : Region.wanted o (yielded ops a.tmps) = true) (s x : Operand)
    (ho : o.op = .call { callee := .builtin .append, args := #[s, x], argTypes := #[22, 22] })
    (v : Value) (xs ys : List ByteArray) (A : Option Addr) (m c : Nat) (hs : a.eval s = v) (hx : a.eval x = .slice A m c)
    (HO : Kd.R Kd.string 9 W base (fun _ => True) v xs) (HR : Kd.C Kd.string W A m ys) (HB : Below base w0 W) (hbase : base ≤ W.heap.size) (hl : xs.length + m ≤ 1000000)
    (h : ∀ v1 w1, Kd.R Kd.string 9 w1 base (fun _ => True) v1 (xs ++ ys) → Below base w0 w1 → W.grownBy w1 v.ownBlock → (v1.ownBlock = v.ownBlock ∨ ∃ b, v1.ownBlock = some b ∧ W.heap.size ≤ b) → Kc (a.put o.dst v1) w1) :
    if Region.wanted o (yielded ops a.tmps) = true then Oper.wp Try.prog o a W Kc Q else Kc (a.put o.dst undef) W :=
  Kd.R_append_rows_step Kd.string base hw s x _ _ (.string ⟨#[]⟩) 16 ho Try.underlying22 info_str rfl (by decide) (by omega) v xs ys A m c (fun _ => True) (fun _ => False) hs hx HO HR (fun _ _ h => h) (fun _ h => h.elim) (fun _ _ => trivial) HB hbase (by omega) h
/-- A literal row of strings. -/
theorem str_lit_step (base : Nat) (hw : Region.wanted o (yielded ops a.tmps) = true) {N : Tmp} (hd : o.dst = some N) (xs : List ByteArray)
    (hrun : (execOp a.eval o).run Try.prog W = .ok (.value (.slice (some ⟨W.heap.size, 0, none⟩) xs.length xs.length)) (W.alloc (.cells (encs Value.string xs).toArray 9)))
    (HB : Below base w0 W) (hbase : base ≤ W.heap.size) (hm : xs.length ≤ 9223372036854775807)
    (h : ∀ v1 w1, Kd.R Kd.string 9 w1 base (fun _ => True) v1 xs → Below base w0 w1 → W.grownBy w1 none → (∃ b, v1.ownBlock = some b ∧ W.heap.size ≤ b) → Kc (a.put o.dst v1) w1) :
    if Region.wanted o (yielded ops a.tmps) = true then Oper.wp Try.prog o a W Kc Q else Kc (a.put o.dst undef) W :=
  Kd.R_lit_step Kd.string base _ hw hd (inner := encs Value.string xs) (ok := fun _ => True) (okp := fun _ => False) hrun (Kd.reps_scalar xs) (fun _ h => h.elim) trivial HB hbase hm h
end
theorem new_ne {w : World} {base : Nat} {v u : Value} {xs : List ByteArray} (h : Kd.R Kd.string 9 w base (fun _ => True) v xs) (hu : ∃ b, u.ownBlock = some b ∧ w.heap.size ≤ b) : v.ownBlock ≠ u.ownBlock := by
  obtain ⟨b, hb, hle⟩ := hu
  intro he
  have := ((Kd.R_bound h).1 b (he.trans hb)).2.2.1
  omega
theorem ref_frozen {w : World} {g base : Nat} {L : List ByteArray} (h : RefIs w g base L) : w.frozen? ⟨g, 0, none⟩ = false := by
  obtain ⟨A, c, hb, _⟩ := h.opened
  simp [World.frozen?, hb]
theorem RefIs.store {w : World} {g base b2 : Nat} {old L : List ByteArray} {v : Value} (h : RefIs w g base old) (hR : Kd.R Kd.string 9 w b2 (fun _ => True) v L) (hb : base ≤ b2) : RefIs (w.setCell ⟨g, 0, none⟩ v) g base L := by
  obtain ⟨⟨u, hbox, _⟩, hge⟩ := h
  refine ⟨⟨v, ?_, ?_⟩, hge⟩
  · simp [World.setCell, Array.getElem?_modify, hbox]
  · exact Kd.R_lower (Kd.R_set hR hbox (fun q hq => by
      rcases List.mem_cons.1 hq with rfl | hq
      · decide
      · cases hq) 0 v) hb
theorem tat_eq (s : ByteArray) : ∀ (L : Names) (k : Nat), k ≤ L.length → (∀ x ∈ (L.map Prod.fst).take k, ltB x s = true) → (k = L.length ∨ ltB ((L.map Prod.fst).getD k ByteArray.empty) s = false) → tat L s = k
  | [], k, hk, _, _ => by simp at hk; subst hk; rfl
  | q :: r, 0, _, _, h => by
    have h1 : ltB q.1 s = false := by simpa using h
    unfold tat
    rw [List.takeWhile_cons, if_neg (by simp [h1])]
    rfl
  | q :: r, k + 1, hk, ha, h => by
    have h1 : ltB q.1 s = true := ha q.1 (by simp)
    have ih := tat_eq s r k (by simpa using hk) (fun x hx => ha x (by simp [hx])) (by simpa using h)
    unfold tat at ih ⊢
    rw [List.takeWhile_cons, if_pos h1, List.length_cons, ih]
theorem put_there {L : Names} {s : ByteArray} (h : Rising L) (hg : (tget L s).isSome = true) : tput L s () = L := by
  obtain ⟨v0, hv⟩ := Option.isSome_iff_exists.1 hg
  obtain ⟨b, hb, _⟩ := there_at h hv
  rw [tput_there h hv ()]
  have hb1 : L.drop (tat L s + 1) = b := by rw [← List.drop_drop, hb]; rfl
  rw [hb1]
  have : (s, ()) :: b = L.drop (tat L s) := by rw [hb]
  rw [this, List.take_append_drop]
theorem put_new {L : Names} {s : ByteArray} (h : Rising L) (hg : tget L s = none) {k : Nat} (hk : tat L s = k) : (tput L s ()).map Prod.fst = (L.map Prod.fst).take k ++ s :: (L.map Prod.fst).drop k := by
  rw [tput_new h hg ()]
  subst hk
  simp [List.map_take, List.map_drop]
theorem mem_keys {L : Names} {s : ByteArray} : s ∈ L.map Prod.fst ↔ (tget L s).isSome = true := by
  cases hg : tget L s with
  | none =>
    have := tget_none.1 hg
    simp only [Option.isSome_none, Bool.false_eq_true, iff_false, List.mem_map, not_exists, not_and]
    exact fun p hp => this p hp
  | some v =>
    simp only [Option.isSome_some, iff_true]
    apply Classical.byContradiction
    intro hn
    have : tget L s = none := tget_none.2 (fun p hp he => hn (List.mem_map.2 ⟨p, hp, he⟩))
    rw [hg] at this
    cases this
theorem C_take {w : World} {A : Option Addr} {n : Nat} {xs : List ByteArray} (h : Kd.C Kd.string w A n xs) (k : Nat) (hk : k ≤ n) : Kd.C Kd.string w A k (xs.take k) := by
  have hr := Kd.reads_of_C (d := ByteArray.empty) h
  refine Kd.C_of_reads (d := ByteArray.empty) ⟨by rw [List.length_take]; have := hr.1; omega, by have := hr.2.1; omega, fun h0 => ?_⟩
  obtain ⟨ad, e, hc⟩ := hr.2.2 (by omega)
  refine ⟨ad, e, fun j hj => ?_⟩
  rw [hc j (by omega)]
  simp [List.getD_eq_getElem?_getD, hj]
theorem C_drop {w : World} {ad : Addr} {n : Nat} {xs : List ByteArray} (h : Kd.C Kd.string w (some ad) n xs) (k : Nat) (hk : k ≤ n) : Kd.C Kd.string w (some (ad.add k)) (n - k) (xs.drop k) := by
  have hr := Kd.reads_of_C (d := ByteArray.empty) h
  refine Kd.C_of_reads (d := ByteArray.empty) ⟨by rw [List.length_drop]; have := hr.1; omega, by have := hr.2.1; omega, fun h0 => ⟨_, rfl, fun j hj => ?_⟩⟩
  obtain ⟨ad', e, hc⟩ := hr.2.2 (by omega)
  injection e with e
  subst e
  have := hc (k + j) (by omega)
  rw [show (ad.add k).add j = ad.add (k + j) from by cases ad; by_cases hk0 : k = 0 <;> by_cases hj0 : j = 0 <;> simp [Addr.add, hk0, hj0, Nat.add_assoc]]
  rw [this]
  simp [List.getD_eq_getElem?_getD]

theorem C_drop2 {w : World} {ad : Addr} {n c : Nat} {xs : List ByteArray} (h : Kd.C Kd.string w (some ad) n xs) (k : Nat) (hk : k ≤ n) (hc : n ≤ c) : Kd.C Kd.string w (if c = k then some ad else some (ad.add k)) (n - k) (xs.drop k) := by
  by_cases he : c = k
  · have hr := Kd.reads_of_C (d := ByteArray.empty) h
    have h0 : n - k = 0 := by omega
    exact Kd.C_of_reads (d := ByteArray.empty) ⟨by rw [List.length_drop]; have := hr.1; omega, by omega, fun h1 => by omega⟩
  · rw [if_neg he]
    exact C_drop h k hk

theorem take_all {α : Type} {P : α → Prop} {l : List α} {k : Nat} {d : α} (hk : k < l.length) (h : ∀ s ∈ l.take k, P s) (hx : P (l.getD k d)) : ∀ s ∈ l.take (k + 1), P s := by
  intro s hs
  rw [take_snoc' hk d] at hs
  rcases List.mem_append.1 hs with hs | hs
  · exact h s hs
  · rw [List.mem_singleton.1 hs]; exact hx

set_option maxHeartbeats 4000000 in
set_option maxRecDepth 100000 in
theorem ref_Make (g base : Nat) (L L' : Names) (s : ByteArray) (b : Bool) (w : World) (hr : RefIs w g base (L.map Prod.fst)) (hrise : Rising L) (hl : L.length ≤ 200) (hs : s.size ≤ 1000000) (hR : makeF L s = (b, L')) :
    Calls Try.prog 40 #[.pointer (some ⟨g, 0, none⟩), .string s] w fun e w' => e = .returned (.bool b) ∧ RefIs w' g base (L'.map Prod.fst) ∧ Chg (fun k => k = g) w w' := by
  have HR := Aside0.mk hr
  have HL := Aside0.mk hl
  have HRI := Aside0.mk hrise
  have HS := Aside0.mk hs
  have hlk : (L.map Prod.fst).length ≤ 200 := by simpa using hl
  cases hf : fileOkB s with
  | false =>
    obtain ⟨rfl, rfl⟩ := Prod.mk.inj ((makeF_bad hf).symm.trans hR)
    have HF := Aside0.mk hf
    clear hr hrise hl hs hR hf hlk
    go_enter Try.func40, Try.ntmps40
    go_wp2_with fail
    refine (ref_fileOk s HS.out false HF.out _).mono ?_
    rintro e w1 ⟨rfl, hd⟩
    have HD := Aside0.mk hd
    clear hd
    go_wp2
    go_ret
    exact ⟨rfl, HR.out.below HD.out.below, Chg.of_drawn HD.out _⟩
  | true =>
    have HF := Aside0.mk hf
    cases hg : (tget L s).isSome with
    | true =>
      have hm : makeF L s = (true, L) := by
        have h1 : makeF L s = (true, tput L s ()) := by unfold makeF; rw [if_neg (by simp [hf, hg])]
        rw [h1, put_there hrise hg]
      obtain ⟨rfl, rfl⟩ := Prod.mk.inj (hm.symm.trans hR)
      have HM := Aside0.mk (mem_keys.2 hg)
      have HK := Aside0.mk hlk
      clear hr hrise hl hs hR hf hg hlk hm
      go_enter Try.func40, Try.ntmps40
      go_wp2_with fail
      refine (ref_fileOk s HS.out true HF.out _).mono ?_
      rintro e w1 ⟨rfl, hd⟩
      have HD := Aside0.mk hd
      clear hd
      go_wp2_with fail
      refine (ref_Has g base _ s true _ (HR.out.below HD.out.below) HK.out ⟨fun _ => rfl, fun _ => HM.out⟩).mono ?_
      rintro e w2 ⟨rfl, rfl⟩
      go_wp2
      go_ret
      exact ⟨rfl, HR.out.below HD.out.below, Chg.of_drawn HD.out _⟩
    | false =>
      have hgn : tget L s = none := by cases h : tget L s with | none => rfl | some v => rw [h] at hg; cases hg
      have HM := Aside0.mk (show s ∈ L.map Prod.fst ↔ false = true by rw [mem_keys, hg])
      have HK := Aside0.mk hlk
      have HG := Aside0.mk hgn
      by_cases hfull : 200 ≤ L.length
      · obtain ⟨rfl, rfl⟩ := Prod.mk.inj ((makeF_full hgn hfull).symm.trans hR)
        have hfull' : (200 : Int) ≤ (((L.map Prod.fst).length : Nat) : Int) := by rw [List.length_map]; omega
        clear hr hrise hl hs hR hf hg hlk hgn hfull
        generalize L.map Prod.fst = K at *
        go_enter Try.func40, Try.ntmps40
        go_wp2_with fail
        refine (ref_fileOk s HS.out true HF.out _).mono ?_
        rintro e w1 ⟨rfl, hd⟩
        have HR1 := Aside0.mk (HR.out.below hd.below)
        have HD := Aside0.mk hd
        clear hd HR
        go_wp2_with fail
        refine (ref_Has g base _ s false _ HR1.out HK.out HM.out).mono ?_
        rintro e w2 ⟨rfl, rfl⟩
        obtain ⟨A, c, _, hcell, _, _, _⟩ := HR1.out.opened
        go_wp2
        go_ret
        exact ⟨rfl, HR1.out, Chg.of_drawn HD.out _⟩
      · obtain ⟨rfl, rfl⟩ := Prod.mk.inj ((makeF_put hf (by omega)).symm.trans hR)
        have hlt2 : (((L.map Prod.fst).length : Nat) : Int) < 200 := by rw [List.length_map]; omega
        have HT := Aside0.mk (fun k => tat_eq s L k)
        have HP := Aside0.mk (fun k (hk : tat L s = k) => put_new hrise hgn hk)
        have HLL := Aside0.mk (show (L.map Prod.fst).length = L.length by simp)
        clear hr hrise hl hs hR hf hg hlk hgn hfull
        generalize hK : L.map Prod.fst = Z at *
        clear hK
        go_enter Try.func40, Try.ntmps40
        go_wp2_with fail
        refine (ref_fileOk s HS.out true HF.out _).mono ?_
        rintro e w1 ⟨rfl, hd⟩
        have HR1 := Aside0.mk (HR.out.below hd.below)
        have HD := Aside0.mk hd
        clear hd HR
        go_wp2_with fail
        refine (ref_Has g base _ s false _ HR1.out HK.out HM.out).mono ?_
        rintro e w2 ⟨rfl, rfl⟩
        obtain ⟨A, c, hbox, hcell, hRR, hC, hlc⟩ := HR1.out.opened
        have HBOX := Aside0.mk hbox
        have HRR := Aside0.mk hRR
        have HC := Aside0.mk hC
        have HLC := Aside0.mk hlc
        have hlc' : (Z.length : Int) ≤ (c : Int) := by omega
        clear hbox hRR hC hlc
        go_wp2_with fail
        go_loop [5] (fun i => ∃ k : Nat, k ≤ Z.length ∧ i = .int .i64 k ∧ Aside0 (∀ x ∈ Z.take k, ltB x s = true)) (fun i => Z.length - (intOf i).toNat)
        case atStart => exact ⟨0, Nat.zero_le _, rfl, ⟨by simp⟩⟩
        case round =>
          obtain ⟨k, hk, rfl, HN⟩ := hrel
          have hstep : (∃ ad x, k < Z.length ∧ A = some ad ∧ w2.cell? (ad.add k) = some (.string x) ∧ Z.getD k ByteArray.empty = x ∧ ltB x s = true) ∨ (∃ ad x, (k < Z.length ∧ tat L s = k) ∧ A = some ad ∧ w2.cell? (ad.add k) = some (.string x) ∧ ltB x s = false) ∨ (k = Z.length ∧ tat L s = k) := by
            by_cases hlt : k < Z.length
            · obtain ⟨ad, e, hx⟩ := str_at HC.out hlt
              cases hb : ltB (Z.getD k ByteArray.empty) s with
              | true => exact .inl ⟨ad, _, hlt, e, hx, rfl, hb⟩
              | false => exact .inr (.inl ⟨ad, _, ⟨hlt, HT.out k (by have := HLL.out; omega) HN.out (.inr hb)⟩, e, hx, hb⟩)
            · have he : k = Z.length := by omega
              exact .inr (.inr ⟨he, HT.out k (by have := HLL.out; omega) HN.out (.inl (he.trans HLL.out))⟩)
          rcases hstep with ⟨ad, x, hlt, rfl, hx, hxx, hb⟩ | hexit
          · have hlt' : (k : Int) < (Z.length : Int) := by omega
            have HLT := Aside0.mk hlt
            have HN1 := Aside0.mk (take_all (P := fun x => ltB x s = true) (d := ByteArray.empty) hlt HN.out (by rw [hxx]; exact hb))
            have hb1 : Op.bytesLess x.toList s.toList = true := by rw [bytesLess_ltB]; exact hb
            clear hlt hb hxx
            go_wp2
            go_round
            case rel => exact ⟨k + 1, HLT.out, by go_num, HN1⟩
            case measure => have := HLT.out; simp [intOf]; omega
          · have HKK := Aside0.mk (show k ≤ Z.length ∧ Z.length ≤ 200 from ⟨hk, HK.out⟩)
            have hk' : (k : Int) ≤ (Z.length : Int) := by omega
            have hk0 : (0 : Int) ≤ (k : Int) := by omega
            have hkc : (k : Int) ≤ (c : Int) := by omega
            rcases A with _ | ad
            · obtain ⟨inner, hown⟩ := Kd.R_own HRR.out
              have hz : Z.length = 0 ∧ c = 0 := by
                rcases hown.2 with ⟨he, _⟩ | ⟨g2, cap, cur, he, _⟩
                · injection he with _ h1 h2
                  exact ⟨h1, h2⟩
                · injection he with h1
                  cases h1
              obtain ⟨hz1, rfl⟩ := hz
              obtain rfl : Z = [] := List.eq_nil_of_length_eq_zero hz1
              obtain rfl : k = 0 := by simpa using hk
              have HTA : Aside0 (tat L s = 0) := by
                rcases hexit with ⟨ad, x, ⟨h1, h2⟩, e, _⟩ | ⟨h1, h2⟩
                · cases e
                · exact ⟨h2⟩
              clear hexit hk hown hz1 hk' hk0 hkc hlc' hlt2
              simp only [List.length_nil] at hcell
              go_wp2_with fail
              refine start_ (n := 22) (S := fun w' => w'.cell? ⟨g, 0, none⟩ = some (.slice none 0 0)) (ds := [21]) #[false, false, false, false, false, false, false, false, false, false, false, false, false, false, false, false, false, false, false, false, false, false] (by kernel_rfl) rfl rfl (hcell) (fun hHeld => ?_)
              have hbd : Below w2.heap.size w2 w2.drew := Drawn0.below ⟨1, rfl⟩; have HCD := Aside0.mk (Kd.C_below HC.out hbd); have HRD := Aside0.mk (HR1.out.below hbd); have HBD := Aside0.mk hbd; clear hbd; have HH0 := Aside0.mk hHeld; generalize w2.drew = wd at HCD HRD HBD HH0 hHeld ⊢
              refine pure_ (i := 0) (N := some 38) (v := ?_) (a' := ?_) #[true, false, false, false, false, false, false, false, false, false, false, false, false, false, false, false, false, false, false, false, false, false] rfl rfl (by kernel_rfl) (fun _ _ _ h => h) (Or.inl ⟨by rfl, ?_⟩) ?_ ?_
              rotate_left
              · intro w'
                go_simp
                with_reducible rfl
              rotate_left
              · simp only [Act.put, List.setIfInBounds_toArray, List.set_cons_zero, List.set_cons_succ, i64_w, i32_w]
                rfl
              refine pure_ (i := 2) (N := some 40) (v := ?_) (a' := ?_) #[true, false, true, false, false, false, false, false, false, false, false, false, false, false, false, false, false, false, false, false, false, false] rfl rfl (by kernel_rfl) (fun _ _ _ h => h) (Or.inl ⟨by rfl, ?_⟩) ?_ ?_
              rotate_left
              · intro w'
                go_simp
                with_reducible rfl
              rotate_left
              · simp only [Act.put, List.setIfInBounds_toArray, List.set_cons_zero, List.set_cons_succ, i64_w, i32_w]
                rfl
              refine pure_ (i := 3) (N := some 41) (v := ?_) (a' := ?_) #[true, false, true, true, false, false, false, false, false, false, false, false, false, false, false, false, false, false, false, false, false, false] rfl rfl (by kernel_rfl) (fun _ _ _ h => h) (Or.inl ⟨by rfl, ?_⟩) ?_ ?_
              rotate_left
              · intro w'
                go_simp
                with_reducible rfl
              rotate_left
              · simp only [Act.put, List.setIfInBounds_toArray, List.set_cons_zero, List.set_cons_succ, i64_w, i32_w]
                rfl
              refine pure_ (i := 4) (N := some 42) (v := ?_) (a' := ?_) #[true, false, true, true, true, false, false, false, false, false, false, false, false, false, false, false, false, false, false, false, false, false] rfl rfl (by kernel_rfl) (fun _ _ _ h => h) (Or.inl ⟨by rfl, ?_⟩) ?_ ?_
              rotate_left
              · intro w'
                go_simp
                with_reducible rfl
              rotate_left
              · simp only [Act.put, List.setIfInBounds_toArray, List.set_cons_zero, List.set_cons_succ, i64_w, i32_w]
                rfl
              refine pure_ (i := 6) (N := some 44) (v := ?_) (a' := ?_) #[true, false, true, true, true, false, true, false, false, false, false, false, false, false, false, false, false, false, false, false, false, false] rfl rfl (by kernel_rfl) (fun _ _ _ h => h) (Or.inl ⟨by rfl, ?_⟩) ?_ ?_
              rotate_left
              · intro w'
                go_simp
                with_reducible rfl
              rotate_left
              · simp only [Act.put, List.setIfInBounds_toArray, List.set_cons_zero, List.set_cons_succ, i64_w, i32_w]
                rfl
              refine pure_ (i := 9) (N := some 47) (v := ?_) (a' := ?_) #[true, false, true, true, true, false, true, false, false, true, false, false, false, false, false, false, false, false, false, false, false, false] rfl rfl (by kernel_rfl) (fun _ _ _ h => h) (Or.inl ⟨by rfl, ?_⟩) ?_ ?_
              rotate_left
              · intro w'
                go_simp
                with_reducible rfl
              rotate_left
              · simp only [Act.put, List.setIfInBounds_toArray, List.set_cons_zero, List.set_cons_succ, i64_w, i32_w]
                rfl
              refine pure_ (i := 12) (N := some 50) (v := ?_) (a' := ?_) #[true, false, true, true, true, false, true, false, false, true, false, false, true, false, false, false, false, false, false, false, false, false] rfl rfl (by kernel_rfl) (fun _ _ _ h => h) (Or.inl ⟨by rfl, ?_⟩) ?_ ?_
              rotate_left
              · intro w'
                go_simp
                with_reducible rfl
              rotate_left
              · simp only [Act.put, List.setIfInBounds_toArray, List.set_cons_zero, List.set_cons_succ, i64_w, i32_w]
                rfl
              refine pure_ (i := 13) (N := some 51) (v := ?_) (a' := ?_) #[true, false, true, true, true, false, true, false, false, true, false, false, true, true, false, false, false, false, false, false, false, false] rfl rfl (by kernel_rfl) (fun _ _ _ h => h) (Or.inl ⟨by rfl, ?_⟩) ?_ ?_
              rotate_left
              · intro w'
                go_simp
                with_reducible rfl
              rotate_left
              · simp only [Act.put, List.setIfInBounds_toArray, List.set_cons_zero, List.set_cons_succ, i64_w, i32_w]
                rfl
              refine pure_ (i := 14) (N := some 52) (v := ?_) (a' := ?_) #[true, false, true, true, true, false, true, false, false, true, false, false, true, true, true, false, false, false, false, false, false, false] rfl rfl (by kernel_rfl) (fun _ _ _ h => h) (Or.inl ⟨by rfl, ?_⟩) ?_ ?_
              rotate_left
              · intro w'
                go_simp
                with_reducible rfl
              rotate_left
              · simp only [Act.put, List.setIfInBounds_toArray, List.set_cons_zero, List.set_cons_succ, i64_w, i32_w]
                rfl
              refine pure_ (i := 16) (N := some 54) (v := ?_) (a' := ?_) #[true, false, true, true, true, false, true, false, false, true, false, false, true, true, true, false, true, false, false, false, false, false] rfl rfl (by kernel_rfl) (fun _ _ _ h => h) (Or.inl ⟨by rfl, ?_⟩) ?_ ?_
              rotate_left
              · intro w'
                go_simp
                with_reducible rfl
              rotate_left
              · simp only [Act.put, List.setIfInBounds_toArray, List.set_cons_zero, List.set_cons_succ, i64_w, i32_w]
                rfl
              refine take_ (i := 5) (N := some 43) (v := ?_) (a' := ?_) #[true, false, true, true, true, true, true, false, false, true, false, false, true, true, true, false, true, false, false, false, false, false] rfl rfl (by kernel_rfl) (fun _ _ _ h => h) (Or.inl ⟨by rfl, ?_⟩) hHeld ?_ ?_
              rotate_left
              · intro w' s0
                go_simp
                with_reducible rfl
              rotate_left
              · simp only [Act.put, List.setIfInBounds_toArray, List.set_cons_zero, List.set_cons_succ, i64_w, i32_w]
                rfl
              refine pure_ (i := 7) (N := some 45) (v := ?_) (a' := ?_) #[true, false, true, true, true, true, true, true, false, true, false, false, true, true, true, false, true, false, false, false, false, false] rfl rfl (by kernel_rfl) (fun _ _ _ h => h) (Or.inl ⟨by rfl, ?_⟩) ?_ ?_
              rotate_left
              · intro w'
                go_simp
                with_reducible rfl
              rotate_left
              · simp only [Act.put, List.setIfInBounds_toArray, List.set_cons_zero, List.set_cons_succ, i64_w, i32_w]
                rfl
              refine take_ (i := 15) (N := some 53) (v := ?_) (a' := ?_) #[true, false, true, true, true, true, true, true, false, true, false, false, true, true, true, true, true, false, false, false, false, false] rfl rfl (by kernel_rfl) (fun _ _ _ h => h) (Or.inl ⟨by rfl, ?_⟩) hHeld ?_ ?_
              rotate_left
              · intro w' s0
                go_simp
                with_reducible rfl
              rotate_left
              · simp only [Act.put, List.setIfInBounds_toArray, List.set_cons_zero, List.set_cons_succ, i64_w, i32_w]
                rfl
              refine pure_ (i := 17) (N := some 55) (v := ?_) (a' := ?_) #[true, false, true, true, true, true, true, true, false, true, false, false, true, true, true, true, true, true, false, false, false, false] rfl rfl (by kernel_rfl) (fun _ _ _ h => h) (Or.inl ⟨by rfl, ?_⟩) ?_ ?_
              rotate_left
              · intro w'
                go_simp
                with_reducible rfl
              rotate_left
              · simp only [Act.put, List.setIfInBounds_toArray, List.set_cons_zero, List.set_cons_succ, i64_w, i32_w]
                rfl
              refine join_ (σ := Value × Value × Value) 5 #[true, true, true, true, true, true, true, true, true, true, true, false, true, true, true, true, true, true, false, false, false, false] (fun p => [(39, p.1), (46, p.2.1), (48, p.2.2)]) (fun p w' => Kd.R Kd.string 9 w' wd.heap.size (fun _ => True) p.2.1 (([] : List ByteArray)) ∧ Kd.R Kd.string 9 w' wd.heap.size (fun _ => True) p.2.2 [s] ∧ Below wd.heap.size wd w') ?_ ?_
              rotate_left
              · intro hCont
                refine two_ (i := 1) (j := 10) (Ni := some 39) (Nj := some 48) #[true, true, true, true, true, true, true, true, false, true, false, false, true, true, true, true, true, true, false, false, false, false] #[true, false, true, true, true, true, true, true, false, true, true, false, true, true, true, true, true, true, false, false, false, false] rfl rfl rfl rfl (by kernel_rfl) (by decide) (by decide) (fun K hK => ?_) (fun K hK => ?_)
                · skip
                  refine str_lit_step wd.heap.size (by rfl) rfl [] (by first | (go_simp; done) | (go_simp; rfl)) (Below.refl _ _) (Nat.le_refl _) (by simp) ?_
                  intro v39 wa hRa hBa hGa hFa
                  have HRa := Aside0.mk hRa
                  have HBa := Aside0.mk hBa
                  have HFa := Aside0.mk hFa
                  clear hRa hBa hGa hFa
                  refine hK.out _ _ (pw_cell_below HBa.out HH0.out) (fun hHeld => ?_)
                  clear hK K
                  refine norm_ (a' := ?_) ?_ ?_
                  rotate_left
                  · show Act.put _ (some 39) _ = _
                    simp only [Act.put, List.setIfInBounds_toArray, List.set_cons_zero, List.set_cons_succ, i64_w, i32_w]
                    rfl
                  refine two_ (i := 8) (j := 10) (Ni := some 46) (Nj := some 48) #[true, true, true, true, true, true, true, true, true, true, false, false, true, true, true, true, true, true, false, false, false, false] #[true, true, true, true, true, true, true, true, false, true, true, false, true, true, true, true, true, true, false, false, false, false] rfl rfl rfl rfl (by kernel_rfl) (by decide) (by decide) (fun K hK => ?_) (fun K hK => ?_)
                  · skip
                    refine str_append_step wd.heap.size (by rfl) (.tmp 39) (.tmp 45) rfl v39 [] (([] : List ByteArray)) _ _ _ rfl rfl HRa.out (Kd.C_nil _ _) HBa.out HBa.out.size (by have := HKK.out; simp <;> omega) ?_
                    intro v46 wb hRb hBb hGb hAb
                    have HRb := Aside0.mk hRb
                    have HBb := Aside0.mk hBb
                    clear hRb hBb hGb hAb
                    refine hK.out _ _ (pw_cell_below HBb.out HH0.out) (fun hHeld => ?_)
                    clear hK K
                    refine norm_ (a' := ?_) ?_ ?_
                    rotate_left
                    · show Act.put _ (some 46) _ = _
                      simp only [Act.put, List.setIfInBounds_toArray, List.set_cons_zero, List.set_cons_succ, i64_w, i32_w]
                      rfl
                    refine one_ (i := 10) (N := some 48) #[true, true, true, true, true, true, true, true, true, true, true, false, true, true, true, true, true, true, false, false, false, false] rfl rfl (by kernel_rfl) (by decide) (fun K hK => ?_)
                    refine str_lit_step wd.heap.size (by rfl) rfl [s] (by first | (go_simp; done) | (go_simp; rfl)) HBb.out HBb.out.size (by simp) ?_
                    intro v48 wc hRc hBc hGc hFc
                    have HRc := Aside0.mk hRc
                    have HBc := Aside0.mk hBc
                    have HGc := Aside0.mk hGc
                    clear hRc hBc hGc hFc
                    refine hK.out _ _ (pw_cell_below HBc.out HH0.out) (fun hHeld => ?_)
                    clear hK K
                    refine norm_ (a' := ?_) ?_ ?_
                    rotate_left
                    · show Act.put _ (some 48) _ = _
                      simp only [Act.put, List.setIfInBounds_toArray, List.set_cons_zero, List.set_cons_succ, i64_w, i32_w]
                      rfl
                    exact norm_ (by simp only [putAll, Act.put, List.setIfInBounds_toArray, List.set_cons_zero, List.set_cons_succ]) (hCont (v39, v46, v48) _ ⟨Kd.R_grown HRb.out HGc.out (fun _ _ => by simp), HRc.out, HBc.out⟩)
                  · skip
                    refine str_lit_step wd.heap.size (by rfl) rfl [s] (by first | (go_simp; done) | (go_simp; rfl)) HBa.out HBa.out.size (by simp) ?_
                    intro v48 wb hRb hBb hGb hFb
                    have HRb := Aside0.mk hRb
                    have HBb := Aside0.mk hBb
                    have HFb := Aside0.mk hFb
                    have HRa2 := Aside0.mk (Kd.R_grown HRa.out hGb (fun _ _ => by simp))
                    clear hRb hBb hGb hFb
                    refine hK.out _ _ (pw_cell_below HBb.out HH0.out) (fun hHeld => ?_)
                    clear hK K
                    refine norm_ (a' := ?_) ?_ ?_
                    rotate_left
                    · show Act.put _ (some 48) _ = _
                      simp only [Act.put, List.setIfInBounds_toArray, List.set_cons_zero, List.set_cons_succ, i64_w, i32_w]
                      rfl
                    refine one_ (i := 8) (N := some 46) #[true, true, true, true, true, true, true, true, true, true, true, false, true, true, true, true, true, true, false, false, false, false] rfl rfl (by kernel_rfl) (by decide) (fun K hK => ?_)
                    refine str_append_step wd.heap.size (by rfl) (.tmp 39) (.tmp 45) rfl v39 [] (([] : List ByteArray)) _ _ _ rfl rfl HRa2.out (Kd.C_nil _ _) HBb.out HBb.out.size (by have := HKK.out; simp <;> omega) ?_
                    intro v46 wc hRc hBc hGc hAc
                    have HRc := Aside0.mk hRc
                    have HBc := Aside0.mk hBc
                    have HGc := Aside0.mk hGc
                    clear hRc hBc hGc hAc
                    refine hK.out _ _ (pw_cell_below HBc.out HH0.out) (fun hHeld => ?_)
                    clear hK K
                    refine norm_ (a' := ?_) ?_ ?_
                    rotate_left
                    · show Act.put _ (some 46) _ = _
                      simp only [Act.put, List.setIfInBounds_toArray, List.set_cons_zero, List.set_cons_succ, i64_w, i32_w]
                      rfl
                    exact norm_ (by simp only [putAll, Act.put, List.setIfInBounds_toArray, List.set_cons_zero, List.set_cons_succ]) (hCont (v39, v46, v48) _ ⟨HRc.out, Kd.R_grown1 HRb.out rfl HGc.out (new_ne HRa.out HFb.out), HBc.out⟩)
                · skip
                  refine str_lit_step wd.heap.size (by rfl) rfl [s] (by first | (go_simp; done) | (go_simp; rfl)) (Below.refl _ _) (Nat.le_refl _) (by simp) ?_
                  intro v48 wa hRa hBa hGa hFa
                  have HRa := Aside0.mk hRa
                  have HBa := Aside0.mk hBa
                  have HFa := Aside0.mk hFa
                  clear hRa hBa hGa hFa
                  refine hK.out _ _ (pw_cell_below HBa.out HH0.out) (fun hHeld => ?_)
                  clear hK K
                  refine norm_ (a' := ?_) ?_ ?_
                  rotate_left
                  · show Act.put _ (some 48) _ = _
                    simp only [Act.put, List.setIfInBounds_toArray, List.set_cons_zero, List.set_cons_succ, i64_w, i32_w]
                    rfl
                  refine one_ (i := 1) (N := some 39) #[true, true, true, true, true, true, true, true, false, true, true, false, true, true, true, true, true, true, false, false, false, false] rfl rfl (by kernel_rfl) (by decide) (fun K hK => ?_)
                  refine str_lit_step wd.heap.size (by rfl) rfl [] (by first | (go_simp; done) | (go_simp; rfl)) HBa.out HBa.out.size (by simp) ?_
                  intro v39 wb hRb hBb hGb hFb
                  have HRb := Aside0.mk hRb
                  have HBb := Aside0.mk hBb
                  have HFb := Aside0.mk hFb
                  have HRa2 := Aside0.mk (Kd.R_grown HRa.out hGb (fun _ _ => by simp))
                  clear hRb hBb hGb hFb
                  refine hK.out _ _ (pw_cell_below HBb.out HH0.out) (fun hHeld => ?_)
                  clear hK K
                  refine norm_ (a' := ?_) ?_ ?_
                  rotate_left
                  · show Act.put _ (some 39) _ = _
                    simp only [Act.put, List.setIfInBounds_toArray, List.set_cons_zero, List.set_cons_succ, i64_w, i32_w]
                    rfl
                  refine one_ (i := 8) (N := some 46) #[true, true, true, true, true, true, true, true, true, true, true, false, true, true, true, true, true, true, false, false, false, false] rfl rfl (by kernel_rfl) (by decide) (fun K hK => ?_)
                  refine str_append_step wd.heap.size (by rfl) (.tmp 39) (.tmp 45) rfl v39 [] (([] : List ByteArray)) _ _ _ rfl rfl HRb.out (Kd.C_nil _ _) HBb.out HBb.out.size (by have := HKK.out; simp <;> omega) ?_
                  intro v46 wc hRc hBc hGc hAc
                  have HRc := Aside0.mk hRc
                  have HBc := Aside0.mk hBc
                  have HGc := Aside0.mk hGc
                  clear hRc hBc hGc hAc
                  refine hK.out _ _ (pw_cell_below HBc.out HH0.out) (fun hHeld => ?_)
                  clear hK K
                  refine norm_ (a' := ?_) ?_ ?_
                  rotate_left
                  · show Act.put _ (some 46) _ = _
                    simp only [Act.put, List.setIfInBounds_toArray, List.set_cons_zero, List.set_cons_succ, i64_w, i32_w]
                    rfl
                  exact norm_ (by simp only [putAll, Act.put, List.setIfInBounds_toArray, List.set_cons_zero, List.set_cons_succ]) (hCont (v39, v46, v48) _ ⟨HRc.out, Kd.R_grown1 HRa2.out rfl HGc.out (new_ne HRa.out HFb.out).symm, HBc.out⟩)
              rintro ⟨v39, v46, v48⟩ wf ⟨hf46, hf48, hfB⟩
              obtain ⟨A48, c48, rfl, _, hC48⟩ := Kd.R_reads hf48
              have HF46 := Aside0.mk hf46
              have HFC := Aside0.mk hC48
              have HFB := Aside0.mk hfB
              have hHeld := pw_cell_below hfB HH0.out
              clear hf46 hf48 hfB hC48
              refine norm_ (a' := ?_) ?_ ?_
              rotate_left
              · simp only [putAll, Act.put, List.setIfInBounds_toArray, List.set_cons_zero, List.set_cons_succ]
                rfl
              refine one_ (i := 11) (N := some 49) #[true, true, true, true, true, true, true, true, true, true, true, true, true, true, true, true, true, true, false, false, false, false] rfl rfl (by kernel_rfl) (by decide) (fun K hK => ?_)
              refine str_append_step wd.heap.size (by rfl) (.tmp 46) (.tmp 48) rfl v46 (([] : List ByteArray)) [s] _ _ _ rfl rfl HF46.out HFC.out HFB.out HFB.out.size (by have := HKK.out; simp <;> omega) ?_
              intro v49 wx hRx hBx hGx hAx
              have HRx := Aside0.mk hRx
              have HBx := Aside0.mk hBx
              clear hRx hBx hGx hAx
              refine hK.out _ _ (pw_cell_below HBx.out HH0.out) (fun hHeld => ?_)
              clear hK K
              refine norm_ (a' := ?_) ?_ ?_
              rotate_left
              · show Act.put _ (some 49) _ = _
                simp only [Act.put, List.setIfInBounds_toArray, List.set_cons_zero, List.set_cons_succ, i64_w, i32_w]
                rfl
              refine one_ (i := 18) (N := some 56) #[true, true, true, true, true, true, true, true, true, true, true, true, true, true, true, true, true, true, true, false, false, false] rfl rfl (by kernel_rfl) (by decide) (fun K hK => ?_)
              refine str_append_step wd.heap.size (by rfl) (.tmp 49) (.tmp 55) rfl v49 (([] : List ByteArray) ++ [s]) (([] : List ByteArray)) _ _ _ rfl rfl HRx.out (Kd.C_nil _ _) HBx.out HBx.out.size (by have := HKK.out; simp <;> omega) ?_
              intro v56 wy hRy hBy hGy hAy
              obtain ⟨A56, c56, rfl, _, _⟩ := Kd.R_reads hRy
              have HRy := Aside0.mk hRy
              have HBy := Aside0.mk hBy
              clear hRy hBy hGy hAy
              have hfz := ref_frozen (HRD.out.below HBy.out)
              refine hK.out _ _ (pw_cell_below HBy.out HH0.out) (fun hHeld => ?_)
              clear hK K
              refine norm_ (a' := ?_) ?_ ?_
              rotate_left
              · show Act.put _ (some 56) _ = _
                simp only [Act.put, List.setIfInBounds_toArray, List.set_cons_zero, List.set_cons_succ, i64_w, i32_w]
                rfl
              refine pure_ (i := 19) (N := some 57) (v := ?_) (a' := ?_) #[true, true, true, true, true, true, true, true, true, true, true, true, true, true, true, true, true, true, true, true, false, false] rfl rfl (by kernel_rfl) (fun _ _ _ h => h) (Or.inl ⟨by rfl, ?_⟩) ?_ ?_
              rotate_left
              · intro w'
                go_simp
                with_reducible rfl
              rotate_left
              · simp only [Act.put, List.setIfInBounds_toArray, List.set_cons_zero, List.set_cons_succ, i64_w, i32_w]
                rfl
              refine pure_ (i := 20) (N := some 58) (v := ?_) (a' := ?_) #[true, true, true, true, true, true, true, true, true, true, true, true, true, true, true, true, true, true, true, true, true, false] rfl rfl (by kernel_rfl) (fun _ _ _ h => h) (Or.inl ⟨by rfl, ?_⟩) ?_ ?_
              rotate_left
              · intro w'
                go_simp
                with_reducible rfl
              rotate_left
              · simp only [Act.put, List.setIfInBounds_toArray, List.set_cons_zero, List.set_cons_succ, i64_w, i32_w]
                rfl
              refine last_ (i := 21) (N := none) #[true, true, true, true, true, true, true, true, true, true, true, true, true, true, true, true, true, true, true, true, true, true] rfl rfl (by kernel_rfl) (by decide) (fun K hK => ?_)
              refine skip_ (w1 := ?_) (by rfl) rfl ?_ ?_
              rotate_left
              · go_simp
                rfl
              refine hK.out _ _ ?_
              clear hK K
              refine done_ (by kernel_rfl) ?_
              go_wp2_with fail
              go_ret
              refine ⟨rfl, ?_, ((((Chg.of_drawn HD.out (fun k => k = g)).below HBD.out).below HBy.out).setCell (p := ⟨g, 0, none⟩) (.inl rfl) _)⟩
              rw [HP.out 0 HTA.out]
              exact (HRD.out.below HBy.out).store HRy.out (Nat.le_trans HRD.out.ge (Nat.le_of_lt HRD.out.lt))
            · have hex2 : Aside0 (tat L s = k) ∧ ((∃ x, (k : Int) < (Z.length : Int) ∧ w2.cell? (ad.add k) = some (.string x) ∧ Op.bytesLess x.toList s.toList = false) ∨ (Z.length : Int) ≤ (k : Int)) := by
                rcases hexit with ⟨ad', x, ⟨h1, h2⟩, e, hx, hb⟩ | ⟨h1, h2⟩
                · injection e with e
                  subst e
                  exact ⟨⟨h2⟩, .inl ⟨x, by omega, hx, by rw [bytesLess_ltB]; exact hb⟩⟩
                · exact ⟨⟨h2⟩, .inr (by omega)⟩
              obtain ⟨HTA, hex2⟩ := hex2
              clear hexit hk
              rcases hex2 with ⟨x, hlt', hx, hb1⟩ | hge <;> (
                go_wp2_with fail
                refine start_ (n := 22) (S := fun w' => w'.cell? ⟨g, 0, none⟩ = some (.slice (some ad) Z.length c)) (ds := [21]) #[false, false, false, false, false, false, false, false, false, false, false, false, false, false, false, false, false, false, false, false, false, false] (by kernel_rfl) rfl rfl (hcell) (fun hHeld => ?_)
                have hbd : Below w2.heap.size w2 w2.drew := Drawn0.below ⟨1, rfl⟩; have HCD := Aside0.mk (Kd.C_below HC.out hbd); have HRD := Aside0.mk (HR1.out.below hbd); have HBD := Aside0.mk hbd; clear hbd; have HH0 := Aside0.mk hHeld; generalize w2.drew = wd at HCD HRD HBD HH0 hHeld ⊢
                refine pure_ (i := 0) (N := some 38) (v := ?_) (a' := ?_) #[true, false, false, false, false, false, false, false, false, false, false, false, false, false, false, false, false, false, false, false, false, false] rfl rfl (by kernel_rfl) (fun _ _ _ h => h) (Or.inl ⟨by rfl, ?_⟩) ?_ ?_
                rotate_left
                · intro w'
                  go_simp
                  with_reducible rfl
                rotate_left
                · simp only [Act.put, List.setIfInBounds_toArray, List.set_cons_zero, List.set_cons_succ, i64_w, i32_w]
                  rfl
                refine pure_ (i := 2) (N := some 40) (v := ?_) (a' := ?_) #[true, false, true, false, false, false, false, false, false, false, false, false, false, false, false, false, false, false, false, false, false, false] rfl rfl (by kernel_rfl) (fun _ _ _ h => h) (Or.inl ⟨by rfl, ?_⟩) ?_ ?_
                rotate_left
                · intro w'
                  go_simp
                  with_reducible rfl
                rotate_left
                · simp only [Act.put, List.setIfInBounds_toArray, List.set_cons_zero, List.set_cons_succ, i64_w, i32_w]
                  rfl
                refine pure_ (i := 3) (N := some 41) (v := ?_) (a' := ?_) #[true, false, true, true, false, false, false, false, false, false, false, false, false, false, false, false, false, false, false, false, false, false] rfl rfl (by kernel_rfl) (fun _ _ _ h => h) (Or.inl ⟨by rfl, ?_⟩) ?_ ?_
                rotate_left
                · intro w'
                  go_simp
                  with_reducible rfl
                rotate_left
                · simp only [Act.put, List.setIfInBounds_toArray, List.set_cons_zero, List.set_cons_succ, i64_w, i32_w]
                  rfl
                refine pure_ (i := 4) (N := some 42) (v := ?_) (a' := ?_) #[true, false, true, true, true, false, false, false, false, false, false, false, false, false, false, false, false, false, false, false, false, false] rfl rfl (by kernel_rfl) (fun _ _ _ h => h) (Or.inl ⟨by rfl, ?_⟩) ?_ ?_
                rotate_left
                · intro w'
                  go_simp
                  with_reducible rfl
                rotate_left
                · simp only [Act.put, List.setIfInBounds_toArray, List.set_cons_zero, List.set_cons_succ, i64_w, i32_w]
                  rfl
                refine pure_ (i := 6) (N := some 44) (v := ?_) (a' := ?_) #[true, false, true, true, true, false, true, false, false, false, false, false, false, false, false, false, false, false, false, false, false, false] rfl rfl (by kernel_rfl) (fun _ _ _ h => h) (Or.inl ⟨by rfl, ?_⟩) ?_ ?_
                rotate_left
                · intro w'
                  go_simp
                  with_reducible rfl
                rotate_left
                · simp only [Act.put, List.setIfInBounds_toArray, List.set_cons_zero, List.set_cons_succ, i64_w, i32_w]
                  rfl
                refine pure_ (i := 9) (N := some 47) (v := ?_) (a' := ?_) #[true, false, true, true, true, false, true, false, false, true, false, false, false, false, false, false, false, false, false, false, false, false] rfl rfl (by kernel_rfl) (fun _ _ _ h => h) (Or.inl ⟨by rfl, ?_⟩) ?_ ?_
                rotate_left
                · intro w'
                  go_simp
                  with_reducible rfl
                rotate_left
                · simp only [Act.put, List.setIfInBounds_toArray, List.set_cons_zero, List.set_cons_succ, i64_w, i32_w]
                  rfl
                refine pure_ (i := 12) (N := some 50) (v := ?_) (a' := ?_) #[true, false, true, true, true, false, true, false, false, true, false, false, true, false, false, false, false, false, false, false, false, false] rfl rfl (by kernel_rfl) (fun _ _ _ h => h) (Or.inl ⟨by rfl, ?_⟩) ?_ ?_
                rotate_left
                · intro w'
                  go_simp
                  with_reducible rfl
                rotate_left
                · simp only [Act.put, List.setIfInBounds_toArray, List.set_cons_zero, List.set_cons_succ, i64_w, i32_w]
                  rfl
                refine pure_ (i := 13) (N := some 51) (v := ?_) (a' := ?_) #[true, false, true, true, true, false, true, false, false, true, false, false, true, true, false, false, false, false, false, false, false, false] rfl rfl (by kernel_rfl) (fun _ _ _ h => h) (Or.inl ⟨by rfl, ?_⟩) ?_ ?_
                rotate_left
                · intro w'
                  go_simp
                  with_reducible rfl
                rotate_left
                · simp only [Act.put, List.setIfInBounds_toArray, List.set_cons_zero, List.set_cons_succ, i64_w, i32_w]
                  rfl
                refine pure_ (i := 14) (N := some 52) (v := ?_) (a' := ?_) #[true, false, true, true, true, false, true, false, false, true, false, false, true, true, true, false, false, false, false, false, false, false] rfl rfl (by kernel_rfl) (fun _ _ _ h => h) (Or.inl ⟨by rfl, ?_⟩) ?_ ?_
                rotate_left
                · intro w'
                  go_simp
                  with_reducible rfl
                rotate_left
                · simp only [Act.put, List.setIfInBounds_toArray, List.set_cons_zero, List.set_cons_succ, i64_w, i32_w]
                  rfl
                refine pure_ (i := 16) (N := some 54) (v := ?_) (a' := ?_) #[true, false, true, true, true, false, true, false, false, true, false, false, true, true, true, false, true, false, false, false, false, false] rfl rfl (by kernel_rfl) (fun _ _ _ h => h) (Or.inl ⟨by rfl, ?_⟩) ?_ ?_
                rotate_left
                · intro w'
                  go_simp
                  with_reducible rfl
                rotate_left
                · simp only [Act.put, List.setIfInBounds_toArray, List.set_cons_zero, List.set_cons_succ, i64_w, i32_w]
                  rfl
                refine take_ (i := 5) (N := some 43) (v := ?_) (a' := ?_) #[true, false, true, true, true, true, true, false, false, true, false, false, true, true, true, false, true, false, false, false, false, false] rfl rfl (by kernel_rfl) (fun _ _ _ h => h) (Or.inl ⟨by rfl, ?_⟩) hHeld ?_ ?_
                rotate_left
                · intro w' s0
                  go_simp
                  with_reducible rfl
                rotate_left
                · simp only [Act.put, List.setIfInBounds_toArray, List.set_cons_zero, List.set_cons_succ, i64_w, i32_w]
                  rfl
                refine pure_ (i := 7) (N := some 45) (v := ?_) (a' := ?_) #[true, false, true, true, true, true, true, true, false, true, false, false, true, true, true, false, true, false, false, false, false, false] rfl rfl (by kernel_rfl) (fun _ _ _ h => h) (Or.inl ⟨by rfl, ?_⟩) ?_ ?_
                rotate_left
                · intro w'
                  go_simp
                  with_reducible rfl
                rotate_left
                · simp only [Act.put, List.setIfInBounds_toArray, List.set_cons_zero, List.set_cons_succ, i64_w, i32_w]
                  rfl
                refine take_ (i := 15) (N := some 53) (v := ?_) (a' := ?_) #[true, false, true, true, true, true, true, true, false, true, false, false, true, true, true, true, true, false, false, false, false, false] rfl rfl (by kernel_rfl) (fun _ _ _ h => h) (Or.inl ⟨by rfl, ?_⟩) hHeld ?_ ?_
                rotate_left
                · intro w' s0
                  go_simp
                  with_reducible rfl
                rotate_left
                · simp only [Act.put, List.setIfInBounds_toArray, List.set_cons_zero, List.set_cons_succ, i64_w, i32_w]
                  rfl
                refine pure_ (i := 17) (N := some 55) (v := ?_) (a' := ?_) #[true, false, true, true, true, true, true, true, false, true, false, false, true, true, true, true, true, true, false, false, false, false] rfl rfl (by kernel_rfl) (fun _ _ _ h => h) (Or.inl ⟨by rfl, ?_⟩) ?_ ?_
                rotate_left
                · intro w'
                  go_simp
                  with_reducible rfl
                rotate_left
                · simp only [Act.put, List.setIfInBounds_toArray, List.set_cons_zero, List.set_cons_succ, i64_w, i32_w]
                  rfl
                refine join_ (σ := Value × Value × Value) 5 #[true, true, true, true, true, true, true, true, true, true, true, false, true, true, true, true, true, true, false, false, false, false] (fun p => [(39, p.1), (46, p.2.1), (48, p.2.2)]) (fun p w' => Kd.R Kd.string 9 w' wd.heap.size (fun _ => True) p.2.1 (Z.take k) ∧ Kd.R Kd.string 9 w' wd.heap.size (fun _ => True) p.2.2 [s] ∧ Below wd.heap.size wd w') ?_ ?_
                rotate_left
                · intro hCont
                  refine two_ (i := 1) (j := 10) (Ni := some 39) (Nj := some 48) #[true, true, true, true, true, true, true, true, false, true, false, false, true, true, true, true, true, true, false, false, false, false] #[true, false, true, true, true, true, true, true, false, true, true, false, true, true, true, true, true, true, false, false, false, false] rfl rfl rfl rfl (by kernel_rfl) (by decide) (by decide) (fun K hK => ?_) (fun K hK => ?_)
                  · skip
                    refine str_lit_step wd.heap.size (by rfl) rfl [] (by first | (go_simp; done) | (go_simp; rfl)) (Below.refl _ _) (Nat.le_refl _) (by simp) ?_
                    intro v39 wa hRa hBa hGa hFa
                    have HRa := Aside0.mk hRa
                    have HBa := Aside0.mk hBa
                    have HFa := Aside0.mk hFa
                    clear hRa hBa hGa hFa
                    refine hK.out _ _ (pw_cell_below HBa.out HH0.out) (fun hHeld => ?_)
                    clear hK K
                    refine norm_ (a' := ?_) ?_ ?_
                    rotate_left
                    · show Act.put _ (some 39) _ = _
                      simp only [Act.put, List.setIfInBounds_toArray, List.set_cons_zero, List.set_cons_succ, i64_w, i32_w]
                      rfl
                    refine two_ (i := 8) (j := 10) (Ni := some 46) (Nj := some 48) #[true, true, true, true, true, true, true, true, true, true, false, false, true, true, true, true, true, true, false, false, false, false] #[true, true, true, true, true, true, true, true, false, true, true, false, true, true, true, true, true, true, false, false, false, false] rfl rfl rfl rfl (by kernel_rfl) (by decide) (by decide) (fun K hK => ?_) (fun K hK => ?_)
                    · skip
                      refine str_append_step wd.heap.size (by rfl) (.tmp 39) (.tmp 45) rfl v39 [] (Z.take k) _ _ _ rfl rfl HRa.out (C_take (Kd.C_below HCD.out HBa.out) k HKK.out.1) HBa.out HBa.out.size (by have := HKK.out; simp <;> omega) ?_
                      intro v46 wb hRb hBb hGb hAb
                      have HRb := Aside0.mk hRb
                      have HBb := Aside0.mk hBb
                      clear hRb hBb hGb hAb
                      refine hK.out _ _ (pw_cell_below HBb.out HH0.out) (fun hHeld => ?_)
                      clear hK K
                      refine norm_ (a' := ?_) ?_ ?_
                      rotate_left
                      · show Act.put _ (some 46) _ = _
                        simp only [Act.put, List.setIfInBounds_toArray, List.set_cons_zero, List.set_cons_succ, i64_w, i32_w]
                        rfl
                      refine one_ (i := 10) (N := some 48) #[true, true, true, true, true, true, true, true, true, true, true, false, true, true, true, true, true, true, false, false, false, false] rfl rfl (by kernel_rfl) (by decide) (fun K hK => ?_)
                      refine str_lit_step wd.heap.size (by rfl) rfl [s] (by first | (go_simp; done) | (go_simp; rfl)) HBb.out HBb.out.size (by simp) ?_
                      intro v48 wc hRc hBc hGc hFc
                      have HRc := Aside0.mk hRc
                      have HBc := Aside0.mk hBc
                      have HGc := Aside0.mk hGc
                      clear hRc hBc hGc hFc
                      refine hK.out _ _ (pw_cell_below HBc.out HH0.out) (fun hHeld => ?_)
                      clear hK K
                      refine norm_ (a' := ?_) ?_ ?_
                      rotate_left
                      · show Act.put _ (some 48) _ = _
                        simp only [Act.put, List.setIfInBounds_toArray, List.set_cons_zero, List.set_cons_succ, i64_w, i32_w]
                        rfl
                      exact norm_ (by simp only [putAll, Act.put, List.setIfInBounds_toArray, List.set_cons_zero, List.set_cons_succ]) (hCont (v39, v46, v48) _ ⟨Kd.R_grown HRb.out HGc.out (fun _ _ => by simp), HRc.out, HBc.out⟩)
                    · skip
                      refine str_lit_step wd.heap.size (by rfl) rfl [s] (by first | (go_simp; done) | (go_simp; rfl)) HBa.out HBa.out.size (by simp) ?_
                      intro v48 wb hRb hBb hGb hFb
                      have HRb := Aside0.mk hRb
                      have HBb := Aside0.mk hBb
                      have HFb := Aside0.mk hFb
                      have HRa2 := Aside0.mk (Kd.R_grown HRa.out hGb (fun _ _ => by simp))
                      clear hRb hBb hGb hFb
                      refine hK.out _ _ (pw_cell_below HBb.out HH0.out) (fun hHeld => ?_)
                      clear hK K
                      refine norm_ (a' := ?_) ?_ ?_
                      rotate_left
                      · show Act.put _ (some 48) _ = _
                        simp only [Act.put, List.setIfInBounds_toArray, List.set_cons_zero, List.set_cons_succ, i64_w, i32_w]
                        rfl
                      refine one_ (i := 8) (N := some 46) #[true, true, true, true, true, true, true, true, true, true, true, false, true, true, true, true, true, true, false, false, false, false] rfl rfl (by kernel_rfl) (by decide) (fun K hK => ?_)
                      refine str_append_step wd.heap.size (by rfl) (.tmp 39) (.tmp 45) rfl v39 [] (Z.take k) _ _ _ rfl rfl HRa2.out (C_take (Kd.C_below HCD.out HBb.out) k HKK.out.1) HBb.out HBb.out.size (by have := HKK.out; simp <;> omega) ?_
                      intro v46 wc hRc hBc hGc hAc
                      have HRc := Aside0.mk hRc
                      have HBc := Aside0.mk hBc
                      have HGc := Aside0.mk hGc
                      clear hRc hBc hGc hAc
                      refine hK.out _ _ (pw_cell_below HBc.out HH0.out) (fun hHeld => ?_)
                      clear hK K
                      refine norm_ (a' := ?_) ?_ ?_
                      rotate_left
                      · show Act.put _ (some 46) _ = _
                        simp only [Act.put, List.setIfInBounds_toArray, List.set_cons_zero, List.set_cons_succ, i64_w, i32_w]
                        rfl
                      exact norm_ (by simp only [putAll, Act.put, List.setIfInBounds_toArray, List.set_cons_zero, List.set_cons_succ]) (hCont (v39, v46, v48) _ ⟨HRc.out, Kd.R_grown1 HRb.out rfl HGc.out (new_ne HRa.out HFb.out), HBc.out⟩)
                  · skip
                    refine str_lit_step wd.heap.size (by rfl) rfl [s] (by first | (go_simp; done) | (go_simp; rfl)) (Below.refl _ _) (Nat.le_refl _) (by simp) ?_
                    intro v48 wa hRa hBa hGa hFa
                    have HRa := Aside0.mk hRa
                    have HBa := Aside0.mk hBa
                    have HFa := Aside0.mk hFa
                    clear hRa hBa hGa hFa
                    refine hK.out _ _ (pw_cell_below HBa.out HH0.out) (fun hHeld => ?_)
                    clear hK K
                    refine norm_ (a' := ?_) ?_ ?_
                    rotate_left
                    · show Act.put _ (some 48) _ = _
                      simp only [Act.put, List.setIfInBounds_toArray, List.set_cons_zero, List.set_cons_succ, i64_w, i32_w]
                      rfl
                    refine one_ (i := 1) (N := some 39) #[true, true, true, true, true, true, true, true, false, true, true, false, true, true, true, true, true, true, false, false, false, false] rfl rfl (by kernel_rfl) (by decide) (fun K hK => ?_)
                    refine str_lit_step wd.heap.size (by rfl) rfl [] (by first | (go_simp; done) | (go_simp; rfl)) HBa.out HBa.out.size (by simp) ?_
                    intro v39 wb hRb hBb hGb hFb
                    have HRb := Aside0.mk hRb
                    have HBb := Aside0.mk hBb
                    have HFb := Aside0.mk hFb
                    have HRa2 := Aside0.mk (Kd.R_grown HRa.out hGb (fun _ _ => by simp))
                    clear hRb hBb hGb hFb
                    refine hK.out _ _ (pw_cell_below HBb.out HH0.out) (fun hHeld => ?_)
                    clear hK K
                    refine norm_ (a' := ?_) ?_ ?_
                    rotate_left
                    · show Act.put _ (some 39) _ = _
                      simp only [Act.put, List.setIfInBounds_toArray, List.set_cons_zero, List.set_cons_succ, i64_w, i32_w]
                      rfl
                    refine one_ (i := 8) (N := some 46) #[true, true, true, true, true, true, true, true, true, true, true, false, true, true, true, true, true, true, false, false, false, false] rfl rfl (by kernel_rfl) (by decide) (fun K hK => ?_)
                    refine str_append_step wd.heap.size (by rfl) (.tmp 39) (.tmp 45) rfl v39 [] (Z.take k) _ _ _ rfl rfl HRb.out (C_take (Kd.C_below HCD.out HBb.out) k HKK.out.1) HBb.out HBb.out.size (by have := HKK.out; simp <;> omega) ?_
                    intro v46 wc hRc hBc hGc hAc
                    have HRc := Aside0.mk hRc
                    have HBc := Aside0.mk hBc
                    have HGc := Aside0.mk hGc
                    clear hRc hBc hGc hAc
                    refine hK.out _ _ (pw_cell_below HBc.out HH0.out) (fun hHeld => ?_)
                    clear hK K
                    refine norm_ (a' := ?_) ?_ ?_
                    rotate_left
                    · show Act.put _ (some 46) _ = _
                      simp only [Act.put, List.setIfInBounds_toArray, List.set_cons_zero, List.set_cons_succ, i64_w, i32_w]
                      rfl
                    exact norm_ (by simp only [putAll, Act.put, List.setIfInBounds_toArray, List.set_cons_zero, List.set_cons_succ]) (hCont (v39, v46, v48) _ ⟨HRc.out, Kd.R_grown1 HRa2.out rfl HGc.out (new_ne HRa.out HFb.out).symm, HBc.out⟩)
                rintro ⟨v39, v46, v48⟩ wf ⟨hf46, hf48, hfB⟩
                obtain ⟨A48, c48, rfl, _, hC48⟩ := Kd.R_reads hf48
                have HF46 := Aside0.mk hf46
                have HFC := Aside0.mk hC48
                have HFB := Aside0.mk hfB
                have hHeld := pw_cell_below hfB HH0.out
                clear hf46 hf48 hfB hC48
                refine norm_ (a' := ?_) ?_ ?_
                rotate_left
                · simp only [putAll, Act.put, List.setIfInBounds_toArray, List.set_cons_zero, List.set_cons_succ]
                  rfl
                refine one_ (i := 11) (N := some 49) #[true, true, true, true, true, true, true, true, true, true, true, true, true, true, true, true, true, true, false, false, false, false] rfl rfl (by kernel_rfl) (by decide) (fun K hK => ?_)
                refine str_append_step wd.heap.size (by rfl) (.tmp 46) (.tmp 48) rfl v46 (Z.take k) [s] _ _ _ rfl rfl HF46.out HFC.out HFB.out HFB.out.size (by have := HKK.out; simp <;> omega) ?_
                intro v49 wx hRx hBx hGx hAx
                have HRx := Aside0.mk hRx
                have HBx := Aside0.mk hBx
                clear hRx hBx hGx hAx
                refine hK.out _ _ (pw_cell_below HBx.out HH0.out) (fun hHeld => ?_)
                clear hK K
                refine norm_ (a' := ?_) ?_ ?_
                rotate_left
                · show Act.put _ (some 49) _ = _
                  simp only [Act.put, List.setIfInBounds_toArray, List.set_cons_zero, List.set_cons_succ, i64_w, i32_w]
                  rfl
                refine one_ (i := 18) (N := some 56) #[true, true, true, true, true, true, true, true, true, true, true, true, true, true, true, true, true, true, true, false, false, false] rfl rfl (by kernel_rfl) (by decide) (fun K hK => ?_)
                refine str_append_step wd.heap.size (by rfl) (.tmp 49) (.tmp 55) rfl v49 (Z.take k ++ [s]) (Z.drop k) _ _ _ rfl rfl HRx.out (C_drop2 (Kd.C_below HCD.out HBx.out) k HKK.out.1 HLC.out) HBx.out HBx.out.size (by have := HKK.out; simp <;> omega) ?_
                intro v56 wy hRy hBy hGy hAy
                obtain ⟨A56, c56, rfl, _, _⟩ := Kd.R_reads hRy
                have HRy := Aside0.mk hRy
                have HBy := Aside0.mk hBy
                clear hRy hBy hGy hAy
                have hfz := ref_frozen (HRD.out.below HBy.out)
                refine hK.out _ _ (pw_cell_below HBy.out HH0.out) (fun hHeld => ?_)
                clear hK K
                refine norm_ (a' := ?_) ?_ ?_
                rotate_left
                · show Act.put _ (some 56) _ = _
                  simp only [Act.put, List.setIfInBounds_toArray, List.set_cons_zero, List.set_cons_succ, i64_w, i32_w]
                  rfl
                refine pure_ (i := 19) (N := some 57) (v := ?_) (a' := ?_) #[true, true, true, true, true, true, true, true, true, true, true, true, true, true, true, true, true, true, true, true, false, false] rfl rfl (by kernel_rfl) (fun _ _ _ h => h) (Or.inl ⟨by rfl, ?_⟩) ?_ ?_
                rotate_left
                · intro w'
                  go_simp
                  with_reducible rfl
                rotate_left
                · simp only [Act.put, List.setIfInBounds_toArray, List.set_cons_zero, List.set_cons_succ, i64_w, i32_w]
                  rfl
                refine pure_ (i := 20) (N := some 58) (v := ?_) (a' := ?_) #[true, true, true, true, true, true, true, true, true, true, true, true, true, true, true, true, true, true, true, true, true, false] rfl rfl (by kernel_rfl) (fun _ _ _ h => h) (Or.inl ⟨by rfl, ?_⟩) ?_ ?_
                rotate_left
                · intro w'
                  go_simp
                  with_reducible rfl
                rotate_left
                · simp only [Act.put, List.setIfInBounds_toArray, List.set_cons_zero, List.set_cons_succ, i64_w, i32_w]
                  rfl
                refine last_ (i := 21) (N := none) #[true, true, true, true, true, true, true, true, true, true, true, true, true, true, true, true, true, true, true, true, true, true] rfl rfl (by kernel_rfl) (by decide) (fun K hK => ?_)
                refine skip_ (w1 := ?_) (by rfl) rfl ?_ ?_
                rotate_left
                · go_simp
                  rfl
                refine hK.out _ _ ?_
                clear hK K
                refine done_ (by kernel_rfl) ?_
                go_wp2_with fail
                all_goals
                  go_ret
                  refine ⟨rfl, ?_, ((((Chg.of_drawn HD.out (fun k => k = g)).below HBD.out).below HBy.out).setCell (p := ⟨g, 0, none⟩) (.inl rfl) _)⟩
                  have e2 : (List.take k Z ++ [s] ++ List.drop k Z).length = min k Z.length + (Z.length - k + 1) := by simp
                  have hRy := HRy.out
                  rw [e2] at hRy
                  rw [HP.out k HTA.out, List.append_cons]
                  exact (HRD.out.below HBy.out).store hRy (Nat.le_trans HRD.out.ge (Nat.le_of_lt HRD.out.lt)))
end Go.Proofs.Ytfdjbjinomfgiaa
