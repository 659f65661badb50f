/- The document's own files: what a tree is in memory; fileOk, Has. -/
import Derived.Test.YtfdjbjinomfgiaaTreeD
import Derived.Test.YtfdjbjinomfgiaaFullP
namespace Go.Proofs.Ytfdjbjinomfgiaa
open Go.RowKit Go.Proofs.YtfdjbjinomfgiaaW.PrintWords Go.Proofs.YtfdjbjinomfgiaaW.PrintLast Go.Proofs.YtfdjbjinomfgiaaW.PrintMore GrTree
set_option linter.unusedSimpArgs false

theorem has_ev (s : ByteArray) (c : UInt8) (hs : s.size ≤ 1000000) : ∀ (d i : Nat), i + d = s.size → Ev (fun n => conchref12_has.l0 n s (c.toNat : Int) i) (decide (c ∈ s.data.toList.drop i))
  | 0, i, h => by
    have e1 : s.data.toList.drop i = [] := List.drop_eq_nil_of_le (by show s.data.toList.length ≤ i; have : s.data.toList.length = s.size := rfl; omega)
    rw [e1]
    refine Ev.step (fun n => ?_) (Ev.now _)
    simp only [conchref12_has.l0]
    rw [if_neg (by omega)]
    rfl
  | d + 1, i, h => by
    have hi : i < s.size := by omega
    have hi2 : i < s.data.toList.length := hi
    rw [List.drop_eq_getElem_cons hi2]
    have hx : ((s.data.toList[i]).toNat : Int) = bt s i := bt_at s (i : Int) hi
    by_cases he : s.data.toList[i] = c
    · rw [show decide (c ∈ s.data.toList[i] :: s.data.toList.drop (i + 1)) = true from decide_eq_true (by rw [he]; simp)]
      refine Ev.step (fun n => ?_) (Ev.now _)
      simp only [conchref12_has.l0]
      rw [if_pos (by omega), if_pos (by omega), if_pos (by rw [← hx, he])]
    · rw [show decide (c ∈ s.data.toList[i] :: s.data.toList.drop (i + 1)) = decide (c ∈ s.data.toList.drop (i + 1)) from decide_eq_decide.2 ⟨fun h => (List.mem_cons.1 h).resolve_left (fun e => he e.symm), fun h => List.mem_cons_of_mem _ h⟩]
      have := has_ev s c hs d (i + 1) (by omega)
      refine Ev.step (fun n => ?_) this
      simp only [conchref12_has.l0]
      rw [if_pos (by omega), if_pos (by omega), if_neg (fun h => he (UInt8.toNat_inj.1 (by omega))), w64_1 _ (by omega)]
theorem ref_fileOk (s : ByteArray) (hs : s.size ≤ 1000000) (b : Bool) (hb : fileOkB s = b) (w : World) : Calls Try.prog 97 #[.string s] w fun e w' => e = .returned (.bool b) ∧ Drawn0 w w' := by
  have hex : ∃ q, conchref12_fileOk.f q s = some (fileOkB s) := by
    have h1 : ∀ c, Ev (fun n => conchref12_has.f n s (UInt8.toNat c : Int)) (hasB s c) := fun c => has_ev s c hs s.size 0 (by omega)
    have h2 : Ev (fun n => conchref12_fileOk.f n s) (fileOkB s) := by
      unfold conchref12_fileOk.f fileOkB
      by_cases c1 : 1 ≤ s.size
      · by_cases c2 : s.size ≤ 100
        · refine Ev.congr (fun n => by rw [if_pos (by omega), if_pos (by omega)]) ?_
          refine Ev.bind (h1 0) ?_
          cases hasB s 0 with
          | true => refine Ev.congr (fun n => by rw [if_pos rfl]) ?_; simpa [c1, c2] using Ev.now _
          | false =>
            refine Ev.congr (fun n => by rw [if_neg (by simp)]) ?_
            refine Ev.bind (h1 47) ?_
            simpa [c1, c2] using Ev.now _
        · refine Ev.congr (fun n => by rw [if_pos (by omega), if_neg (by omega)]) ?_
          simpa [c1, c2] using Ev.now _
      · refine Ev.congr (fun n => by rw [if_neg (by omega)]) ?_
        simpa [c1] using Ev.now _
    exact h2.rounds
  obtain ⟨q, hq⟩ := hex
  rw [hb] at hq
  exact conchref12_fileOk.calls q s b w hq

/-- What a tree of the document is in memory: its row lies behind base. -/
structure RefIs (w : World) (g base : Nat) (L : List ByteArray) : Prop where
  row : ∃ v, w.heap[g]? = some (.cells #[v] 72 (0, 0)) ∧ Kd.R Kd.string 9 w base (fun _ => True) v L
  ge : base ≤ g
theorem RefIs.chg {S : Nat → Prop} {w W : World} {g base : Nat} {L : List ByteArray} (h : RefIs w g base L) (hc : Chg S w W) (hg : ¬ S g) (hS : ∀ k, S k → k < base) : RefIs W g base L := by
  obtain ⟨⟨v, hb, hr⟩, hge⟩ := h
  refine ⟨⟨v, hc.blk hb hg, ?_⟩, hge⟩
  exact Kd.R_mono (Kd.R_step (Kd.R_bound hr) (fun k hk hlt => hc.block k hlt (fun hs => by have := hS k hs; have := hk.2.1; omega))) (fun _ _ => trivial)
theorem RefIs.below {w W : World} {g base : Nat} {L : List ByteArray} (h : RefIs w g base L) (hb : Below w.heap.size w W) : RefIs W g base L := h.chg (Chg.of_below hb none_) (fun h => h) (fun _ h => h.elim)
theorem RefIs.lt {w : World} {g base : Nat} {L : List ByteArray} (h : RefIs w g base L) : g < w.heap.size := by
  obtain ⟨⟨v, hb, _⟩, _⟩ := h
  exact blk_lt' hb
theorem RefIs.opened {w : World} {g base : Nat} {L : List ByteArray} (h : RefIs w g base L) : ∃ A c, w.heap[g]? = some (.cells #[.slice A L.length c] 72 (0, 0)) ∧ w.cell? ⟨g, 0, none⟩ = some (.slice A L.length c) ∧ Kd.R Kd.string 9 w base (fun _ => True) (.slice A L.length c) L ∧ Kd.C Kd.string w A L.length L ∧ L.length ≤ c := by
  obtain ⟨⟨v, hb, hr⟩, _⟩ := h
  obtain ⟨A, c, rfl, hlc, hC⟩ := Kd.R_reads hr
  exact ⟨A, c, hb, by simp [World.cell?, hb], hr, hC, hlc⟩

set_option maxHeartbeats 1000000 in
set_option maxRecDepth 100000 in
theorem ref_Has (g base : Nat) (L : List ByteArray) (s : ByteArray) (b : Bool) (w : World) (hr : RefIs w g base L) (hl : L.length ≤ 200) (hb : s ∈ L ↔ b = true) :
    Calls Try.prog 39 #[.pointer (some ⟨g, 0, none⟩), .string s] w fun e w' => e = .returned (.bool b) ∧ w' = w := by
  obtain ⟨A, c, _, hcell, _, hC, _⟩ := hr.opened
  have HC := Aside0.mk hC
  have HB := Aside0.mk hb
  have hl' : (L.length : Int) ≤ 200 := by omega
  clear hr hl hb hC
  go_enter Try.func39, Try.ntmps39
  go_wp2
  go_loop [5] (fun i => ∃ k : Nat, k ≤ L.length ∧ i = .int .i64 k ∧ Aside0 (∀ x ∈ L.take k, x ≠ s)) (fun i => L.length - (intOf i).toNat)
  case atStart => exact ⟨0, Nat.zero_le _, rfl, ⟨by simp⟩⟩
  case round =>
    obtain ⟨k, hk, rfl, HN⟩ := hrel
    by_cases hlt : k < L.length
    · obtain ⟨ad, e, hx⟩ := str_at HC.out hlt
      subst e
      have hmem := getD_mem' hlt ByteArray.empty
      have htk := take_snoc' hlt ByteArray.empty
      have hlt' : (k : Int) < (L.length : Int) := by omega
      have HLT := Aside0.mk hlt
      clear hlt
      generalize L.getD k ByteArray.empty = x at *
      have HM := Aside0.mk hmem
      have HT := Aside0.mk htk
      clear hmem htk
      by_cases hxs : x = s
      · subst hxs
        go_wp2
        go_ret
        exact ⟨ret_bool (HB.out.1 HM.out).symm, rfl⟩
      · have h1 : (x.toList == s.toList) = false := beq_eq_false_iff_ne.2 (fun h => hxs (toList_inj.1 h))
        have HX := Aside0.mk hxs
        clear hxs
        go_wp2
        go_round
        case rel =>
          refine ⟨k + 1, HLT.out, by go_num, ⟨?_⟩⟩
          rw [HT.out]
          intro y hy
          rcases List.mem_append.1 hy with hy | hy
          · exact HN.out y hy
          · rw [List.mem_singleton.1 hy]; exact HX.out
        case measure => have := HLT.out; simp [intOf]; omega
    · obtain rfl : k = L.length := by omega
      rw [List.take_length] at HN
      go_wp2
      go_ret
      exact ⟨ret_bool (by cases b with | false => rfl | true => exact absurd rfl (HN.out s (HB.out.2 rfl))), rfl⟩
end Go.Proofs.Ytfdjbjinomfgiaa
