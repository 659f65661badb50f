/- Files: rows held against each other; a live pattern; awake. -/
import Derived.Test.YtfdjbjinomfgiaaGlob
namespace Go.Proofs.Ytfdjbjinomfgiaa
open Go.RowKit Go.Proofs.YtfdjbjinomfgiaaW.PrintWords Go.Proofs.YtfdjbjinomfgiaaW.PrintLast Go.Proofs.YtfdjbjinomfgiaaW.PrintMore GrTree

theorem same_ev (xs ys : List ByteArray) (hl : xs.length = ys.length) (hm : xs.length ≤ 9223372036854775807) : ∀ (d i : Nat), i + d = xs.length → Ev (fun n => conchlaw1_SameTexts.l0 n xs ys i) (decide (xs.drop i = ys.drop i))
  | 0, i, h => by
    have e1 : xs.drop i = [] := List.drop_eq_nil_of_le (by omega)
    have e2 : ys.drop i = [] := List.drop_eq_nil_of_le (by omega)
    rw [e1, e2]
    refine Ev.step (fun n => ?_) (Ev.now _)
    simp only [conchlaw1_SameTexts.l0]
    rw [if_neg (by omega)]
    rfl
  | d + 1, i, h => by
    have hi : i < xs.length := by omega
    have hi2 : i < ys.length := by omega
    rw [List.drop_eq_getElem_cons hi, List.drop_eq_getElem_cons hi2]
    have r1 : rdOf ByteArray.empty xs (i : Int) = xs[i] := by simp [rdOf, List.getD_eq_getElem?_getD, List.getElem?_eq_getElem hi]
    have r2 : rdOf ByteArray.empty ys (i : Int) = ys[i] := by simp [rdOf, List.getD_eq_getElem?_getD, List.getElem?_eq_getElem hi2]
    by_cases he : xs[i] = ys[i]
    · have := same_ev xs ys hl hm d (i + 1) (by omega)
      rw [show decide (xs[i] :: xs.drop (i + 1) = ys[i] :: ys.drop (i + 1)) = decide (xs.drop (i + 1) = ys.drop (i + 1)) from decide_eq_decide.2 ⟨fun h => (List.cons.inj h).2, fun h => by rw [he, h]⟩]
      refine Ev.step (fun n => ?_) this
      simp only [conchlaw1_SameTexts.l0]
      rw [if_pos (by omega), if_pos (by omega), if_pos (by omega), r1, r2, if_pos (by rw [he])]
      have : wrap64 ((i : Int) + 1) = ((i + 1 : Nat) : Int) := by unfold wrap64; omega
      rw [this]
    · rw [show decide (xs[i] :: xs.drop (i + 1) = ys[i] :: ys.drop (i + 1)) = false from decide_eq_false (fun h => he (List.cons.inj h).1)]
      refine Ev.step (fun n => ?_) (Ev.now _)
      simp only [conchlaw1_SameTexts.l0]
      rw [if_pos (by omega), if_pos (by omega), if_pos (by omega), r1, r2, if_neg (fun h => he (toList_inj.1 h))]
theorem same_texts (A0 A1 : Option Addr) (c0 c1 : Nat) (xs ys : List ByteArray) (b : Bool) (hb : decide (xs = ys) = b) (w : World) (h0 : Kd.C Kd.string w A0 xs.length xs) (hc0 : xs.length ≤ c0) (h1 : Kd.C Kd.string w A1 ys.length ys) (hc1 : ys.length ≤ c1) :
    Calls Try.prog 41 #[.slice A0 xs.length c0, .slice A1 ys.length c1] w fun e w' => e = .returned (.bool b) ∧ Drawn0 w w' := by
  have hex : ∃ k, conchlaw1_SameTexts.f k xs ys = some b := by
    by_cases hl : xs.length = ys.length
    · obtain ⟨k, hk⟩ := (same_ev xs ys hl h0.2.1 xs.length 0 (by omega)).rounds
      refine ⟨k, ?_⟩
      unfold conchlaw1_SameTexts.f
      rw [if_pos (by omega), ← hb]
      simpa using hk
    · refine ⟨0, ?_⟩
      unfold conchlaw1_SameTexts.f
      rw [if_neg (by omega), ← hb]
      congr 1
      symm
      exact decide_eq_false (fun h => hl (by rw [h]))
  obtain ⟨k, hk⟩ := hex
  exact conchlaw1_SameTexts.calls k A0 c0 xs A1 c1 ys b w h0 hc0 h1 hc1 hk
theorem live_ev (s : ByteArray) (hs : s.size ≤ 1000000) : ∀ (d i : Nat) (acc : List Bool), i + d = s.size → acc.length = i → Ev (fun n => conchlaw12_live.l0 n s i s acc) (s, acc ++ List.replicate d true)
  | 0, i, acc, h, _ => by
    refine Ev.step (f := fun _ => some (s, acc)) (fun n => ?_) (by simp; exact Ev.now _)
    simp only [conchlaw12_live.l0]
    rw [if_neg (by omega)]
  | d + 1, i, acc, h, ha => by
    have := live_ev s hs d (i + 1) (acc ++ [true]) (by omega) (by simp; omega)
    rw [List.append_assoc, List.singleton_append, ← List.replicate_succ] at this
    refine Ev.step (fun n => ?_) this
    simp only [conchlaw12_live.l0]
    rw [if_pos (by omega), if_pos (by omega), w64_1 _ (by omega)]
theorem live_calls (s : ByteArray) (hs : s.size ≤ 1000000) (w : World) :
    Calls Try.prog 31 #[.string s] w fun e w' => ∃ v, e = .returned (.agg #[.string s, v]) ∧ Kd.R Kd.bool 4 w' w.heap.size (fun _ => True) v (List.replicate s.size true) ∧ Below w.heap.size w w' := by
  obtain ⟨k, hk⟩ := (live_ev s hs s.size 0 [] (by omega) rfl).rounds
  exact conchlaw12_live.calls k s s _ w hk
/-- A literal of strings. -/
theorem lit_C (w : World) (xs : List ByteArray) (T : TypeId) (hm : xs.length ≤ 1000000) : Kd.C Kd.string (w.alloc (.cells (xs.map Value.string).toArray T)) (some ⟨w.heap.size, 0, none⟩) xs.length xs := by
  refine Kd.C_of_reads (d := ByteArray.empty) ⟨rfl, by omega, fun _ => ⟨_, rfl, fun j hj => ?_⟩⟩
  have h := heap_alloc_new w (.cells (xs.map Value.string).toArray T)
  rw [add_plain]
  unfold World.cell?
  rw [h]
  simp [List.getD_eq_getElem?_getD, List.getElem?_eq_getElem hj]

def sB : ByteArray := ⟨#[98]⟩
def sA : ByteArray := ⟨#[97]⟩
def sC : ByteArray := ⟨#[46, 99]⟩
def sXY : ByteArray := ⟨#[120, 47, 121]⟩
def sStar : ByteArray := ⟨#[42]⟩
theorem awake_new : makeAll [sB, sA, sC, sXY] [] = [(sC, ()), (sA, ()), (sB, ())] := by decide +kernel
theorem awake_glob : globF [(sC, ()), (sA, ()), (sB, ())] sStar (List.replicate sStar.size true) = [sA, sB] := by decide +kernel
theorem awake_ok : NamesOk [(sC, ()), (sA, ()), (sB, ())] := by
  intro q hq
  simp only [List.mem_cons, List.not_mem_nil, or_false] at hq
  rcases hq with rfl | rfl | rfl <;> decide

set_option maxHeartbeats 1000000 in
set_option maxRecDepth 100000 in
theorem awake12 (w : World) : Calls Try.prog 29 #[] w fun e w' => e = .returned (.bool true) ∧ Below w.heap.size w w' := by
  have hl1 := lit_C w [sB, sA, sC, sXY] 9 (by decide)
  have HL1 := Aside0.mk hl1
  clear hl1
  go_enter Try.func29, Try.ntmps29
  go_wp2_with fail
  refine (tree_New _ 4 [sB, sA, sC, sXY] _ HL1.out (by decide)).mono ?_
  rintro e w1 ⟨g, m, rfl, ht, hc, hg, hm⟩
  rw [awake_new] at ht
  have HT := Aside0.mk ht
  have HC := Aside0.mk hc
  clear ht hc hg hm
  go_wp2_with fail
  refine (tree_Names g m _ _ (by decide) HT.out).mono ?_
  rintro e w2 ⟨v, rfl, hR, hb2⟩
  obtain ⟨A, c, rfl, hlc, hCv⟩ := Kd.R_reads hR
  have hB : Below w2.heap.size w2 (w2.alloc (.cells ([sC, sA, sB].map Value.string).toArray 9)) := (Below.refl _ _).alloc (Nat.le_refl _) _
  have HL2 := Aside0.mk (lit_C w2 [sC, sA, sB] 9 (by decide))
  have HCV := Aside0.mk (Kd.C_below hCv hB)
  have HLC := Aside0.mk hlc
  have HT2 := Aside0.mk ((HT.out.below hb2).below hB)
  have HC2 := Aside0.mk ((HC.out.below hb2).below hB)
  clear hR hb2 hCv hlc hB HT HC
  go_wp2_with fail
  refine (same_texts A (some ⟨w2.heap.size, 0, none⟩) c 3 _ _ true (by decide +kernel) _ HCV.out HLC.out HL2.out (by decide)).mono ?_
  rintro e w3 ⟨rfl, hd⟩
  have HT3 := Aside0.mk (HT2.out.below hd.below)
  have HC3 := Aside0.mk (HC2.out.drawn hd)
  clear hd HT2 HC2
  go_wp2_with fail
  refine (live_calls sStar (by decide) _).mono ?_
  rintro e w4 ⟨v4, rfl, hR4, hb4⟩
  obtain ⟨A4, c4, rfl, hlc4, hC4⟩ := Kd.R_reads hR4
  have HT4 := Aside0.mk (HT3.out.below hb4)
  have HC4 := Aside0.mk (HC3.out.below hb4)
  have HA4 := Aside0.mk hC4
  have HLC4 := Aside0.mk hlc4
  clear hR4 hb4 hC4 hlc4 HT3 HC3
  go_wp2_with fail
  refine (tree_Glob g m _ sStar A4 c4 _ _ (by decide) awake_ok HT4.out HA4.out HLC4.out (by decide)).mono ?_
  rintro e w5 ⟨v5, rfl, hR5, hb5⟩
  rw [awake_glob] at hR5
  obtain ⟨A5, c5, rfl, hlc5, hC5⟩ := Kd.R_reads hR5
  have hB5 : Below w5.heap.size w5 (w5.alloc (.cells ([sA, sB].map Value.string).toArray 9)) := (Below.refl _ _).alloc (Nat.le_refl _) _
  have HL5 := Aside0.mk (lit_C w5 [sA, sB] 9 (by decide))
  have HCV5 := Aside0.mk (Kd.C_below hC5 hB5)
  have HLC5 := Aside0.mk hlc5
  have HT5 := Aside0.mk ((HT4.out.below hb5).below hB5)
  have HC5 := Aside0.mk ((HC4.out.below hb5).below hB5)
  clear hR5 hb5 hC5 hlc5 hB5 HT4 HC4
  go_wp2_with fail
  refine (same_texts A5 (some ⟨w5.heap.size, 0, none⟩) c5 2 _ _ true (by decide +kernel) _ HCV5.out HLC5.out HL5.out (by decide)).mono ?_
  rintro e w6 ⟨rfl, hd⟩
  have HT6 := Aside0.mk (HT5.out.below hd.below)
  have HC6 := Aside0.mk (HC5.out.drawn hd)
  clear hd HT5 HC5
  go_wp2_with fail
  refine (tree_Has g m _ sA true _ (by decide) HT6.out (by decide +kernel)).mono ?_
  rintro e w7 ⟨rfl, rfl⟩
  go_wp2_with fail
  refine (tree_Has g m _ sXY false _ (by decide) HT6.out (by decide +kernel)).mono ?_
  rintro e w8 ⟨rfl, rfl⟩
  go_wp2
  go_ret
  exact ⟨rfl, (((Chg.refl none_ w).alloc _).then_ HC6.out (fun _ h => h.elim)).toBelow⟩
end Go.Proofs.Ytfdjbjinomfgiaa
