/- Files: New. -/
import Derived.Test.YtfdjbjinomfgiaaTreeA
namespace Go.Proofs.Ytfdjbjinomfgiaa
open Go.RowKit Go.Proofs.YtfdjbjinomfgiaaW.PrintWords Go.Proofs.YtfdjbjinomfgiaaW.PrintLast Go.Proofs.YtfdjbjinomfgiaaW.PrintMore

/-- The files that names make. -/
def makeAll (names : List ByteArray) (L : Names) : Names := names.foldl (fun L s => (makeF L s).2) L
theorem makeF_len {L : Names} (h : Rising L) (s : ByteArray) (hl : L.length ≤ 200) : (makeF L s).2.length ≤ 200 := by
  unfold makeF
  split
  · exact hl
  · rename_i hc
    simp only [Bool.or_eq_true, Bool.and_eq_true, decide_eq_true_eq, not_or, not_and] at hc
    show (tput L s ()).length ≤ 200
    rw [tput_length h]
    split
    · exact hl
    · rename_i hs
      have := hc.2 (by simpa using hs)
      omega
theorem makeF_rising {L : Names} (h : Rising L) (s : ByteArray) : Rising (makeF L s).2 := by
  unfold makeF
  split
  · exact h
  · exact tput_rising h s ()
theorem makeAll_inv : ∀ (names : List ByteArray) (L : Names), Rising L → L.length ≤ 200 → Rising (makeAll names L) ∧ (makeAll names L).length ≤ 200
  | [], _, h, hl => ⟨h, hl⟩
  | s :: r, _, h, hl => makeAll_inv r _ (makeF_rising h s) (makeF_len h s hl)
theorem makeAll_snoc (names : List ByteArray) (s : ByteArray) (L : Names) : makeAll (names ++ [s]) L = (makeF (makeAll names L) s).2 := by
  unfold makeAll; rw [List.foldl_append]; rfl

set_option maxHeartbeats 400000 in
set_option maxRecDepth 100000 in
theorem tree_New (A : Option Addr) (c : Nat) (names : List ByteArray) (w : World) (hC : Kd.C Kd.string w A names.length names) (hsz : ∀ s ∈ names, s.size ≤ maxLen) :
    Calls Try.prog 30 #[.slice A names.length c] w fun e w' => ∃ g m, e = .returned (.pointer (some ⟨g, 0, none⟩)) ∧ TreeIs w' g m (makeAll names []) ∧ Chg none_ w w' ∧ w.heap.size ≤ g ∧ w.heap.size ≤ m := by
  have hC0 := Aside0.mk hC
  have hsz0 := Aside0.mk hsz
  have hmax : (names.length : Int) ≤ 9223372036854775807 := by have := hC.2.1; omega
  clear hC hsz
  have hmm := @run_makeMap Try.prog
  go_enter Try.func30, Try.ntmps30
  go_wp2
  have h0 : TreeIs ((w.alloc (.map #[] 0)).alloc (.cells #[.map (some w.heap.size)] 129)) (w.heap.size + 1) w.heap.size [] := by
    refine ⟨heap_new1 _ _ _, ?_, by simp [Rising]⟩
    exact World.ownsMap.alloc (World.ownsMap_made w Try.prog 9 _) _
  have H0 := Aside0.mk h0
  clear h0
  go_loopw [11] (fun i wr => ∃ k : Nat, k ≤ names.length ∧ i = .int .i64 k ∧ Aside0 (TreeIs wr (w.heap.size + 1) w.heap.size (makeAll (names.take k) [])) ∧ Aside0 (Chg none_ w wr)) (fun i _ => names.length - (intOf i).toNat)
  case atStart => exact ⟨0, Nat.zero_le _, rfl, H0, ⟨((Chg.refl _ _).alloc _).alloc _⟩⟩
  case round =>
    obtain ⟨k, hk, rfl, HT, HB⟩ := hrel
    by_cases hlt : k < names.length
    · have hCr := Kd.C_below hC0.out HB.out.toBelow
      obtain ⟨ad, e, hx⟩ := str_at hCr hlt
      subst e
      have hs1 := Aside0.mk (makeAll_inv (names.take k) [] (by simp [Rising]) (by simp))
      have hsk := hsz0.out _ (getD_mem' hlt ByteArray.empty)
      have htk := take_snoc' hlt ByteArray.empty
      generalize names.getD k ByteArray.empty = s at *
      have HSK := Aside0.mk hsk
      have HTK := Aside0.mk htk
      clear hsk htk
      have hlt' : (k : Int) < (names.length : Int) := by omega
      have HK := Aside0.mk hlt
      clear hCr hlt
      go_wp2_with (go_at_call 37; refine (tree_Make _ _ _ _ _ HSK.out (by have := hs1.out.2; omega) HT.out).mono ?_; rintro e w1 ⟨rfl, ht1, hc1⟩; have HT1 := Aside0.mk ht1; have HC1 := Aside0.mk hc1; clear ht1 hc1)
      go_roundw
      case rel => 
        refine ⟨k + 1, by omega, by go_num, ⟨?_⟩, ⟨HB.out.then_ HC1.out (fun k hk => .inr (by omega))⟩⟩
        rw [HTK.out, makeAll_snoc]
        exact HT1.out
      case measure => simp [intOf]; omega
    · obtain rfl : k = names.length := by omega
      go_wp2
      go_ret
      refine ⟨w.heap.size + 1, w.heap.size, rfl, ?_, HB.out, by omega, by omega⟩
      simpa using HT.out
end Go.Proofs.Ytfdjbjinomfgiaa
