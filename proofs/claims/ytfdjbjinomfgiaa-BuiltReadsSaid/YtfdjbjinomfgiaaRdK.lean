/- The plain law of BuiltReads: both reads. -/
import Derived.Test.YtfdjbjinomfgiaaRdM
import Derived.Test.YtfdjbjinomfgiaaRdN
namespace Go.Proofs.Ytfdjbjinomfgiaa
open Go.RowKit Go.Maps Go.Proofs.YtfdjbjinomfgiaaW.PrintWords
set_option linter.unusedSimpArgs false
set_option linter.unusedVariables false

def nm6 : List ByteArray := [⟨#[97]⟩, ⟨#[98]⟩, ⟨#[99]⟩, ⟨#[100]⟩, ⟨#[101]⟩, ⟨#[102]⟩]
def nmL (t : Nat) : List ByteArray := nm6.take (t + 1)
theorem nm_facts0 : ∀ t : Fin 6, (nmL t.val).length = t.val + 1 ∧ (nmL t.val).Pairwise (fun a b => a ≠ b) ∧ (∀ s ∈ nmL t.val, nameB s = true ∧ numF s = none ∧ s.size ≤ 10 ∧ s ≠ ifsB) ∧ min (nmL t.val).length 100 - 1 = t.val ∧ ∀ i : Fin 6, i.val ≤ t.val → (nmL t.val).getD i.val ⟨#[]⟩ = nm6.getD i.val ⟨#[]⟩ := by decide +kernel
theorem nm_facts (t : Fin 6) : (nmL t.val).length = t.val + 1 ∧ (nmL t.val).Nodup ∧ (∀ s ∈ nmL t.val, nameB s = true ∧ numF s = none ∧ s.size ≤ 10 ∧ s ≠ ifsB) ∧ min (nmL t.val).length 100 - 1 = t.val ∧ ∀ i : Fin 6, i.val ≤ t.val → (nmL t.val).getD i.val ⟨#[]⟩ = nm6.getD i.val ⟨#[]⟩ ∧ nm6.getD i.val ⟨#[]⟩ ∈ nmL t.val := by
  obtain ⟨h1, h2, h3, h4, h5⟩ := nm_facts0 t
  refine ⟨h1, h2, h3, h4, fun i hi => ⟨h5 i hi, ?_⟩⟩
  rw [← h5 i hi]
  exact getD_mem' (by rw [h1]; omega) _
theorem ifs_env0 : ifsF env0 = blanksB := by decide +kernel
theorem expL_short : ∀ (r : Nat) (ws : List (List UInt8)), ws.length ≤ 8 → (∀ w ∈ ws, w.length ≤ 20) → ∀ x ∈ expL ws r, x.length ≤ 1000
  | 0, ws, h8, hw, x, hx => by
    have : x = joinW ws := by cases ws <;> simpa [expL] using hx
    have h1 := joinW_len hw
    rw [this]
    omega
  | r + 1, [], h8, hw, x, hx => by
    rw [(List.mem_replicate.1 (show x ∈ List.replicate (r + 2) [] from hx)).2]
    simp
  | r + 1, w :: ws, h8, hw, x, hx => by
    rcases List.mem_cons.1 (show x ∈ w :: expL ws r from hx) with rfl | hx
    · have := hw x (by simp); omega
    · exact expL_short r ws (by simp at h8; omega) (fun y hy => hw y (by simp [hy])) x hx
theorem get_of {S : EnvS} {s v : ByteArray} (hn : numF s = none) (h : tget S.vars s = some v) : getF S s = (v, true) := by
  unfold getF
  rw [hn, h]
  rfl
theorem reads_first {ws : List (List UInt8)} {raw : ByteArray} {t : Nat} (ht : t < 6) (hg : Good ws) (h8 : ws.length ≤ 8) (hw : ∀ w ∈ ws, w.length ≤ 20) (hraw : mkB (32 :: joinW ws ++ [32, 10, 109, 111, 114, 101]) = raw) :
    ∃ S1, readF env0 [raw] (nmL t) = (((0, ⟨#[]⟩, 0, 0, 0) : DoneT), S1) ∧ Rising S1.vars ∧ S1.vars.length ≤ 7 ∧ ifsF S1 = blanksB ∧ ∀ i, i ≤ t → getF S1 (nm6.getD i ⟨#[]⟩) = (mkB ((expL ws t).getD i []), true) := by
  obtain ⟨n1, n2, n3, n4, n5⟩ := nm_facts ⟨t, ht⟩
  dsimp only at n1 n2 n3 n4 n5
  have hl := line_read hg h8 hw
  rw [hraw] at hl
  have hwf := words_eq (r := t) hg hl
  obtain ⟨S', h1, h2, h3, h4, h5, h6⟩ := sets_ok (nmL t) ((expL ws t).map mkB) env0 (by rw [List.length_map, expL_len, n1]) n2 (fun s hs => (n3 s hs).1) (fun v hv => by
    obtain ⟨x, hx, rfl⟩ := List.mem_map.1 hv
    exact val_ok (expL_ge t ws hg x hx) (expL_short t ws h8 hw x hx)) (by simp [env0, Rising]) (by rw [n1]; simp [env0]; omega)
  have hifs : tget S'.vars ifsB = some blanksB := by
    rw [h6 ifsB (fun h => (n3 ifsB h).2.2.2 rfl)]
    rfl
  refine ⟨S', ?_, h3, by rw [n1] at h4; simp [env0] at h4; omega, by unfold ifsF; rw [hifs]; rfl, fun i hi => ?_⟩
  · unfold readF
    have e : (rdF [raw]).1 = readB raw := rfl
    rw [ifs_env0, e, n4, hwf, h1]
    rfl
  · obtain ⟨e1, e2⟩ := n5 ⟨i, by omega⟩ hi
    dsimp only at e1 e2
    refine get_of (n3 _ e2).2.1 ?_
    have h := h5 i (by rw [n1]; omega)
    rw [e1] at h
    rw [h, List.getD_eq_getElem?_getD, List.getElem?_map, List.getD_eq_getElem?_getD, List.getElem?_eq_getElem (show i < (expL ws t).length by rw [expL_len]; omega)]
    rfl
theorem reads_second {S1 : EnvS} {t : Nat} (ht : t < 6) (hr : Rising S1.vars) (hl : S1.vars.length ≤ 7) (hi : ifsF S1 = blanksB) : ∃ S2, readF S1 [] (nmL t) = ((1, ⟨#[]⟩, 0, 0, 0), S2) ∧ getF S2 ⟨#[97]⟩ = (⟨#[]⟩, true) := by
  obtain ⟨n1, n2, n3, n4, n5⟩ := nm_facts ⟨t, ht⟩
  dsimp only at n1 n2 n3 n4 n5
  obtain ⟨S', h1, h2, h3, h4, h5, h6⟩ := sets_ok (nmL t) (List.replicate (t + 1) ⟨#[]⟩) S1 (by rw [List.length_replicate, n1]) n2 (fun s hs => (n3 s hs).1) (fun v hv => by rw [(List.mem_replicate.1 hv).2]; decide +kernel) hr (by rw [n1]; omega)
  refine ⟨S', ?_, ?_⟩
  · unfold readF
    have e : (rdF []).1 = ⟨#[]⟩ := rfl
    rw [hi, e, n4, words_nil, h1]
    rfl
  · obtain ⟨e1, e2⟩ := n5 ⟨0, by omega⟩ (Nat.zero_le _)
    dsimp only at e1 e2
    have h := h5 0 (by rw [n1]; omega)
    rw [e1] at h
    have e3 : nm6.getD 0 ⟨#[]⟩ = ⟨#[97]⟩ := rfl
    rw [e3] at h e2
    exact get_of (n3 _ e2).2.1 h
theorem expL_get : ∀ (t : Nat) (ws : List (List UInt8)) (j : Nat), j ≤ t → (expL ws t).getD j [] = if j = t then joinW (ws.drop t) else (ws.drop j).headD []
  | 0, ws, j, h => by
    obtain rfl : j = 0 := by omega
    cases ws <;> rfl
  | t + 1, [], j, h => by
    have e : (expL [] (t + 1)).getD j [] = [] := by
      show (List.replicate (t + 2) ([] : List UInt8)).getD j [] = []
      rw [List.getD_eq_getElem?_getD, List.getElem?_replicate, if_pos (by omega)]
      rfl
    rw [e]
    simp [joinW]
  | t + 1, w :: ws, 0, h => by simp [expL]
  | t + 1, w :: ws, j + 1, h => by
    have ih := expL_get t ws j (by omega)
    show (expL ws t).getD j [] = _
    rw [ih]
    simp
theorem run_read_names (g m1 m2 gw gn : Nat) (S : EnvS) (rs : List ByteArray) (t : Nat) (ht : t < 6) (w : World) (hC : Kd.C Kd.string w (some ⟨gn, 0, none⟩) 7 (readCmd :: nm6)) (hg : gn ≠ m1 ∧ gn ≠ gw) (he : EnvIs w g m1 m2 S) (hw : WorIs w gw rs) :
    Calls Try.prog 14 #[.pointer (some ⟨g, 0, none⟩), .pointer (some ⟨gw, 0, none⟩), .slice (some ⟨gn, 0, none⟩) (t + 1 + 1) 7, .int .i64 5] w fun e w' => e = .returned (doneOf (readF S rs (nmL t)).1) ∧ EnvIs w' g m1 m2 (readF S rs (nmL t)).2 ∧ WorIs w' gw rs.tail ∧ Chg (fun k => k = m1 ∨ k = gw) w w' := by
  obtain ⟨n1, n2, n3, n4, n5⟩ := nm_facts ⟨t, ht⟩
  dsimp only at n1 n2 n3 n4 n5
  have h := run_read g m1 m2 gw S ⟨gn, 0, none⟩ 7 (nmL t) 5 w (by
    have h := e_C_take hC (t + 2) (by omega)
    rw [n1]
    exact h) (by rw [n1]; omega) (fun s hs => by have := (n3 s hs).2.2.1; omega) rs (by rw [n1]; omega) (by rw [n1]; omega) (fun s hs => (n3 s hs).1) hg hw he
  rw [n1] at h
  exact h
theorem world_New1 (raw : ByteArray) (hr : raw.size ≤ 1000000) (w : World) : Calls Try.prog 13 #[.agg #[.slice none 0 0, .slice none 0 0, .slice none 0 0, .slice none 0 0, .slice (some ⟨w.heap.size, 0, none⟩) 1 1, .int .i64 0]] (w.alloc (.cells #[.string raw] 9)) fun e w' => ∃ gw, e = .returned (.pointer (some ⟨gw, 0, none⟩)) ∧ WorIs w' gw [raw] ∧ Below w.heap.size w w' ∧ w.heap.size ≤ gw := by
  have hbl : Below w.heap.size w (w.alloc (.cells #[.string raw] 9)) := (Below.refl _ _).alloc (Nat.le_refl _) _
  refine (world_New (.slice none 0 0) (by rfl) (.slice none 0 0) (by rfl) none 0 [] none 0 [] (some ⟨w.heap.size, 0, none⟩) 1 [raw] 0 _ (Kd.C_nil _ _) (by simp) (Kd.C_nil _ _) (by simp) (lit_C w [raw] (by simp)) (by simp) (by simpa using hr) none 0 0 rfl none 0 0 rfl).mono ?_
  rintro e w' ⟨gw, rfl, hw, hb, hg⟩
  exact ⟨gw, rfl, hw, hbl.trans (hb.mono hbl.size), Nat.le_trans hbl.size hg⟩
end Go.Proofs.Ytfdjbjinomfgiaa
