/- The plain law of BuiltReads: what is read is told word by word. -/
import Derived.Test.YtfdjbjinomfgiaaRdM
namespace Go.Proofs.Ytfdjbjinomfgiaa
open Go.RowKit Go.Maps Go.Proofs.YtfdjbjinomfgiaaW.PrintWords
set_option linter.unusedSimpArgs false
set_option linter.unusedVariables false

/-- Words with two blanks between them. -/
def joinW : List (List UInt8) → List UInt8
  | [] => []
  | [w] => w
  | w :: x :: r => w ++ 32 :: 32 :: joinW (x :: r)
def expL : List (List UInt8) → Nat → List (List UInt8)
  | ws, 0 => [joinW ws]
  | [], r + 1 => List.replicate (r + 2) []
  | w :: ws, r + 1 => w :: expL ws r
def Good (ws : List (List UInt8)) : Prop := ∀ w ∈ ws, w ≠ [] ∧ ∀ c ∈ w, 32 < c
theorem in_blank : inB blanksB 32 = true := by decide +kernel
theorem in_dark {c : UInt8} (h : 32 < c) : inB blanksB c = false := by
  unfold inB
  have e : blanksB.data.toList = [32, 9, 10] := rfl
  rw [e, decide_eq_false_iff_not]
  intro hm
  have hn : (32 : UInt8).toNat < c.toNat := UInt8.lt_iff_toNat_lt.1 h
  simp at hm
  rcases hm with rfl | rfl | rfl <;> simp at hn
theorem takeWhile_app {p : UInt8 → Bool} {a b : List UInt8} (ha : ∀ c ∈ a, p c = true) (hb : ∀ c, b.head? = some c → p c = false) : (a ++ b).takeWhile p = a := by
  rw [List.takeWhile_append_of_pos ha]
  cases b with
  | nil => simp
  | cons c r => rw [List.takeWhile_cons, if_neg (by rw [hb c rfl]; simp), List.append_nil]
theorem adv_app {p : UInt8 → Bool} {l a b : List UInt8} {k : Nat} (h : l.drop k = a ++ b) (ha : ∀ c ∈ a, p c = true) (hb : ∀ c, b.head? = some c → p c = false) : adv p l k = k + a.length := by
  unfold adv
  rw [h, takeWhile_app ha hb]
theorem joinW_head {w : List UInt8} {ws : List (List UInt8)} (h : Good (w :: ws)) : ∃ c r, w = c :: r ∧ 32 < c := by
  obtain ⟨h1, h2⟩ := h w (by simp)
  cases w with
  | nil => exact absurd rfl h1
  | cons c r => exact ⟨c, r, rfl, h2 c (by simp)⟩
theorem joinW_cons (w : List UInt8) (ws : List (List UInt8)) : joinW (w :: ws) = w ++ (if ws = [] then [] else [32, 32]) ++ joinW ws := by
  cases ws with
  | nil => simp [joinW]
  | cons x r => simp [joinW]
theorem joinW_last : ∀ {ws : List (List UInt8)}, Good ws → ws ≠ [] → ∃ a c, joinW ws = a ++ [c] ∧ 32 < c
  | [w], h, _ => by
    obtain ⟨h1, h2⟩ := h w (by simp)
    refine ⟨w.dropLast, w.getLast h1, ?_, h2 _ (List.getLast_mem h1)⟩
    show w = _
    rw [List.dropLast_concat_getLast]
  | w :: x :: r, h, _ => by
    obtain ⟨a, c, e, hc⟩ := joinW_last (ws := x :: r) (fun y hy => h y (by simp [hy])) (by simp)
    exact ⟨w ++ 32 :: 32 :: a, c, by show w ++ 32 :: 32 :: joinW (x :: r) = _; rw [e]; simp, hc⟩
theorem dropWhile_app {p : UInt8 → Bool} {a b : List UInt8} (ha : ∀ c ∈ a, p c = true) (hb : ∀ c, b.head? = some c → p c = false) : (a ++ b).dropWhile p = b := by
  induction a with
  | nil =>
    cases b with
    | nil => rfl
    | cons c r => rw [List.nil_append, List.dropWhile_cons, if_neg (by rw [hb c rfl]; simp)]
  | cons c r ih =>
    rw [List.cons_append, List.dropWhile_cons, if_pos (ha c (by simp))]
    exact ih (fun d hd => ha d (by simp [hd]))
theorem trim_join {bl : List UInt8} {ws : List (List UInt8)} (hg : Good ws) (hbl : ∀ c ∈ bl, inB blanksB c = true) : trimL (inB blanksB) (bl ++ joinW ws ++ [32]) = joinW ws := by
  unfold trimL
  cases ws with
  | nil =>
    have e : (bl ++ joinW [] ++ [32]).dropWhile (inB blanksB) = [] := by
      rw [show bl ++ joinW [] ++ [32] = (bl ++ [32]) ++ [] from by simp [joinW]]
      refine dropWhile_app (fun c hc => ?_) (by simp)
      rcases List.mem_append.1 hc with hc | hc
      · exact hbl c hc
      · rw [List.mem_singleton] at hc
        rw [hc]
        exact in_blank
    rw [e]
    rfl
  | cons w r =>
    obtain ⟨c, t, e, hc⟩ := joinW_head hg
    obtain ⟨a, d, e2, hd⟩ := joinW_last hg (by simp)
    have hh : (joinW (w :: r) ++ [32]).head? = some c := by rw [joinW_cons, e]; rfl
    rw [List.append_assoc, dropWhile_app hbl (fun c' h => by rw [hh] at h; rw [← Option.some.inj h]; exact in_dark hc), e2, List.reverse_append, List.reverse_append]
    show (([32] ++ ([d] ++ a.reverse)).dropWhile (inB blanksB)).reverse = _
    rw [dropWhile_app (a := [32]) (fun c' h => by rw [List.mem_singleton.1 h]; exact in_blank) (fun c' h => by rw [← Option.some.inj (show some d = some c' from h)]; exact in_dark hd)]
    simp
theorem words_exp (s0 : ByteArray) : ∀ (r : Nat) (ws : List (List UInt8)) (p : Nat) (bl : List UInt8), Good ws → (∀ c ∈ bl, inB blanksB c = true) → s0.data.toList.drop p = bl ++ joinW ws ++ [32] → p ≤ s0.size → (wordsF blanksB s0 r p).map (fun x => x.data.toList) = expL ws r
  | 0, ws, p, bl, hg, hbl, hd, hp => by
    show [trimL (inB blanksB) (s0.extract p s0.size).data.toList] = _
    rw [list_extract, List.take_of_length_le (by rw [List.length_drop]; exact Nat.le_refl _), hd, trim_join hg hbl]
    cases ws <;> rfl
  | r + 1, [], p, bl, hg, hbl, hd, hp => by
    have hall : ∀ c ∈ bl ++ [32], inB blanksB c = true := fun c hc => by
      rcases List.mem_append.1 hc with hc | hc
      · exact hbl c hc
      · rw [List.mem_singleton.1 hc]; exact in_blank
    have h1 : adv (inB blanksB) s0.data.toList p = p + (bl ++ [32]).length := adv_app (b := []) (by rw [hd]; simp [joinW]) hall (by simp)
    have hlen : p + (bl ++ [32]).length = s0.data.toList.length := by
      have := congrArg List.length hd
      rw [List.length_drop] at this
      simp [joinW] at this
      have hsz : s0.data.toList.length = s0.size := rfl
      simp
      omega
    have h2 : adv (fun c => !inB blanksB c) s0.data.toList (p + (bl ++ [32]).length) = p + (bl ++ [32]).length := adv_stop (fun h => by omega)
    have hn : nextF blanksB s0 p = (p + (bl ++ [32]).length, p + (bl ++ [32]).length) := by unfold nextF; rw [h1, h2]
    unfold wordsF
    rw [hn, if_neg (Nat.lt_irrefl _), List.map_replicate]
    rfl
  | r + 1, w :: ws, p, bl, hg, hbl, hd, hp => by
    obtain ⟨hw1, hw2⟩ := hg w (by simp)
    obtain ⟨c, t, e, hc⟩ := joinW_head hg
    rw [joinW_cons] at hd
    have hd2 : s0.data.toList.drop p = bl ++ (w ++ ((if ws = [] then [] else [32, 32]) ++ joinW ws ++ [32])) := by rw [hd]; simp
    have h1 : adv (inB blanksB) s0.data.toList p = p + bl.length := adv_app hd2 hbl (fun c' h => by rw [e] at h; rw [← Option.some.inj (show some c = some c' from h)]; exact in_dark hc)
    have hd3 : s0.data.toList.drop (p + bl.length) = w ++ ((if ws = [] then [] else [32, 32]) ++ joinW ws ++ [32]) := by
      rw [← List.drop_drop, hd2, List.drop_left]
    have h2 : adv (fun c => !inB blanksB c) s0.data.toList (p + bl.length) = p + bl.length + w.length := adv_app hd3 (fun c' h => by rw [in_dark (hw2 c' h)]; rfl) (fun c' h => by
      have : c' = 32 := by
        cases ws with
        | nil => exact (Option.some.inj (show some 32 = some c' from h)).symm
        | cons x r => exact (Option.some.inj (show some 32 = some c' from h)).symm
      rw [this, in_blank]
      rfl)
    have hd4 : s0.data.toList.drop (p + bl.length + w.length) = (if ws = [] then [] else [32, 32]) ++ joinW ws ++ [32] := by
      rw [← List.drop_drop, hd3, List.drop_left]
    have hn : nextF blanksB s0 p = (p + bl.length, p + bl.length + w.length) := by unfold nextF; rw [h1, h2]
    have hwl : 0 < w.length := List.length_pos_iff.2 hw1
    unfold wordsF
    rw [hn, if_pos (by omega), List.map_cons, list_extract, hd3, show p + bl.length + w.length - (p + bl.length) = w.length from by omega, List.take_left]
    show w :: _ = w :: _
    congr 1
    refine words_exp s0 r ws _ (if ws = [] then [] else [32, 32]) (fun y hy => hg y (by simp [hy])) (fun c hc => ?_) hd4 ?_
    · split at hc
      · cases hc
      · have : c = 32 := by simpa using hc
        rw [this]; exact in_blank
    · have := congrArg List.length hd2
      rw [List.length_drop] at this
      simp at this
      have hsz : s0.data.toList.length = s0.size := rfl
      omega

theorem sets_ok : ∀ (ns vs : List ByteArray) (S : EnvS), vs.length = ns.length → ns.Nodup → (∀ s ∈ ns, nameB s = true) → (∀ v ∈ vs, valB v = true) → Rising S.vars → S.vars.length + ns.length ≤ 100 →
    ∃ S', setsF S ns vs = (0, S') ∧ S'.args = S.args ∧ Rising S'.vars ∧ S'.vars.length ≤ S.vars.length + ns.length ∧ (∀ i, i < ns.length → tget S'.vars (ns.getD i ⟨#[]⟩) = some (vs.getD i ⟨#[]⟩)) ∧ ∀ t, t ∉ ns → tget S'.vars t = tget S.vars t
  | [], vs, S, _, _, _, _, hr, _ => ⟨S, rfl, rfl, hr, Nat.le_refl _, fun i hi => absurd hi (Nat.not_lt_zero _), fun _ _ => rfl⟩
  | n :: ns, [], S, hl, _, _, _, _, _ => by simp at hl
  | n :: ns, v :: vs, S, hl, hd, hn, hv, hr, hc => by
    obtain ⟨hd1, hd2⟩ := List.nodup_cons.1 hd
    have hset : setF S n v = (0, { S with vars := tput S.vars n v }) := by
      unfold setF
      rw [hn n (by simp), hv v (by simp), if_neg (by simp), if_neg (by simp at hc; simp; omega)]
    have hlen := tput_length hr (s := n) v
    have hlen2 : (tput S.vars n v).length ≤ S.vars.length + 1 := by rw [hlen]; split <;> omega
    obtain ⟨S', h1, h2, h3, h4, h5, h6⟩ := sets_ok ns vs { S with vars := tput S.vars n v } (by simpa using hl) hd2 (fun s hs => hn s (by simp [hs])) (fun x hx => hv x (by simp [hx])) (tput_rising hr n v) (by simp at hc ⊢; omega)
    refine ⟨S', ?_, h2, h3, by simp at h4 ⊢; omega, fun i hi => ?_, fun t ht => ?_⟩
    · show (if (setF S n v).1 = 0 then setsF (setF S n v).2 ns vs else _) = _
      rw [hset, if_pos rfl]
      exact h1
    · cases i with
      | zero =>
        show tget S'.vars n = some v
        rw [h6 n hd1]
        exact tget_tput _ _ _
      | succ i => exact h5 i (by simpa using hi)
    · rw [h6 t (fun h => ht (by simp [h]))]
      exact tget_tput_other (fun e => ht (by simp [e])) v
def mkB (l : List UInt8) : ByteArray := ⟨l.toArray⟩
theorem mkB_list (l : List UInt8) : (mkB l).data.toList = l := rfl
theorem words_eq {s0 : ByteArray} {r : Nat} {ws : List (List UInt8)} (hg : Good ws) (hs : s0.data.toList = 32 :: joinW ws ++ [32]) : wordsF blanksB s0 r 0 = (expL ws r).map mkB := by
  have h := words_exp s0 r ws 0 [32] hg (fun c hc => by rw [List.mem_singleton.1 hc]; exact in_blank) (by rw [hs]; simp) (Nat.zero_le _)
  rw [← h, List.map_map]
  exact (List.map_id' _).symm
theorem words_nil (r : Nat) : wordsF blanksB ⟨#[]⟩ r 0 = List.replicate (r + 1) ⟨#[]⟩ := by
  cases r with
  | zero => rfl
  | succ r =>
    have hn : nextF blanksB ⟨#[]⟩ 0 = (0, 0) := rfl
    unfold wordsF
    rw [hn, if_neg (Nat.lt_irrefl _)]
theorem joinW_ge {ws : List (List UInt8)} (h : Good ws) : ∀ c ∈ joinW ws, 32 ≤ c := by
  induction ws with
  | nil => simp [joinW]
  | cons w r ih =>
    rw [joinW_cons]
    intro c hc
    rcases List.mem_append.1 hc with hc | hc
    · rcases List.mem_append.1 hc with hc | hc
      · exact UInt8.le_of_lt ((h w (by simp)).2 c hc)
      · split at hc
        · cases hc
        · have : c = 32 := by simpa using hc
          rw [this]; exact UInt8.le_refl _
    · exact ih (fun y hy => h y (by simp [hy])) c hc
theorem expL_ge : ∀ (r : Nat) (ws : List (List UInt8)), Good ws → ∀ x ∈ expL ws r, ∀ c ∈ x, 32 ≤ c
  | 0, ws, h, x, hx, c, hc => by
    have : x = joinW ws := by cases ws <;> simpa [expL] using hx
    rw [this] at hc
    exact joinW_ge h c hc
  | r + 1, [], h, x, hx, c, hc => by
    rw [(List.mem_replicate.1 (show x ∈ List.replicate (r + 2) [] from hx)).2] at hc
    cases hc
  | r + 1, w :: ws, h, x, hx, c, hc => by
    rcases List.mem_cons.1 (show x ∈ w :: expL ws r from hx) with rfl | hx
    · exact UInt8.le_of_lt ((h x (by simp)).2 c hc)
    · exact expL_ge r ws (fun y hy => h y (by simp [hy])) x hx c hc
theorem expL_len : ∀ (r : Nat) (ws : List (List UInt8)), (expL ws r).length = r + 1
  | 0, ws => by cases ws <;> rfl
  | r + 1, [] => by simp [expL]
  | r + 1, w :: ws => by simp [expL, expL_len r ws]
theorem joinW_len {ws : List (List UInt8)} (h : ∀ w ∈ ws, w.length ≤ 20) : (joinW ws).length ≤ 22 * ws.length := by
  induction ws with
  | nil => simp [joinW]
  | cons w r ih =>
    have h1 := h w (by simp)
    have h2 := ih (fun y hy => h y (by simp [hy]))
    rw [joinW_cons]
    split <;> simp <;> omega
theorem takeWhile_all {p : UInt8 → Bool} {l : List UInt8} (h : ∀ c ∈ l, p c = true) : l.takeWhile p = l := by
  have := takeWhile_app (p := p) (a := l) (b := []) h (by simp)
  simpa using this
theorem line_read {ws : List (List UInt8)} (h : Good ws) (hl : ws.length ≤ 8) (hw : ∀ w ∈ ws, w.length ≤ 20) : (readB (mkB (32 :: joinW ws ++ [32, 10, 109, 111, 114, 101]))).data.toList = 32 :: joinW ws ++ [32] := by
  have hlen := joinW_len hw
  have hge := joinW_ge h
  show (cutL (32 :: joinW ws ++ [32, 10, 109, 111, 114, 101]) [0, 10]).take 1000 = _
  have key : ∀ c : UInt8, 32 ≤ c → c ≠ 0 ∧ c ≠ 10 := fun c hc => by
    have hn : (32 : UInt8).toNat ≤ c.toNat := UInt8.le_iff_toNat_le.1 hc
    constructor <;> rintro rfl <;> simp at hn
  have e1 : cutL (32 :: joinW ws ++ [32, 10, 109, 111, 114, 101]) [0, 10] = 32 :: joinW ws ++ [32] := by
    show ((32 :: joinW ws ++ [32, 10, 109, 111, 114, 101]).takeWhile (fun x => x != 0)).takeWhile (fun x => x != 10) = _
    rw [takeWhile_all (p := fun x => x != 0)]
    · rw [show 32 :: joinW ws ++ [32, 10, 109, 111, 114, 101] = (32 :: joinW ws ++ [32]) ++ [10, 109, 111, 114, 101] from by simp]
      refine takeWhile_app (fun c hc => ?_) (fun c hc => by rw [← Option.some.inj (show some 10 = some c from hc)]; rfl)
      simp at hc
      rcases hc with rfl | hc | rfl
      · rfl
      · simpa using (key c (hge c hc)).2
      · rfl
    · intro c hc
      simp at hc
      rcases hc with rfl | hc | rfl | rfl | rfl | rfl | rfl | rfl
      · rfl
      · simpa using (key c (hge c hc)).1
      all_goals rfl
  rw [e1, List.take_of_length_le]
  simp
  omega
theorem val_ok {x : List UInt8} (h : ∀ c ∈ x, 32 ≤ c) (hl : x.length ≤ 1000) : valB (mkB x) = true := by
  unfold valB ebyteB
  have h1 : (mkB x).size ≤ 4096 := by show x.length ≤ 4096; omega
  have h2 : (0 : UInt8) ∉ (mkB x).data.toList := fun hm => by
    have := h 0 hm
    have hn : (32 : UInt8).toNat ≤ (0 : UInt8).toNat := UInt8.le_iff_toNat_le.1 this
    simp at hn
  simp [h1, h2]
end Go.Proofs.Ytfdjbjinomfgiaa
