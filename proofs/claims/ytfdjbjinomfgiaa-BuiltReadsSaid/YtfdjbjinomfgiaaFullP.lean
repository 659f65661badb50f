/- TreeFull: what is plain: names, numbers. -/
import Derived.Test.YtfdjbjinomfgiaaTreeB
import Derived.Test.YtfdjbjinomfgiaaDigits
import Derived.Laws.Bits128
namespace Go.Proofs.Ytfdjbjinomfgiaa
open Go.RowKit Go.Proofs.YtfdjbjinomfgiaaW.PrintWords

theorem i64_mask (n m : Int) (j : Nat) (hm : (BitVec.ofInt 64 m).toNat = 2 ^ j - 1) (hj : j ≤ 62) : bits .and .i64 n m = n % ((2 ^ j : Nat) : Int) := by
  have key : (BitVec.ofInt 64 n &&& BitVec.ofInt 64 m).toNat = (n % ((2 ^ 64 : Nat) : Int)).toNat % 2 ^ j := by
    rw [BitVec.toNat_and, BitVec.toNat_ofInt, hm, Nat.and_two_pow_sub_one_eq_mod]
  show IntKind.i64.wrap ((BitVec.ofInt 64 n &&& BitVec.ofInt 64 m).toNat : Nat) = n % ((2 ^ j : Nat) : Int)
  rw [key, IntKind.wrap_i64]
  have h1 : (2 : Nat) ^ j ≤ 2 ^ 62 := Nat.pow_le_pow_right (by omega) hj
  have h2 : 0 < (2 : Nat) ^ j := Nat.two_pow_pos j
  have h3 : (n % ((2 ^ 64 : Nat) : Int)).toNat % 2 ^ j < 2 ^ j := Nat.mod_lt _ h2
  have h4 : (((n % ((2 ^ 64 : Nat) : Int)).toNat % 2 ^ j : Nat) : Int) = n % ((2 ^ j : Nat) : Int) := by
    rw [Int.natCast_emod, Int.toNat_of_nonneg (Int.emod_nonneg _ (by decide))]
    refine Int.emod_emod_of_dvd n ?_
    exact Int.natCast_dvd_natCast.2 (Nat.pow_dvd_pow 2 (by omega))
  rw [h4]
  have h5 := Int.emod_nonneg n (b := ((2 ^ j : Nat) : Int)) (by omega)
  have h6 := Int.emod_lt_of_pos n (b := ((2 ^ j : Nat) : Int)) (by omega)
  have h7 : ((2 ^ j : Nat) : Int) ≤ 4611686018427387904 := by
    have : (2 : Nat) ^ 62 = 4611686018427387904 := by decide
    omega
  omega
theorem mask_nat (n m : Int) (j : Nat) (hm : (BitVec.ofInt 64 m).toNat = 2 ^ j - 1) (hj : j ≤ 62) : ∃ a : Nat, bits .and .i64 n m = (a : Int) ∧ a < 2 ^ j := by
  have h := i64_mask n m j hm hj
  have h2 : 0 < (2 : Nat) ^ j := Nat.two_pow_pos j
  have h5 := Int.emod_nonneg n (b := ((2 ^ j : Nat) : Int)) (by omega)
  have h6 := Int.emod_lt_of_pos n (b := ((2 ^ j : Nat) : Int)) (by omega)
  exact ⟨(n % ((2 ^ j : Nat) : Int)).toNat, by rw [h]; omega, by omega⟩

theorem dgA_size : ∀ (d u : Nat) (acc : ByteArray), (dgA d u acc).size ≤ acc.size + d
  | 0, _, _ => by simp [dgA]
  | d + 1, u, acc => by
    unfold dgA
    split
    · rw [ByteArray.size_append, ten_one _ (by omega)]; omega
    · have := dgA_size d (u / 10) (tenB.extract (u % 10) (u % 10 + 1) ++ acc)
      rw [ByteArray.size_append, ten_one _ (by omega)] at this
      omega
theorem dgs_size (n : Nat) : (dgs n).size ≤ 20 := by
  have h := dgA_size 20 n ⟨#[]⟩
  have h0 : (⟨#[]⟩ : ByteArray).size = 0 := rfl
  unfold dgs
  omega

def fB : ByteArray := ⟨#[102]⟩
/-- The names of the law: f0, f1, .. -/
def fNames (n : Nat) : List ByteArray := (List.range n).map fun i => fB ++ dgs i
theorem fNames_succ (n : Nat) : fNames (n + 1) = fNames n ++ [fB ++ dgs n] := by simp [fNames, List.range_succ]
theorem fNames_len (n : Nat) : (fNames n).length = n := by simp [fNames]
theorem fNames_take {n m : Nat} (h : n ≤ m) : fNames n = (fNames m).take n := by
  unfold fNames
  rw [← List.map_take, List.take_range, Nat.min_eq_left h]
def sMore : ByteArray := ⟨#[109, 111, 114, 101]⟩
def sF0 : ByteArray := ⟨#[102, 48]⟩
theorem f206_nodup : (fNames 206).Nodup := by decide +kernel
theorem f206_ok : ∀ s ∈ fNames 206, fileOkB s = true := by decide +kernel
theorem f206_more : ∀ s ∈ fNames 206, s ≠ sMore := by decide +kernel
theorem f_nodup {n : Nat} (h : n ≤ 206) : (fNames n).Nodup := by rw [fNames_take h]; exact f206_nodup.sublist (List.take_sublist _ _)
theorem f_ok {n : Nat} (h : n ≤ 206) : ∀ s ∈ fNames n, fileOkB s = true := fun s hs => f206_ok s (by rw [fNames_take h] at hs; exact List.mem_of_mem_take hs)
theorem f_size {n : Nat} : ∀ s ∈ fNames n, s.size ≤ maxLen := by
  intro s hs
  obtain ⟨i, _, rfl⟩ := List.mem_map.1 hs
  rw [ByteArray.size_append]
  have := dgs_size i
  have : fB.size = 1 := rfl
  unfold maxLen
  omega
theorem makeF_put {L : Names} {s : ByteArray} (hf : fileOkB s = true) (hl : L.length < 200) : makeF L s = (true, tput L s ()) := by
  unfold makeF
  rw [if_neg (by simp [hf]; omega)]
theorem makeF_full {L : Names} {s : ByteArray} (hg : tget L s = none) (hl : 200 ≤ L.length) : makeF L s = (false, L) := by
  unfold makeF
  rw [if_pos (by simp [hg, hl])]
theorem makeF_bad {L : Names} {s : ByteArray} (hf : fileOkB s = false) : makeF L s = (false, L) := by
  unfold makeF
  rw [if_pos (by simp [hf])]
theorem makeF_there {L : Names} {s : ByteArray} (hf : fileOkB s = true) (hg : (tget L s).isSome = true) : (makeF L s).1 = true := by
  unfold makeF
  rw [if_neg (by simp [hf, hg])]
theorem tget_makeF {L : Names} {s t : ByteArray} (hne : s ≠ t) : tget (makeF L s).2 t = tget L t := by
  unfold makeF
  split
  · rfl
  · exact tget_tput_other hne ()
theorem tget_makeF_some {L : Names} {s t : ByteArray} (h : (tget L t).isSome = true) : (tget (makeF L s).2 t).isSome = true := by
  by_cases hne : s = t
  · subst hne
    unfold makeF
    split
    · exact h
    · show (tget (tput L s ()) s).isSome = true
      rw [tget_tput]; rfl
  · rw [tget_makeF hne]; exact h
theorem makeAll_len : ∀ (names : List ByteArray) (L : Names), Rising L → L.length ≤ 200 → names.Nodup → (∀ s ∈ names, fileOkB s = true ∧ tget L s = none) → (makeAll names L).length = min (L.length + names.length) 200
  | [], L, _, hl, _, _ => by show L.length = _; simp; omega
  | s :: r, L, hr, hl, hn, ha => by
    obtain ⟨hn1, hn2⟩ := List.nodup_cons.1 hn
    obtain ⟨hs1, hs2⟩ := ha s (by simp)
    show (makeAll r (makeF L s).2).length = _
    by_cases hf : L.length < 200
    · rw [makeF_put hs1 hf]
      have hlen : (tput L s ()).length = L.length + 1 := by rw [tput_length hr, hs2]; rfl
      rw [makeAll_len r (tput L s ()) (tput_rising hr s ()) (by omega) hn2 (fun t ht => ⟨(ha t (by simp [ht])).1, by
        have hne : s ≠ t := fun e => hn1 (e ▸ ht)
        rw [tget_tput_other hne]
        exact (ha t (by simp [ht])).2⟩), hlen, List.length_cons]
      congr 1
      omega
    · rw [makeF_full hs2 (by omega), makeAll_len r L hr hl hn2 (fun t ht => ha t (by simp [ht])), List.length_cons]
      omega
theorem makeAll_none : ∀ (names : List ByteArray) (L : Names) (t : ByteArray), t ∉ names → tget (makeAll names L) t = tget L t
  | [], _, _, _ => rfl
  | s :: r, L, t, h => by
    show tget (makeAll r (makeF L s).2) t = _
    rw [makeAll_none r _ t (fun hh => h (by simp [hh])), tget_makeF (fun e => h (by simp [e]))]
theorem makeAll_some : ∀ (names : List ByteArray) (L : Names) (t : ByteArray), (tget L t).isSome = true → (tget (makeAll names L) t).isSome = true
  | [], _, _, h => h
  | _ :: r, _, t, h => makeAll_some r _ t (tget_makeF_some h)

theorem full_len {a : Nat} (h : a ≤ 8) : (makeAll (fNames (198 + a)) []).length = min (198 + a) 200 := by
  rw [makeAll_len _ _ (by simp [Rising]) (by simp) (f_nodup (by omega)) (fun s hs => ⟨f_ok (by omega) s hs, rfl⟩), fNames_len]
  simp
theorem more_not {a : Nat} (h : a ≤ 8) : tget (makeAll (fNames (198 + a)) []) sMore = none := by
  rw [makeAll_none _ _ _ (fun hm => ?_)]
  · rfl
  · rw [fNames_take (m := 206) (by omega)] at hm
    exact f206_more _ (List.mem_of_mem_take hm) rfl
theorem f0_there {a : Nat} : (tget (makeAll (fNames (198 + a)) []) sF0).isSome = true := by
  have e : fNames (198 + a) = (fB ++ dgs 0) :: ((List.range (197 + a)).map fun i => fB ++ dgs (i + 1)) := by
    unfold fNames
    rw [show 198 + a = (197 + a) + 1 by omega, List.range_succ_eq_map]
    simp
  rw [e]
  show (tget (makeAll _ (makeF [] (fB ++ dgs 0)).2) sF0).isSome = true
  exact makeAll_some _ _ _ (by decide +kernel)
def xs (k : Nat) : ByteArray := ⟨(List.replicate k 120).toArray⟩
theorem xs_size (k : Nat) : (xs k).size = k := by simp [xs, ByteArray.size]
theorem xs_succ (k : Nat) : xs k ++ ⟨#[120]⟩ = xs (k + 1) := by
  apply data_inj
  simp [xs, List.replicate_succ']
theorem xs_ok (k : Nat) : fileOkB (xs k) = (decide (1 ≤ k) && decide (k ≤ 100)) := by
  unfold fileOkB hasB
  rw [xs_size]
  have h0 : ∀ c : UInt8, c ≠ 120 → decide (c ∈ (xs k).data.toList) = false := by
    intro c hc
    refine decide_eq_false fun h => hc ?_
    simp [xs] at h
    exact h.2
  rw [h0 0 (by decide), h0 47 (by decide)]
  simp
end Go.Proofs.Ytfdjbjinomfgiaa
