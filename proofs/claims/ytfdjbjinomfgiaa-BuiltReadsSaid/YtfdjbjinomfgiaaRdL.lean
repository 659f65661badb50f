/- Fields of a text: the next one from a place on. -/
import Derived.Test.YtfdjbjinomfgiaaEnvH
namespace Go.Proofs.Ytfdjbjinomfgiaa
open Go.RowKit Go.Maps Go.Proofs.YtfdjbjinomfgiaaW.PrintWords Go.Proofs.YtfdjbjinomfgiaaW.PrintLast Go.Proofs.YtfdjbjinomfgiaaW.PrintMore
set_option linter.unusedSimpArgs false
set_option linter.unusedVariables false

def inB (ifs : ByteArray) (c : UInt8) : Bool := decide (c ∈ ifs.data.toList)
theorem in_index (ifs : ByteArray) (c : UInt8) : decide (0 ≤ Lib.indexByte ifs.data.toList c) = inB ifs c := by
  have h := e_index_neg c ifs.data.toList
  unfold inB
  by_cases h1 : Lib.indexByte ifs.data.toList c < 0
  · rw [decide_eq_true h1] at h
    have : ¬ (0 ≤ Lib.indexByte ifs.data.toList c) := by omega
    rw [decide_eq_false this]
    simpa using h
  · rw [decide_eq_false h1] at h
    have : 0 ≤ Lib.indexByte ifs.data.toList c := by omega
    rw [decide_eq_true this]
    simpa using h
/-- How far the bytes of a kind go, from a place on. -/
def adv (p : UInt8 → Bool) (l : List UInt8) (k : Nat) : Nat := k + ((l.drop k).takeWhile p).length
theorem adv_step {p : UInt8 → Bool} {l : List UInt8} {k : Nat} (h : k < l.length) (hp : p (l.getD k 0) = true) : adv p l k = adv p l (k + 1) := by
  unfold adv
  rw [List.drop_eq_getElem_cons h, List.takeWhile_cons]
  have : p l[k] = true := by simpa [List.getD_eq_getElem?_getD, List.getElem?_eq_getElem h] using hp
  rw [if_pos this, List.length_cons]
  omega
theorem adv_stop {p : UInt8 → Bool} {l : List UInt8} {k : Nat} (hp : k < l.length → p (l.getD k 0) = false) : adv p l k = k := by
  unfold adv
  by_cases h : k < l.length
  · rw [List.drop_eq_getElem_cons h, List.takeWhile_cons]
    have : p l[k] = false := by simpa [List.getD_eq_getElem?_getD, List.getElem?_eq_getElem h] using hp h
    rw [if_neg (by rw [this]; simp)]
    rfl
  · rw [List.drop_eq_nil_of_le (by omega)]
    rfl
theorem adv_ge (p : UInt8 → Bool) (l : List UInt8) (k : Nat) : k ≤ adv p l k := Nat.le_add_right _ _
theorem adv_le {p : UInt8 → Bool} {l : List UInt8} {k : Nat} (h : k ≤ l.length) : adv p l k ≤ l.length := by
  unfold adv
  have h1 := (List.takeWhile_sublist p (l := l.drop k)).length_le
  rw [List.length_drop] at h1
  omega
set_option maxHeartbeats 400000 in
theorem split_in (ifs : ByteArray) (c : UInt8) (b : Bool) (hb : inB ifs c = b) (w : World) : Calls Try.prog 187 #[.string ifs, .int .u8 (c.toNat : Int)] w fun e w' => e = .returned (.bool b) ∧ w' = w := by
  have K := in_index ifs c
  rw [hb] at K
  have K := Aside0.mk K
  have HC := Aside0.mk (show ((c.toNat : Int)).toNat.toUInt8 = c from by simp)
  clear hb
  go_enter Try.func187, Try.ntmps187
  go_wp2_with (go_at_call 83; refine (Try.strings_IndexByte _ _ _).mono ?_; rintro e w' ⟨rfl, rfl⟩; rw [HC.out])
  all_goals
    go_ret
    refine ⟨e_ret_bool ?_, rfl⟩
    rw [← K.out]
    try simp [*]
theorem byte_at {s : ByteArray} {k : Nat} (h : k < s.size) : s[k] = s.data.toList.getD k 0 := by
  have h2 : k < s.data.toList.length := h
  rw [List.getD_eq_getElem?_getD, List.getElem?_eq_getElem h2]
  rfl
/-- The next field. -/
def nextF (ifs s : ByteArray) (at_ : Nat) : Nat × Nat := (adv (inB ifs) s.data.toList at_, adv (fun c => !inB ifs c) s.data.toList (adv (inB ifs) s.data.toList at_))
set_option maxHeartbeats 4000000 in
set_option maxRecDepth 100000 in
theorem split_next (s ifs : ByteArray) (at_ f t : Nat) (hs : s.size ≤ 1000000) (ha : at_ ≤ s.size) (hf : nextF ifs s at_ = (f, t)) (w : World) :
    Calls Try.prog 168 #[.string s, .string ifs, .int .i64 at_] w fun e w' => e = .returned (.tuple #[.int .i64 f, .int .i64 t, .bool (decide (f < t))]) ∧ w' = w := by
  have HF := Aside0.mk hf
  have HS := Aside0.mk hs
  have HA := Aside0.mk ha
  have HSZ := Aside0.mk (show s.size = s.data.toList.length from rfl)
  clear hf hs ha
  go_enter Try.func168, Try.ntmps168
  go_wp2_with fail
  go_loopw [2] (fun v wr => ∃ k : Nat, k ≤ s.size ∧ v = .int .i64 k ∧ Aside0 (adv (inB ifs) s.data.toList k = f) ∧ wr = w) (fun v _ => s.size - (intOf v).toNat)
  case atStart => exact ⟨at_, HA.out, rfl, ⟨congrArg Prod.fst HF.out⟩, rfl⟩
  case round =>
    obtain ⟨k, hk, rfl, HK, rfl⟩ := hrel
    by_cases hlt : k < s.size
    · have hl1 : (k : Int) < (s.size : Int) := by omega
      have hs' : (s.size : Int) ≤ 1000000 := by have := HS.out; omega
      have HLT := Aside0.mk hlt
      have KLE := Aside0.mk hk
      clear hk hlt
      go_wp2_with fail
      have hb := byte_at HLT.out
      obtain ⟨c, hc⟩ : ∃ c, s.data.toList.getD k 0 = c := ⟨_, rfl⟩
      rw [hc] at hb
      rw [hb]
      have HC := Aside0.mk hc
      clear hb hc
      obtain ⟨b, hb⟩ : ∃ b, inB ifs c = b := ⟨_, rfl⟩
      have HB := Aside0.mk hb
      clear hb
      refine (split_in ifs c b HB.out _).mono ?_
      rintro e wr ⟨rfl, rfl⟩
      cases b with
      | true =>
        go_wp2_with fail
        go_roundw
        case rel => exact ⟨k + 1, HLT.out, by go_num, ⟨by rw [← HK.out]; exact (adv_step (p := inB ifs) HLT.out (by rw [HC.out]; exact HB.out)).symm⟩, by first | rfl | trivial⟩
        case measure => have := HLT.out; simp [intOf]; omega
      | false =>
        have HKF := Aside0.mk (show k = f from by rw [← HK.out]; exact (adv_stop (fun _ => by rw [HC.out]; exact HB.out)).symm)
        go_wp2_with fail
        obtain rfl := HKF.out
        have HT := Aside0.mk (show adv (fun c => !inB ifs c) s.data.toList k = t from by
            have h1 : adv (inB ifs) s.data.toList at_ = k := congrArg Prod.fst HF.out
            have h2 : adv (fun c => !inB ifs c) s.data.toList (adv (inB ifs) s.data.toList at_) = t := congrArg Prod.snd HF.out
            rw [h1] at h2
            exact h2)
        have HKS := Aside0.mk (show k ≤ s.size from by rw [← HK.out, HSZ.out]; exact adv_le (by rw [← HSZ.out]; exact KLE.out))
        go_loopw [7] (fun v wx => ∃ j : Nat, k ≤ j ∧ j ≤ s.size ∧ v = .int .i64 j ∧ Aside0 (adv (fun c => !inB ifs c) s.data.toList j = t) ∧ wx = wr) (fun v _ => s.size - (intOf v).toNat)
        case atStart => exact ⟨k, Nat.le_refl _, HKS.out, rfl, HT, rfl⟩
        case round =>
          obtain ⟨j, hkj, hj, rfl, HJ, rfl⟩ := hrel
          have hs' : (s.size : Int) ≤ 1000000 := by have := HS.out; omega
          by_cases hjt : j < s.size
          · have hl2 : (j : Int) < (s.size : Int) := by omega
            have HJT := Aside0.mk hjt
            have HKJ := Aside0.mk hkj
            clear hkj hj hjt
            go_wp2_with fail
            have hb := byte_at HJT.out
            obtain ⟨c2, hc⟩ : ∃ c, s.data.toList.getD j 0 = c := ⟨_, rfl⟩
            rw [hc] at hb
            rw [hb]
            have HC2 := Aside0.mk hc
            clear hb hc
            obtain ⟨b2, hb⟩ : ∃ b, inB ifs c2 = b := ⟨_, rfl⟩
            have HB2 := Aside0.mk hb
            clear hb
            refine (split_in ifs c2 b2 HB2.out _).mono ?_
            rintro e wx ⟨rfl, rfl⟩
            cases b2 with
            | false =>
              go_wp2_with fail
              go_roundw
              case rel => exact ⟨j + 1, Nat.le_succ_of_le HKJ.out, HJT.out, by go_num, ⟨by rw [← HJ.out]; exact (adv_step (p := fun c => !inB ifs c) HJT.out (by rw [HC2.out, HB2.out]; rfl)).symm⟩, by first | rfl | trivial⟩
              case measure => have := HJT.out; simp [intOf]; omega
            | true =>
              have HJF := Aside0.mk (show j = t from by rw [← HJ.out]; exact (adv_stop (fun _ => by rw [HC2.out, HB2.out]; rfl)).symm)
              obtain rfl := HJF.out
              have hdd : decide ((k : Int) < (j : Int)) = decide (k < j) := decide_eq_decide.2 (by omega)
              go_wp2_with fail
              go_ret3
              exact ⟨by simp, rfl⟩
          · have HJF := Aside0.mk (show j = t from by rw [← HJ.out]; exact (adv_stop (fun h => absurd (show j < s.size from h) hjt)).symm)
            obtain rfl := HJF.out
            have hl2 : (s.size : Int) ≤ (j : Int) := by omega
            have hdd : decide ((k : Int) < (j : Int)) = decide (k < j) := decide_eq_decide.2 (by omega)
            clear hjt hj hkj
            go_wp2_with fail
            go_ret3
            exact ⟨by simp, rfl⟩
    · have hl1 : (s.size : Int) ≤ (k : Int) := by omega
      have HKF := Aside0.mk (show k = f from by rw [← HK.out]; exact (adv_stop (fun h => absurd (show k < s.size from h) hlt)).symm)
      have HLT := Aside0.mk (show ¬ k < s.size from hlt)
      have KLE := Aside0.mk hk
      clear hlt hk
      go_wp2_with fail
      obtain rfl := HKF.out
      have HT := Aside0.mk (show adv (fun c => !inB ifs c) s.data.toList k = t from by
            have h1 : adv (inB ifs) s.data.toList at_ = k := congrArg Prod.fst HF.out
            have h2 : adv (fun c => !inB ifs c) s.data.toList (adv (inB ifs) s.data.toList at_) = t := congrArg Prod.snd HF.out
            rw [h1] at h2
            exact h2)
      have HKS := Aside0.mk (show k ≤ s.size from by rw [← HK.out, HSZ.out]; exact adv_le (by rw [← HSZ.out]; exact KLE.out))
      go_loopw [7] (fun v wx => ∃ j : Nat, k ≤ j ∧ j ≤ s.size ∧ v = .int .i64 j ∧ Aside0 (adv (fun c => !inB ifs c) s.data.toList j = t) ∧ wx = wr) (fun v _ => s.size - (intOf v).toNat)
      case atStart => exact ⟨k, Nat.le_refl _, HKS.out, rfl, HT, rfl⟩
      case round =>
        obtain ⟨j, hkj, hj, rfl, HJ, rfl⟩ := hrel
        have hs' : (s.size : Int) ≤ 1000000 := by have := HS.out; omega
        by_cases hjt : j < s.size
        · have hl2 : (j : Int) < (s.size : Int) := by omega
          have HJT := Aside0.mk hjt
          have HKJ := Aside0.mk hkj
          clear hkj hj hjt
          go_wp2_with fail
          have hb := byte_at HJT.out
          obtain ⟨c2, hc⟩ : ∃ c, s.data.toList.getD j 0 = c := ⟨_, rfl⟩
          rw [hc] at hb
          rw [hb]
          have HC2 := Aside0.mk hc
          clear hb hc
          obtain ⟨b2, hb⟩ : ∃ b, inB ifs c2 = b := ⟨_, rfl⟩
          have HB2 := Aside0.mk hb
          clear hb
          refine (split_in ifs c2 b2 HB2.out _).mono ?_
          rintro e wx ⟨rfl, rfl⟩
          cases b2 with
          | false =>
            go_wp2_with fail
            go_roundw
            case rel => exact ⟨j + 1, Nat.le_succ_of_le HKJ.out, HJT.out, by go_num, ⟨by rw [← HJ.out]; exact (adv_step (p := fun c => !inB ifs c) HJT.out (by rw [HC2.out, HB2.out]; rfl)).symm⟩, by first | rfl | trivial⟩
            case measure => have := HJT.out; simp [intOf]; omega
          | true =>
            have HJF := Aside0.mk (show j = t from by rw [← HJ.out]; exact (adv_stop (fun _ => by rw [HC2.out, HB2.out]; rfl)).symm)
            obtain rfl := HJF.out
            have hdd : decide ((k : Int) < (j : Int)) = decide (k < j) := decide_eq_decide.2 (by omega)
            go_wp2_with fail
            go_ret3
            exact ⟨by simp, rfl⟩
        · have HJF := Aside0.mk (show j = t from by rw [← HJ.out]; exact (adv_stop (fun h => absurd (show j < s.size from h) hjt)).symm)
          obtain rfl := HJF.out
          have hl2 : (s.size : Int) ≤ (j : Int) := by omega
          have hdd : decide ((k : Int) < (j : Int)) = decide (k < j) := decide_eq_decide.2 (by omega)
          clear hjt hj hkj
          go_wp2_with fail
          go_ret3
          exact ⟨by simp, rfl⟩

def szOf : Value → Nat
  | .string s => s.size
  | _ => 0
theorem list_extract (y : ByteArray) (a b : Nat) : (y.extract a b).data.toList = (y.data.toList.drop a).take (b - a) := by
  rw [ByteArray.data_extract, Array.toList_extract, List.extract_eq_take_drop]
def trimL (p : UInt8 → Bool) (l : List UInt8) : List UInt8 := ((l.dropWhile p).reverse.dropWhile p).reverse
theorem tail_dropWhile {p : UInt8 → Bool} {y : ByteArray} (h0 : 0 < y.size) (hp : p (y.data.toList.getD 0 0) = true) : (y.extract 1 y.size).data.toList.dropWhile p = y.data.toList.dropWhile p := by
  rw [list_extract]
  have e : (y.data.toList.drop 1).take (y.size - 1) = y.data.toList.drop 1 := List.take_of_length_le (by rw [List.length_drop]; exact Nat.le_refl _)
  rw [e]
  cases hl : y.data.toList with
  | nil => have : y.data.toList.length = y.size := rfl; rw [hl] at this; simp at this; omega
  | cons c r =>
    rw [hl] at hp
    rw [List.dropWhile_cons, if_pos (by simpa using hp)]
    rfl
theorem stop_dropWhile {p : UInt8 → Bool} {l : List UInt8} (hp : 0 < l.length → p (l.getD 0 0) = false) : l.dropWhile p = l := by
  cases l with
  | nil => rfl
  | cons c r =>
    have := hp (by simp)
    rw [List.dropWhile_cons, if_neg (by simpa using this)]
theorem init_dropWhile {p : UInt8 → Bool} {y : ByteArray} (h0 : 0 < y.size) (hp : p (y.data.toList.getD (y.size - 1) 0) = true) : (y.extract 0 (y.size - 1)).data.toList.reverse.dropWhile p = y.data.toList.reverse.dropWhile p := by
  rw [list_extract]
  have hsz : y.data.toList.length = y.size := rfl
  generalize y.data.toList = l at *
  rw [← hsz] at hp h0 ⊢
  have e : l.reverse = l.getD (l.length - 1) 0 :: (((l.drop 0).take (l.length - 1 - 0)).reverse) := by
    have hl : l = l.take (l.length - 1) ++ [l.getD (l.length - 1) 0] := by
      have h1 := List.take_append_drop (l.length - 1) l
      have h2 : l.drop (l.length - 1) = [l.getD (l.length - 1) 0] := by
        rw [List.drop_eq_getElem_cons (by omega), List.drop_eq_nil_of_le (by omega)]
        simp [List.getD_eq_getElem?_getD, List.getElem?_eq_getElem (show l.length - 1 < l.length by omega)]
      rw [h2] at h1
      exact h1.symm
    have h3 := congrArg List.reverse hl
    rw [List.reverse_append] at h3
    simpa using h3
  rw [e, List.dropWhile_cons, if_pos hp]
theorem stop_back {p : UInt8 → Bool} {y : ByteArray} (hp : 0 < y.size → p (y.data.toList.getD (y.size - 1) 0) = false) : (y.data.toList.reverse.dropWhile p).reverse = y.data.toList := by
  have hsz : y.data.toList.length = y.size := rfl
  generalize y.data.toList = l at *
  rw [← hsz] at hp
  rw [stop_dropWhile (l := l.reverse) ?_, List.reverse_reverse]
  intro h
  rw [List.length_reverse] at h
  have := hp h
  rw [List.getD_eq_getElem?_getD, List.getElem?_reverse h]
  rw [List.getD_eq_getElem?_getD] at this
  rw [show l.length - 1 - 0 = l.length - 1 from rfl]
  exact this
theorem nonempty_list {y : ByteArray} (h : 0 < y.size) : (y.toList == []) = false := by
  rw [toList_data]
  have hsz : y.data.toList.length = y.size := rfl
  cases hl : y.data.toList with
  | nil => rw [hl] at hsz; simp at hsz; omega
  | cons c r => rfl
theorem ext_size (y : ByteArray) (a b : Nat) : (y.extract a b).size = min b y.size - a := ByteArray.size_extract
theorem empty_of {y : ByteArray} (h : ¬ 0 < y.size) : y = ⟨#[]⟩ := by
  apply data_inj
  have hsz : y.data.toList.length = y.size := rfl
  rw [List.eq_nil_of_length_eq_zero (by omega : y.data.toList.length = 0)]
set_option maxHeartbeats 4000000 in
set_option maxRecDepth 100000 in
theorem split_Trim (s ifs : ByteArray) (hs : s.size ≤ 1000000) (w : World) :
    Calls Try.prog 169 #[.string s, .string ifs] w fun e w' => (∃ y : ByteArray, e = .returned (.string y) ∧ y.data.toList = trimL (inB ifs) s.data.toList) ∧ w' = w := by
  have HS := Aside0.mk hs
  clear hs
  go_enter Try.func169, Try.ntmps169
  go_wp2_with fail
  go_loopw [0] (fun v wr => ∃ y : ByteArray, v = .string y ∧ Aside0 (y.size ≤ 1000000) ∧ Aside0 (y.data.toList.dropWhile (inB ifs) = s.data.toList.dropWhile (inB ifs)) ∧ wr = w) (fun v _ => szOf v)
  case atStart => exact ⟨s, rfl, HS, ⟨rfl⟩, rfl⟩
  case round =>
    obtain ⟨y, rfl, HY, HD, rfl⟩ := hrel
    by_cases h0 : 0 < y.size
    · have hy0 := nonempty_list h0
      have hy1 : (0 : Int) < (y.size : Int) := by omega
      have hy2 : (1 : Int) ≤ (y.size : Int) := by omega
      have hy3 : (y.size : Int) ≤ 1000000 := by have := HY.out; omega
      have H0 := Aside0.mk h0
      clear h0
      go_wp2_with fail
      have hb := byte_at (s := y) (k := 0) H0.out
      obtain ⟨c, hc⟩ : ∃ c, y.data.toList.getD (0) 0 = c := ⟨_, rfl⟩
      rw [hc] at hb
      rw [hb]
      have HC := Aside0.mk hc
      clear hb hc
      obtain ⟨b, hb⟩ : ∃ b, inB ifs c = b := ⟨_, rfl⟩
      have HB := Aside0.mk hb
      clear hb
      refine (split_in ifs c b HB.out _).mono ?_
      rintro e wr ⟨rfl, rfl⟩
      cases b with
      | true =>
        go_wp2_with fail
        go_roundw
        case rel => exact ⟨y.extract 1 y.size, rfl, ⟨by have := HY.out; have e := ext_size y 1 y.size; omega⟩, ⟨by rw [tail_dropWhile H0.out (by rw [HC.out]; exact HB.out)]; exact HD.out⟩, by first | rfl | trivial⟩
        case measure => have := H0.out; simp [szOf]; omega
      | false =>
        have HDY := Aside0.mk (show y.data.toList = y.data.toList.dropWhile (inB ifs) from (stop_dropWhile (fun _ => by rw [HC.out]; exact HB.out)).symm)
        go_wp2_with fail
        have HT := Aside0.mk (show trimL (inB ifs) s.data.toList = (y.data.toList.reverse.dropWhile (inB ifs)).reverse from by unfold trimL; rw [← HD.out, ← HDY.out])
        clear hy0 hy1 hy2
        go_loopw [0] (fun v wx => ∃ z : ByteArray, v = .string z ∧ Aside0 (z.size ≤ 1000000) ∧ Aside0 ((z.data.toList.reverse.dropWhile (inB ifs)).reverse = trimL (inB ifs) s.data.toList) ∧ wx = wr) (fun v _ => szOf v)
        case atStart => exact ⟨y, rfl, HY, ⟨HT.out.symm⟩, rfl⟩
        case round =>
          obtain ⟨z, rfl, HZ, HZT, rfl⟩ := hrel
          by_cases h1 : 0 < z.size
          · have hz0 := nonempty_list h1
            have hz1 : (0 : Int) < (z.size : Int) := by omega
            have hz2 : (1 : Int) ≤ (z.size : Int) := by omega
            have hz3 : (z.size : Int) ≤ 1000000 := by have := HZ.out; omega
            have H1 := Aside0.mk h1
            clear h1
            go_wp2_with fail
            have hb := byte_at (s := z) (k := z.size - 1) (by have := H1.out; omega)
            obtain ⟨c2, hc⟩ : ∃ c, z.data.toList.getD (z.size - 1) 0 = c := ⟨_, rfl⟩
            rw [hc] at hb
            rw [hb]
            have HC2 := Aside0.mk hc
            clear hb hc
            obtain ⟨b2, hb⟩ : ∃ b, inB ifs c2 = b := ⟨_, rfl⟩
            have HB2 := Aside0.mk hb
            clear hb
            refine (split_in ifs c2 b2 HB2.out _).mono ?_
            rintro e wx ⟨rfl, rfl⟩
            cases b2 with
            | true =>
              go_wp2_with fail
              go_roundw
              case rel => exact ⟨z.extract 0 (z.size - 1), rfl, ⟨by have := HZ.out; have e := ext_size z 0 (z.size - 1); omega⟩, ⟨by rw [init_dropWhile H1.out (by rw [HC2.out]; exact HB2.out)]; exact HZT.out⟩, by first | rfl | trivial⟩
              case measure => have := H1.out; simp [szOf]; omega
            | false =>
              have HZE := Aside0.mk (show z.data.toList = trimL (inB ifs) s.data.toList from by rw [← HZT.out]; exact (stop_back (fun _ => by rw [HC2.out]; exact HB2.out)).symm)
              go_wp2_with fail
              go_ret
              exact ⟨⟨_, rfl, HZE.out⟩, by first | rfl | trivial⟩
          · have HZE := Aside0.mk (show z.data.toList = trimL (inB ifs) s.data.toList from by rw [← HZT.out]; exact (stop_back (fun h => absurd h h1)).symm)
            obtain rfl := empty_of h1
            clear h1
            go_wp2_with fail
            go_ret
            exact ⟨⟨_, rfl, HZE.out⟩, by first | rfl | trivial⟩
    · have HDY := Aside0.mk (show y.data.toList = y.data.toList.dropWhile (inB ifs) from (stop_dropWhile (fun h => absurd (show 0 < y.size from h) h0)).symm)
      have hy0 := trivial
      have hy1 := trivial
      have hy2 := trivial
      obtain rfl := empty_of h0
      clear h0
      go_wp2_with fail
      have HT := Aside0.mk (show trimL (inB ifs) s.data.toList = ((⟨#[]⟩ : ByteArray).data.toList.reverse.dropWhile (inB ifs)).reverse from by unfold trimL; rw [← HD.out, ← HDY.out])
      clear hy0 hy1 hy2
      go_loopw [0] (fun v wx => ∃ z : ByteArray, v = .string z ∧ Aside0 (z.size ≤ 1000000) ∧ Aside0 ((z.data.toList.reverse.dropWhile (inB ifs)).reverse = trimL (inB ifs) s.data.toList) ∧ wx = wr) (fun v _ => szOf v)
      case atStart => exact ⟨_, rfl, HY, ⟨HT.out.symm⟩, rfl⟩
      case round =>
        obtain ⟨z, rfl, HZ, HZT, rfl⟩ := hrel
        by_cases h1 : 0 < z.size
        · have hz0 := nonempty_list h1
          have hz1 : (0 : Int) < (z.size : Int) := by omega
          have hz2 : (1 : Int) ≤ (z.size : Int) := by omega
          have hz3 : (z.size : Int) ≤ 1000000 := by have := HZ.out; omega
          have H1 := Aside0.mk h1
          clear h1
          go_wp2_with fail
          have hb := byte_at (s := z) (k := z.size - 1) (by have := H1.out; omega)
          obtain ⟨c2, hc⟩ : ∃ c, z.data.toList.getD (z.size - 1) 0 = c := ⟨_, rfl⟩
          rw [hc] at hb
          rw [hb]
          have HC2 := Aside0.mk hc
          clear hb hc
          obtain ⟨b2, hb⟩ : ∃ b, inB ifs c2 = b := ⟨_, rfl⟩
          have HB2 := Aside0.mk hb
          clear hb
          refine (split_in ifs c2 b2 HB2.out _).mono ?_
          rintro e wx ⟨rfl, rfl⟩
          cases b2 with
          | true =>
            go_wp2_with fail
            go_roundw
            case rel => exact ⟨z.extract 0 (z.size - 1), rfl, ⟨by have := HZ.out; have e := ext_size z 0 (z.size - 1); omega⟩, ⟨by rw [init_dropWhile H1.out (by rw [HC2.out]; exact HB2.out)]; exact HZT.out⟩, by first | rfl | trivial⟩
            case measure => have := H1.out; simp [szOf]; omega
          | false =>
            have HZE := Aside0.mk (show z.data.toList = trimL (inB ifs) s.data.toList from by rw [← HZT.out]; exact (stop_back (fun _ => by rw [HC2.out]; exact HB2.out)).symm)
            go_wp2_with fail
            go_ret
            exact ⟨⟨_, rfl, HZE.out⟩, by first | rfl | trivial⟩
        · have HZE := Aside0.mk (show z.data.toList = trimL (inB ifs) s.data.toList from by rw [← HZT.out]; exact (stop_back (fun h => absurd h h1)).symm)
          obtain rfl := empty_of h1
          clear h1
          go_wp2_with fail
          go_ret
          exact ⟨⟨_, rfl, HZE.out⟩, by first | rfl | trivial⟩

def trimB (ifs s : ByteArray) : ByteArray := ⟨(trimL (inB ifs) s.data.toList).toArray⟩
theorem trimB_of {ifs s y : ByteArray} (h : y.data.toList = trimL (inB ifs) s.data.toList) : y = trimB ifs s := data_inj (by rw [h]; rfl)
def wordsF (ifs s : ByteArray) : Nat → Nat → List ByteArray
  | 0, k => [trimB ifs (s.extract k s.size)]
  | r + 1, k => if (nextF ifs s k).1 < (nextF ifs s k).2 then s.extract (nextF ifs s k).1 (nextF ifs s k).2 :: wordsF ifs s r (nextF ifs s k).2 else List.replicate (r + 2) ⟨#[]⟩
theorem wordsF_len (ifs s : ByteArray) : ∀ (r k : Nat), (wordsF ifs s r k).length = r + 1
  | 0, _ => rfl
  | r + 1, k => by
    unfold wordsF
    split
    · rw [List.length_cons, wordsF_len]
    · simp
theorem next_bounds {ifs s : ByteArray} {k f t : Nat} (hk : k ≤ s.size) (h : nextF ifs s k = (f, t)) : k ≤ f ∧ f ≤ t ∧ t ≤ s.size := by
  have hsz : s.data.toList.length = s.size := rfl
  obtain ⟨rfl, rfl⟩ := Prod.mk.inj h
  have h1 := adv_ge (inB ifs) s.data.toList k
  have h2 := adv_le (p := inB ifs) (l := s.data.toList) (k := k) (by omega)
  have h3 := adv_ge (fun c => !inB ifs c) s.data.toList (adv (inB ifs) s.data.toList k)
  have h4 := adv_le (p := fun c => !inB ifs c) (l := s.data.toList) (k := adv (inB ifs) s.data.toList k) h2
  exact ⟨h1, h3, by omega⟩
theorem set_mid {done : List ByteArray} {i r : Nat} (h : done.length = i) (x : ByteArray) (hi : i ≤ r) : (done ++ List.replicate (r + 1 - i) (⟨#[]⟩ : ByteArray)).set i x = (done ++ [x]) ++ List.replicate (r + 1 - (i + 1)) ⟨#[]⟩ := by
  subst h
  rw [show r + 1 - done.length = (r + 1 - (done.length + 1)) + 1 from by omega, List.replicate_succ, List.set_append_right _ _ (Nat.le_refl _), Nat.sub_self]
  simp
set_option maxHeartbeats 4000000 in
set_option maxRecDepth 100000 in
theorem split_Words (s ifs : ByteArray) (n r : Nat) (hr : min n 100 = r + 1) (hs : s.size ≤ 1000000) (hn : n ≤ 1000000) (w : World) :
    Calls Try.prog 129 #[.string s, .string ifs, .int .i64 n] w fun e w' => ∃ v, e = .returned v ∧ Kd.R Kd.string 9 w' w.heap.size (fun _ => True) v (wordsF ifs s r 0) ∧ Below w.heap.size w w' := by
  have HS := Aside0.mk hs
  have hr100 : (r : Int) + 1 ≤ 100 := by omega
  have hmx : max (n : Int) 1 = n := by omega
  have hmn : min (n : Int) 100 = (r : Int) + 1 := by omega
  have hrr : ((r : Int) + 1).toNat = r + 1 := by omega
  have HR := Aside0.mk hrr
  have HRB := Aside0.mk (show r ≤ 99 from by omega)
  clear hs hr
  go_enter Try.func129, Try.ntmps129
  go_wp2_with ((with_reducible refine gate_dst (N := 17) rfl ?_); (try (refine gate_guard (by rfl) ?_; dsimp only)); go_loud (refine Kd.R_make Kd.string w.heap.size 9 rfl (N := 17) rfl 22 _ _ rfl ((r : Int) + 1) (by go_simp) (by go_simp) Try.underlying22 (.string ⟨#[]⟩) 16 e_info_str rfl (by decide) (by omega) ⟨#[]⟩ (ok := fun _ => True) (okp := fun _ => False) rfl (fun _ h => h.elim) trivial (by omega) (by rw [HR.out]; have := HRB.out; omega) (Below.refl _ _) (Nat.le_refl _) ?_; intro v1 w1 hR hB hG hO; have HR1 := Aside0.mk hR; have HB1 := Aside0.mk hB; clear hR hB hG hO))
  have HR2 := Aside0.mk (show Kd.R Kd.string 9 w1 w.heap.size (fun _ => True) v1 (List.replicate (r + 1) ⟨#[]⟩) from by rw [← HR.out]; exact HR1.out)
  obtain ⟨g, c, e, hg, _, _⟩ := Kd.R_form HR2.out (by simp)
  rw [List.length_replicate] at e
  subst e
  have HG := Aside0.mk hg
  clear hg HR1 hrr
  go_loopw [8, 20] (fun a i wr => ∃ (k at_ : Nat) (done : List ByteArray), k ≤ r ∧ a = .int .i64 at_ ∧ i = .int .i64 k ∧ Aside0 (at_ ≤ s.size) ∧ Aside0 (done.length = k) ∧ Aside0 (Kd.R Kd.string 9 wr w.heap.size (fun _ => True) (.slice (some ⟨g, 0, none⟩) (r + 1) c) (done ++ List.replicate (r + 1 - k) ⟨#[]⟩)) ∧ Aside0 (wordsF ifs s r 0 = done ++ wordsF ifs s (r - k) at_) ∧ Aside0 (Below w.heap.size w wr)) (fun _ i _ => r - (intOf i).toNat)
  case atStart => exact ⟨0, 0, [], Nat.zero_le _, rfl, rfl, ⟨Nat.zero_le _⟩, ⟨rfl⟩, ⟨HR2.out⟩, ⟨rfl⟩, HB1⟩
  case round =>
    obtain ⟨k, at_, done, hk, rfl, rfl, HAT, HDL, HRW, HWF, HB⟩ := hrel
    by_cases hlt : k < r
    · have hl1 : (k : Int) < (r : Int) := by omega
      have HLT := Aside0.mk hlt
      obtain ⟨⟨f, t⟩, hft⟩ : ∃ p, nextF ifs s at_ = p := ⟨_, rfl⟩
      have HFT := Aside0.mk hft
      have HBD := Aside0.mk (next_bounds HAT.out hft)
      clear hk hlt hft
      go_wp2_with fail
      refine (split_next s ifs at_ f t HS.out HAT.out HFT.out _).mono ?_
      rintro e wr ⟨rfl, rfl⟩
      by_cases h : f < t
      · rw [decide_eq_true h]
        have hcc := (Kd.R_cell (e := 9) ByteArray.empty (by rw [show (done ++ List.replicate (r + 1 - k) (⟨#[]⟩ : ByteArray)).length = r + 1 from by rw [List.length_append, List.length_replicate, HDL.out]; have := HLT.out; omega]; exact HRW.out) (k : Int) (by omega) (by rw [List.length_append, List.length_replicate, HDL.out]; have := HLT.out; omega))
        obtain ⟨hcell, hfz⟩ := hcc
        rw [Int.toNat_natCast] at hcell hfz
        have hft1 : (f : Int) ≤ (t : Int) := by omega
        have hft2 : (t : Int) ≤ (s.size : Int) := by have := HBD.out.2.2; omega
        have hft0 : (0 : Int) ≤ (f : Int) := by omega
        have hsz : (s.size : Int) ≤ 1000000 := by have := HS.out; omega
        have hcap : (r : Int) + 1 ≤ (c : Int) := by obtain ⟨_, _, e, h1, _⟩ := Kd.R_reads HRW.out; injection e with e1 e2 e3; subst e3; rw [← e2] at h1; omega
        have hkr : (k : Int) < (r : Int) + 1 := by omega
        obtain ⟨x, hx⟩ : ∃ x, s.extract f t = x := ⟨_, rfl⟩
        have HX := Aside0.mk hx
        have H := Aside0.mk h
        generalize rdOf ByteArray.empty (done ++ List.replicate (r + 1 - k) ⟨#[]⟩) (k : Int) = old at hcell
        clear h
        go_wp2_with fail
        go_roundw
        case rel =>
          obtain ⟨hr2, hg2⟩ := Kd.R_putg HRW.out (k : Int) x
          rw [Int.toNat_natCast] at hr2 hg2
          refine ⟨k + 1, t, done ++ [x], HLT.out, rfl, by go_num, ⟨HBD.out.2.2⟩, ⟨by rw [List.length_append, HDL.out]; rfl⟩, ⟨?_⟩, ⟨?_⟩, ⟨?_⟩⟩
          · rw [set_mid HDL.out x (by have := HLT.out; omega)] at hr2
            exact hr2
          · rw [HWF.out, show r - k = (r - (k + 1)) + 1 from by have := HLT.out; omega]
            show done ++ (if (nextF ifs s at_).1 < (nextF ifs s at_).2 then _ else _) = _
            rw [HFT.out, if_pos H.out, HX.out, List.append_assoc]
            rfl
          · exact HB.out.grown hg2 HB.out.size (fun j hj => by rw [← Option.some.inj hj]; exact HG.out)
        case measure => have := HLT.out; simp [intOf]; omega
      · rw [decide_eq_false h]
        have H := Aside0.mk h
        clear h
        go_wp2_with fail
        go_ret
        refine ⟨_, rfl, ?_, HB.out⟩
        have e := HWF.out
        rw [show r - k = (r - (k + 1)) + 1 from by have := HLT.out; omega] at e
        have e2 : wordsF ifs s (r - (k + 1) + 1) at_ = List.replicate (r - (k + 1) + 2) ⟨#[]⟩ := by
          show (if (nextF ifs s at_).1 < (nextF ifs s at_).2 then _ else _) = _
          rw [HFT.out, if_neg H.out]
        rw [e, e2, show r - (k + 1) + 2 = r + 1 - k from by have := HLT.out; omega]
        exact HRW.out
    · have hkr : k = r := by omega
      subst hkr
      have hat1 : (at_ : Int) ≤ (s.size : Int) := by have := HAT.out; omega
      have hat0 : (0 : Int) ≤ (at_ : Int) := by omega
      have hsz : (s.size : Int) ≤ 1000000 := by have := HS.out; omega
      obtain ⟨x, hx⟩ : ∃ x, s.extract at_ s.size = x := ⟨_, rfl⟩
      have HX := Aside0.mk hx
      clear hk hlt
      go_wp2_with fail
      refine (split_Trim x ifs (by rw [← HX.out]; have e := ext_size s at_ s.size; have := HS.out; omega) _).mono ?_
      rintro e wr ⟨⟨y, rfl, hy⟩, rfl⟩
      have HY := Aside0.mk (trimB_of hy)
      obtain ⟨hcell, hfz⟩ := (Kd.R_cell (e := 9) ByteArray.empty (by rw [show (done ++ List.replicate (k + 1 - k) (⟨#[]⟩ : ByteArray)).length = k + 1 from by rw [List.length_append, List.length_replicate, HDL.out]; omega]; exact HRW.out) (k : Int) (by omega) (by rw [List.length_append, List.length_replicate, HDL.out]; omega))
      rw [Int.toNat_natCast] at hcell hfz
      have hcap : (k : Int) + 1 ≤ (c : Int) := by obtain ⟨_, _, e, h1, _⟩ := Kd.R_reads HRW.out; injection e with e1 e2 e3; subst e3; rw [← e2] at h1; omega
      generalize rdOf ByteArray.empty (done ++ List.replicate (k + 1 - k) ⟨#[]⟩) (k : Int) = old at hcell
      clear hy
      go_wp2_with fail
      go_ret
      obtain ⟨hr2, hg2⟩ := Kd.R_putg HRW.out (k : Int) y
      rw [Int.toNat_natCast] at hr2 hg2
      refine ⟨_, rfl, ?_, HB.out.grown hg2 HB.out.size (fun j hj => by rw [← Option.some.inj hj]; exact HG.out)⟩
      rw [set_mid HDL.out y (Nat.le_refl _), Nat.sub_self, List.replicate_zero, List.append_nil] at hr2
      rw [HWF.out, Nat.sub_self]
      show Kd.R Kd.string 9 _ _ _ _ (done ++ [trimB ifs (s.extract at_ s.size)])
      rw [HX.out, ← HY.out]
      exact hr2
end Go.Proofs.Ytfdjbjinomfgiaa
