/- What is read of a world: world.cut, Read. -/
import Derived.Test.YtfdjbjinomfgiaaRdL
import Derived.Test.YtfdjbjinomfgiaaBltE
namespace Go.Proofs.Ytfdjbjinomfgiaa
open Go.RowKit Go.Maps Go.Proofs.YtfdjbjinomfgiaaW.PrintWords Go.Proofs.YtfdjbjinomfgiaaW.PrintLast Go.Proofs.YtfdjbjinomfgiaaW.PrintMore
set_option linter.unusedSimpArgs false
set_option linter.unusedVariables false

theorem index_take (c : UInt8) : ∀ l : List UInt8, (Lib.indexByte l c < 0 ∧ l.takeWhile (fun x => x != c) = l) ∨ (∃ m : Nat, Lib.indexByte l c = m ∧ m < l.length ∧ l.takeWhile (fun x => x != c) = l.take m)
  | [] => .inl ⟨by simp [Lib.indexByte], rfl⟩
  | b :: l => by
    have ih := index_take c l
    by_cases hb : b = c
    · subst hb
      exact .inr ⟨0, by simp [Lib.indexByte], by simp, by simp⟩
    · have hb' : (b == c) = false := by simpa using hb
      have htw : (b :: l).takeWhile (fun x => x != c) = b :: l.takeWhile (fun x => x != c) := by
        rw [List.takeWhile_cons, if_pos (by simpa using hb)]
      rw [htw]
      rcases ih with ⟨h1, h2⟩ | ⟨m, h1, h2, h3⟩
      · have hge := Lib.indexByte_ge l c
        have e : Lib.indexByte l c = -1 := by omega
        exact .inl ⟨by simp [Lib.indexByte, hb', e], by rw [h2]⟩
      · refine .inr ⟨m + 1, ?_, by simp; omega, by rw [h3]; rfl⟩
        have : ((m : Int) == -1) = false := beq_eq_false_iff_ne.2 (by omega)
        simp [Lib.indexByte, hb', h1, this] <;> omega
def cutL (l by_ : List UInt8) : List UInt8 := (by_.foldl (fun l c => l.takeWhile (fun x => x != c)) l)
set_option maxHeartbeats 4000000 in
set_option maxRecDepth 100000 in
theorem world_cut (s by_ : ByteArray) (hs : s.size ≤ 1000000) (hb : by_.size ≤ 1000000) (w : World) :
    Calls Try.prog 167 #[.string s, .string by_] w fun e w' => (∃ y : ByteArray, e = .returned (.string y) ∧ y.data.toList = (cutL s.data.toList by_.data.toList).take 1000) ∧ w' = w := by
  have HS := Aside0.mk hs
  have HBY := Aside0.mk hb
  have HBL := Aside0.mk (show by_.data.toList.length = by_.size from rfl)
  clear hs hb
  go_enter Try.func167, Try.ntmps167
  go_wp2_with fail
  go_loopw [0, 9] (fun v i wr => ∃ (k : Nat) (y : ByteArray), k ≤ by_.size ∧ v = .string y ∧ i = .int .i64 k ∧ Aside0 (y.size ≤ 1000000) ∧ Aside0 (y.data.toList = cutL s.data.toList (by_.data.toList.take k)) ∧ wr = w) (fun _ i _ => by_.size - (intOf i).toNat)
  case atStart => exact ⟨0, s, Nat.zero_le _, rfl, rfl, HS, ⟨rfl⟩, rfl⟩
  case round =>
    obtain ⟨k, y, hk, rfl, rfl, HY, HL, rfl⟩ := hrel
    have hys : (y.size : Int) ≤ 1000000 := by have := HY.out; omega
    have hbs : (by_.size : Int) ≤ 1000000 := by have := HBY.out; omega
    by_cases hlt : k < by_.size
    · have hl1 : (k : Int) < (by_.size : Int) := by omega
      have HLT := Aside0.mk hlt
      clear hk hlt
      go_wp2_with fail
      have hb := byte_at HLT.out
      obtain ⟨c, hc⟩ : ∃ c, by_.data.toList.getD k 0 = c := ⟨_, rfl⟩
      rw [hc] at hb
      rw [hb]
      have HC := Aside0.mk hc
      clear hb hc
      have HTS := Aside0.mk (show by_.data.toList.take (k + 1) = by_.data.toList.take k ++ [c] from by rw [take_snoc' (show k < by_.data.toList.length from HLT.out) 0, HC.out])
      have HL2 := Aside0.mk (show cutL s.data.toList (by_.data.toList.take (k + 1)) = y.data.toList.takeWhile (fun x => x != c) from by rw [HTS.out]; unfold cutL; rw [List.foldl_append, HL.out]; rfl)
      refine (Try.strings_IndexByte y (c.toNat : Int) _).mono ?_
      rintro e wr ⟨rfl, rfl⟩
      rw [show ((c.toNat : Int)).toNat.toUInt8 = c from by simp]
      rcases index_take c y.data.toList with ⟨h1, h2⟩ | ⟨m, h1, h2, h3⟩
      · have HTK := Aside0.mk h2
        generalize Lib.indexByte y.data.toList c = z at h1
        clear h2
        go_wp2_with fail
        go_roundw
        case rel => exact ⟨k + 1, y, HLT.out, rfl, by go_num, HY, ⟨by rw [HL2.out, HTK.out]⟩, by first | rfl | trivial⟩
        case measure => have := HLT.out; simp [intOf]; omega
      · rw [h1]
        have HTK := Aside0.mk h3
        have hm1 : (m : Int) ≤ (y.size : Int) := by have : y.data.toList.length = y.size := rfl; omega
        clear h1 h2 h3
        go_wp2_with fail
        go_roundw
        case rel => exact ⟨k + 1, y.extract 0 m, HLT.out, rfl, by go_num, ⟨by have e := ext_size y 0 m; have := HY.out; omega⟩, ⟨by rw [HL2.out, HTK.out, list_extract]; rfl⟩, by first | rfl | trivial⟩
        case measure => have := HLT.out; simp [intOf]; omega
    · have hkb : k = by_.size := by omega
      subst hkb
      clear hk hlt
      go_wp2_with fail
      go_ret
      refine ⟨⟨_, rfl, ?_⟩, by first | rfl | trivial⟩
      have hby : by_.data.toList.take by_.size = by_.data.toList := List.take_of_length_le (by rw [HBL.out]; exact Nat.le_refl _)
      have h2 := HL.out
      rw [hby] at h2
      rw [list_extract, List.drop_zero, Nat.sub_zero, h2]
      have hl : (cutL s.data.toList by_.data.toList).length = y.size := by
        rw [← h2]
        rfl
      by_cases h : y.size ≤ 1000
      · rw [show (min (y.size : Int) 1000).toNat = y.size from by omega, List.take_of_length_le (by omega), List.take_of_length_le (by omega)]
      · rw [show (min (y.size : Int) 1000).toNat = 1000 from by omega]
/-- A line that was read. -/
def readB (x : ByteArray) : ByteArray := ⟨((cutL x.data.toList [0, 10]).take 1000).toArray⟩
theorem readB_of {x y : ByteArray} (h : y.data.toList = (cutL x.data.toList (⟨#[0, 10]⟩ : ByteArray).data.toList).take 1000) : y = readB x := data_inj (by rw [h]; rfl)
theorem cutL_len (l by_ : List UInt8) : (cutL l by_).length ≤ l.length := by
  unfold cutL
  induction by_ generalizing l with
  | nil => exact Nat.le_refl _
  | cons c r ih =>
    rw [List.foldl_cons]
    exact Nat.le_trans (ih _) (List.takeWhile_sublist _).length_le
theorem readB_size (x : ByteArray) : (readB x).size ≤ 1000 := by
  show ((cutL x.data.toList [0, 10]).take 1000).length ≤ 1000
  rw [List.length_take]
  omega
set_option maxHeartbeats 4000000 in
set_option maxRecDepth 100000 in
theorem world_Read_nil (gw : Nat) (w : World) (hw : WorIs w gw []) :
    Calls Try.prog 128 #[.pointer (some ⟨gw, 0, none⟩)] w fun e w' => e = .returned (.tuple #[.string ⟨#[]⟩, .bool false]) ∧ w' = w := by
  obtain ⟨⟨v0, v1, A, c, v3, hb, hr, hl⟩, _⟩ := hw
  have hc2 := (blk_cell hb 2).trans rfl
  clear hr hl hb
  go_enter Try.func128, Try.ntmps128
  go_wp2_with fail
  go_ret2
  exact ⟨rfl, rfl⟩
set_option maxHeartbeats 4000000 in
set_option maxRecDepth 100000 in
theorem world_Read_cons (gw : Nat) (x : ByteArray) (rs : List ByteArray) (w : World) (hw : WorIs w gw (x :: rs)) :
    Calls Try.prog 128 #[.pointer (some ⟨gw, 0, none⟩)] w fun e w' => e = .returned (.tuple #[.string (readB x), .bool true]) ∧ WorIs w' gw rs ∧ Chg (fun k => k = gw) w w' := by
  obtain ⟨⟨v0, v1, A, c, v3, hb, ⟨_, hr⟩, hl⟩, hf1, hf2⟩ := hw
  obtain ⟨b, off, cells, rfl, hbb, hcc⟩ := hr.resolve_left (by simp)
  rw [List.length_cons] at hb hl
  have hx0 : w.cell? ⟨b, off, none⟩ = some (.string x) := by rw [blk_cell hbb]; simpa using hcc 0 (by simp)
  have hc2 : w.cell? ⟨gw, 2, none⟩ = some (.slice (some ⟨b, off, none⟩) (rs.length + 1) c) := (blk_cell hb 2).trans rfl
  have hz := blk_frozen hb 2
  have HB := Aside0.mk hb
  have HBB := Aside0.mk hbb
  have HCC := Aside0.mk hcc
  have HF := Aside0.mk (And.intro hf1 hf2)
  have HLC := Aside0.mk hl
  obtain ⟨inf, hinf, hisz⟩ := info_s
  have hcut := cut_from (P := Try.prog) 22 9 .i64 Try.underlying22 hinf 1 hisz (some ⟨b, off, none⟩) (rs.length + 1) c 1 (by omega) (by omega)
  obtain ⟨A2, hA2⟩ : ∃ A2, (if c = 1 then some (⟨b, off, none⟩ : Addr) else some ((⟨b, off, none⟩ : Addr).add 1)) = A2 := ⟨_, rfl⟩
  have hcut2 : ∀ W : World, (Instr.slice 22 (.slice (some ⟨b, off, none⟩) (rs.length + 1) c) (some (.int .i64 1)) none none).run Try.prog W = .ok (.slice A2 rs.length (c - 1)) W := fun W => by rw [hcut W, ← hA2]; rfl
  have HA2 := Aside0.mk hA2
  have hl1 : (0 : Int) < ((rs.length : Int) + 1) := by omega
  have hl0 : (((rs.length : Int) + 1) == 0) = false := beq_eq_false_iff_ne.2 (by omega)
  have hl2 : (1 : Int) ≤ ((rs.length : Int) + 1) := by omega
  have hlc' : (rs.length : Int) + 1 ≤ (c : Int) := by omega
  clear hb hbb hcc hf1 hf2 hl hinf hisz hcut hA2 hr
  go_enter Try.func128, Try.ntmps128
  go_wp2_with fail
  refine (world_cut x ⟨#[0, 10]⟩ (HF.out.2 x (by simp)) (by decide) _).mono ?_
  rintro e w2 ⟨⟨y, rfl, hy⟩, rfl⟩
  have HY := Aside0.mk (readB_of hy)
  clear hy
  go_wp2_with fail
  go_ret2
  refine ⟨by rw [HY.out]; rfl, ?_, (Chg.refl (fun k => k = gw) w).setCell (p := ⟨gw, 2, none⟩) (.inl rfl) _⟩
  have hne : b ≠ gw := fun e => by
    have h1 := HBB.out
    rw [e, HB.out] at h1
    injection h1 with h1
    injection h1 with _ h1
    exact absurd h1 (by decide)
  refine ⟨⟨v0, v1, A2, c - 1, v3, ?_, ⟨rfl, ?_⟩, by have := HLC.out; omega⟩, by have := HF.out.1; simp at this; omega, fun s hs => HF.out.2 s (by simp [hs])⟩
  · rw [blk_set HB.out]
    rfl
  · by_cases h0 : rs.length = 0
    · exact .inl h0
    · right
      have hc1 : c ≠ 1 := by have := HLC.out; omega
      refine ⟨b, off + 1, cells, ?_, ?_, fun j hj => ?_⟩
      · rw [← HA2.out, if_neg hc1]
        rfl
      · exact ((Chg.refl (fun k => k = gw) w).setCell (p := ⟨gw, 2, none⟩) (.inl rfl) _).blk HBB.out hne
      · have h := HCC.out (j + 1) (by simp; omega)
        rw [show off + 1 + j = off + (j + 1) from by omega, h]
        rfl
end Go.Proofs.Ytfdjbjinomfgiaa
