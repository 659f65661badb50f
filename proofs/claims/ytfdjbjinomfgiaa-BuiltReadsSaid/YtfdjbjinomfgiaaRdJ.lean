/- BuiltReads: its walk. -/
import Derived.Test.YtfdjbjinomfgiaaRdK
import Derived.Test.YtfdjbjinomfgiaaFullP
import Derived.Laws.IdiomStrings
namespace Go.Proofs.Ytfdjbjinomfgiaa
open Go.RowKit Go.Maps Go.Proofs.YtfdjbjinomfgiaaW.PrintWords Go.Proofs.YtfdjbjinomfgiaaW.PrintLast Go.Proofs.YtfdjbjinomfgiaaW.PrintMore
set_option linter.unusedSimpArgs false
set_option linter.unusedVariables false

/-- A word as the law takes it. -/
def wordL (w : ByteArray) : List UInt8 := (w.data.toList.take 20).filter (fun c => decide (32 < c))
def wordsL (l : List ByteArray) : List (List UInt8) := l.map wordL
theorem joinW_snoc : ∀ (ws : List (List UInt8)) (w : List UInt8), joinW (ws ++ [w]) = joinW ws ++ (if ws = [] then [] else [32, 32]) ++ w
  | [], w => by simp [joinW]
  | [x], w => by simp [joinW]
  | x :: y :: r, w => by
    have ih := joinW_snoc (y :: r) w
    show x ++ 32 :: 32 :: joinW (y :: r ++ [w]) = _
    rw [ih]
    simp [joinW]
theorem mkB_app (a b : List UInt8) : mkB a ++ mkB b = mkB (a ++ b) := data_inj (by simp [mkB])
theorem filter_step {w : ByteArray} {q : Nat} (hq : q < w.size) {c : UInt8} (hc : w.data.toList.getD q 0 = c) : (w.data.toList.take (q + 1)).filter (fun c => decide (32 < c)) = (w.data.toList.take q).filter (fun c => decide (32 < c)) ++ (if 32 < c then [c] else []) := by
  rw [take_snoc' (show q < w.data.toList.length from hq) 0, hc, List.filter_append]
  congr 1
  by_cases h : 32 < c <;> simp [h]
theorem conv_one (W : World) (b : UInt8) : (convert 23 9 (.slice (some ⟨W.heap.size, 0, none⟩) 1 1)).run Try.prog (W.alloc (.cells #[.int .u8 (b.toNat : Int)] 5)) = .ok (.string ⟨#[b]⟩) (W.alloc (.cells #[.int .u8 (b.toNat : Int)] 5)) := by
  refine run_convert_bytes_back _ 23 9 5 ⟨W.heap.size, 0, none⟩ 1 [b] Try.underlying23 Try.underlying5 Try.underlying9 (fun j hj => ?_)
  have h := heap_alloc_new W (.cells #[.int .u8 (b.toNat : Int)] 5)
  have hj0 : j = 0 := by simpa using hj
  subst hj0
  rw [add_plain, blk_cell h]
  rfl
theorem word_end {x : ByteArray} {m : Nat} (h : x.size ≤ m ∨ 20 ≤ m) (hm : m ≤ 20) : (x.data.toList.take m).filter (fun c => decide (32 < c)) = wordL x := by
  unfold wordL
  congr 1
  have hsz : x.data.toList.length = x.size := rfl
  rcases h with h | h
  · rw [List.take_of_length_le (by omega), List.take_of_length_le (by omega)]
  · rw [show m = 20 from by omega]
theorem wordL_len (x : ByteArray) : (wordL x).length ≤ 20 := by
  unfold wordL
  have h1 := List.length_filter_le (fun c => decide (32 < c)) (x.data.toList.take 20)
  have h2 := List.length_take_le 20 x.data.toList
  omega
theorem wordL_dark (x : ByteArray) : ∀ c ∈ wordL x, 32 < c := fun c hc => by simpa using (List.mem_filter.1 hc).2
theorem getD_drop' (L : List UInt8) (a m : Nat) : L.getD (a + m) 0 = (L.drop a).getD m 0 := by
  rw [List.getD_eq_getElem?_getD, List.getD_eq_getElem?_getD, List.getElem?_drop]
theorem word_byte {L w R : List UInt8} {a p : Nat} (h : L.drop a = w ++ R) (h1 : a ≤ p) (h2 : p < a + w.length) : L.getD p 0 = w.getD (p - a) 0 := by
  have e : p = a + (p - a) := by omega
  rw [e, getD_drop', h, List.getD_eq_getElem?_getD, List.getElem?_append_left (by omega), ← List.getD_eq_getElem?_getD, ← e]
theorem rest_byte {L w R : List UInt8} {a p : Nat} (h : L.drop a = w ++ R) (h1 : a + w.length ≤ p) : L.getD p 0 = R.getD (p - a - w.length) 0 := by
  have e : p = a + (p - a) := by omega
  rw [e, getD_drop', h, List.getD_eq_getElem?_getD, List.getElem?_append_right (by omega), ← List.getD_eq_getElem?_getD, ← e]
theorem one_byte {s : ByteArray} {p : Nat} (h : p < s.size) : s.extract p (p + 1) = ⟨#[s.data.toList.getD p 0]⟩ := data_inj (by
  rw [list_extract, Nat.add_sub_cancel_left, List.drop_eq_getElem_cons (show p < s.data.toList.length from h), List.take_succ_cons, List.take_zero, List.getD_eq_getElem?_getD, List.getElem?_eq_getElem (show p < s.data.toList.length from h)]
  rfl)
set_option maxHeartbeats 8000000 in
set_option maxRecDepth 100000 in
theorem reads_walk (A : Option Addr) (c : Nat) (l : List ByteArray) (n0 : Int) (w : World) (hA : Kd.C Kd.string w A l.length l) (hlc : l.length ≤ c) (hsz : ∀ s ∈ l, s.size ≤ maxLen) :
    Calls Try.prog 3 #[.slice A l.length c, .int .i64 n0] w fun e w' => e = .returned (.bool true) ∧ Below w.heap.size w w' := by
  have HA := Aside0.mk hA
  have HSZ := Aside0.mk hsz
  have hmo : (l.length : Int) ≤ 9223372036854775807 := by have := hA.2.1; omega
  clear hA hsz
  go_enter Try.func3, Try.ntmps3
  go_wp2_with fail
  go_loopw [5, 6, 7] (fun v k i wr => ∃ (n : Nat) (ws : List (List UInt8)), n ≤ l.length ∧ n ≤ 8 ∧ i = .int .i64 n ∧ k = .int .i64 n ∧ v = .string (mkB (joinW ws)) ∧ Aside0 (ws = wordsL (l.take n)) ∧ Aside0 (Good ws) ∧ Aside0 (Below w.heap.size w wr)) (fun _ _ i _ => 8 - (intOf i).toNat)
  case atStart => exact ⟨0, [], Nat.zero_le _, Nat.zero_le _, rfl, rfl, rfl, ⟨rfl⟩, ⟨fun w hw => by cases hw⟩, ⟨Below.refl _ _⟩⟩
  case round =>
    obtain ⟨n, ws, hn, hn8, rfl, rfl, rfl, HWS, HGD, HB⟩ := hrel
    by_cases hlt : n < l.length ∧ n < 8
    · obtain ⟨hl1, hl2⟩ := hlt
      obtain ⟨ad, e, hx⟩ := str_at HA.out hl1
      subst e
      have HXS := Aside0.mk (HSZ.out _ (getD_mem' hl1 ByteArray.empty))
      have HTK := Aside0.mk (take_snoc' hl1 ByteArray.empty)
      obtain ⟨x, hxx⟩ : ∃ x, l.getD n ByteArray.empty = x := ⟨_, rfl⟩
      rw [hxx] at hx HXS HTK
      have HX := Aside0.mk hx
      have hlt1 : (n : Int) < (l.length : Int) := by omega
      have hlt2 : (n : Int) < 8 := by omega
      have HL1 := Aside0.mk hl1
      have HL2 := Aside0.mk hl2
      have hlo' : (l.length : Int) ≤ (c : Int) := by omega
      clear hn hn8 hl1 hl2 hxx hx
      go_wp2_with fail
      go_loopw [8, 9] (fun v q wx => ∃ m : Nat, m ≤ x.size ∧ m ≤ 20 ∧ q = .int .i64 m ∧ v = .string (mkB ((x.data.toList.take m).filter (fun c => decide (32 < c)))) ∧ Aside0 (Below w.heap.size w wx)) (fun _ q _ => 20 - (intOf q).toNat)
      case atStart => exact ⟨0, Nat.zero_le _, Nat.zero_le _, rfl, rfl, HB⟩
      case round =>
        obtain ⟨m, hm, hm20, rfl, rfl, HBX⟩ := hrel
        have hx := (HBX.out.cell (p := ad.add n) (World.block_lt_of_cell? w _ HX.out)).trans HX.out
        have hxs : (x.size : Int) ≤ 9223372036854775807 := by have := HXS.out; unfold maxLen at this; omega
        by_cases hmt : m < x.size ∧ m < 20
        · obtain ⟨hm1, hm2⟩ := hmt
          have hm1' : (m : Int) < (x.size : Int) := by omega
          have hm2' : (m : Int) < 20 := by omega
          have HM1 := Aside0.mk hm1
          have HM2 := Aside0.mk hm2
          have HACC := Aside0.mk (show (mkB ((x.data.toList.take m).filter (fun c => decide (32 < c)))).size ≤ 20 from by
            show ((x.data.toList.take m).filter (fun c => decide (32 < c))).length ≤ 20
            have h1 := List.length_filter_le (fun c => decide (32 < c)) (x.data.toList.take m)
            have h2 := List.length_take_le m x.data.toList
            omega)
          obtain ⟨b, hbb⟩ : ∃ b, x.data.toList.getD m 0 = b := ⟨_, rfl⟩
          have HFS := Aside0.mk (filter_step hm1 hbb)
          clear hm hm20 hm1 hm2
          have hb := byte_at HM1.out
          rw [hbb] at hb
          have HBB := Aside0.mk hbb
          clear hbb
          obtain ⟨acc, hacc⟩ : ∃ a, (x.data.toList.take m).filter (fun c => decide (32 < c)) = a := ⟨_, rfl⟩
          rw [hacc] at HACC HFS ⊢
          have HAC := Aside0.mk hacc
          clear hacc
          by_cases hcb : 32 < b
          · have hcb' : (32 : Int) < (b.toNat : Int) := by
              have hn : (32 : UInt8).toNat < b.toNat := UInt8.lt_iff_toNat_lt.1 hcb
              simp at hn
              omega
            have HCB := Aside0.mk hcb
            clear hcb
            have hcv := conv_one wr b
            have hcat : (9223372036854775807 < (mkB acc).size + 1) = False := eq_false (by have := HACC.out; omega)
            have happ : mkB acc ++ (⟨#[b]⟩ : ByteArray) = mkB (acc ++ [b]) := mkB_app acc [b]
            have HBY := Aside0.mk (HBX.out.alloc HBX.out.size (.cells #[.int .u8 (b.toNat : Int)] 5))
            go_wp2_with fail
            go_roundw
            case rel => exact ⟨m + 1, HM1.out, HM2.out, by go_num, by rw [HFS.out, if_pos HCB.out], HBY⟩
            case measure => have := HM2.out; simp [intOf]; omega
          · have hcb' : (b.toNat : Int) ≤ 32 := by
              have hn : ¬ (32 : UInt8).toNat < b.toNat := fun h => hcb (UInt8.lt_iff_toNat_lt.2 h)
              simp at hn
              omega
            have HCB := Aside0.mk hcb
            clear hcb
            go_wp2_with fail
            go_roundw
            case rel => exact ⟨m + 1, HM1.out, HM2.out, by go_num, by rw [HFS.out, if_neg HCB.out, List.append_nil], HBX⟩
            case measure => have := HM2.out; simp [intOf]; omega
        · have HWD := Aside0.mk (word_end (x := x) (m := m) (by omega) hm20)
          rw [HWD.out]
          have hsp : (x.size : Int) ≤ m ∨ ((m : Int) < x.size ∧ (20 : Int) ≤ m) := by omega
          clear hm hm20 hmt
          rcases hsp with hs1 | ⟨hs1, hs2⟩
          · obtain ⟨wl, hwl⟩ : ∃ wl, wordL x = wl := ⟨_, rfl⟩
            have HWL := Aside0.mk hwl
            have HWN := Aside0.mk (show wl.length ≤ 20 from by rw [← hwl]; exact wordL_len x)
            rw [hwl]
            clear hwl
            by_cases he : wl = []
            · have hq : ((mkB wl).toList == ([] : List UInt8)) = true := by rw [he, toList_data]; rfl
              clear he
              go_wp2_with fail
              refine (awake16 _).mono ?_
              rintro e w2 ⟨rfl, hb⟩
              have HB2 := Aside0.mk (HBX.out.trans (hb.mono HBX.out.size))
              clear hb
              go_wp2_with fail
              go_ret
              exact ⟨rfl, HB2.out⟩
            · have hq : ((mkB wl).toList == ([] : List UInt8)) = false := by
                rw [toList_data, mkB_list]
                cases wl with
                | nil => exact absurd rfl he
                | cons _ _ => rfl
              have HWE := Aside0.mk (show Good (ws ++ [wl]) from fun y hy => by
                rcases List.mem_append.1 hy with hy | hy
                · exact HGD.out y hy
                · rw [List.mem_singleton.1 hy]; exact ⟨he, fun c hc => wordL_dark x c (by rw [HWL.out]; exact hc)⟩)
              have HWS2 := Aside0.mk (show ws ++ [wl] = wordsL (l.take (n + 1)) from by rw [HTK.out, HWS.out, ← HWL.out]; unfold wordsL; rw [List.map_append]; rfl)
              have hjl : (joinW ws).length ≤ 176 := by
                have h1 := joinW_len (ws := ws) (fun y hy => by
                  rw [HWS.out] at hy
                  obtain ⟨z, _, rfl⟩ := List.mem_map.1 hy
                  exact wordL_len z)
                have h2 : ws.length ≤ n := by rw [HWS.out]; unfold wordsL; simp; omega
                have := HL2.out
                omega
              have hcat1 : (9223372036854775807 < (mkB (joinW ws)).size + 2) = False := eq_false (by have : (mkB (joinW ws)).size = (joinW ws).length := rfl; omega)
              have hcat2 : (9223372036854775807 < (mkB (joinW ws)).size + (mkB wl).size) = False := eq_false (by have : (mkB (joinW ws)).size = (joinW ws).length := rfl; have h2 : (mkB wl).size = wl.length := rfl; have := HWN.out; omega)
              have hcat3 : (9223372036854775807 < (mkB (joinW ws ++ [32, 32])).size + (mkB wl).size) = False := eq_false (by have h1 : (mkB (joinW ws ++ [32, 32])).size = (joinW ws ++ [32, 32]).length := rfl; have h2 : (mkB wl).size = wl.length := rfl; have := HWN.out; simp at h1; omega)
              have hap1 : mkB (joinW ws) ++ (⟨#[32, 32]⟩ : ByteArray) = mkB (joinW ws ++ [32, 32]) := mkB_app _ [32, 32]
              by_cases hn0 : n = 0
              · have hws0 : ws = [] := by rw [HWS.out, hn0]; rfl
                have hap2 : mkB (joinW ws) ++ mkB wl = mkB (joinW (ws ++ [wl])) := by rw [mkB_app, joinW_snoc, hws0]; rfl
                have hnz : (n : Int) = 0 := by omega
                have hnl : (n : Int) ≤ 0 := by omega
                clear he hjl hws0 hn0 hnz
                go_wp2_with fail
                go_roundw
                case rel => exact ⟨n + 1, ws ++ [wl], HL1.out, HL2.out, by go_num, by go_num, rfl, HWS2, HWE, HBX⟩
                case measure => have := HL2.out; simp [intOf]; omega
              · have hws0 : ws ≠ [] := fun e => by
                  have h2 : ws.length = n := by rw [HWS.out]; unfold wordsL; have := HL1.out; simp; omega
                  rw [e] at h2
                  exact hn0 h2.symm
                have hap2 : mkB (joinW ws ++ [32, 32]) ++ mkB wl = mkB (joinW (ws ++ [wl])) := by rw [mkB_app, joinW_snoc, if_neg hws0]
                have hnz : (0 : Int) < (n : Int) := by omega
                clear he hjl hws0 hn0
                go_wp2_with fail
                go_roundw
                case rel => exact ⟨n + 1, ws ++ [wl], HL1.out, HL2.out, by go_num, by go_num, rfl, HWS2, HWE, HBX⟩
                case measure => have := HL2.out; simp [intOf]; omega
          · obtain ⟨wl, hwl⟩ : ∃ wl, wordL x = wl := ⟨_, rfl⟩
            have HWL := Aside0.mk hwl
            have HWN := Aside0.mk (show wl.length ≤ 20 from by rw [← hwl]; exact wordL_len x)
            rw [hwl]
            clear hwl
            by_cases he : wl = []
            · have hq : ((mkB wl).toList == ([] : List UInt8)) = true := by rw [he, toList_data]; rfl
              clear he
              go_wp2_with fail
              refine (awake16 _).mono ?_
              rintro e w2 ⟨rfl, hb⟩
              have HB2 := Aside0.mk (HBX.out.trans (hb.mono HBX.out.size))
              clear hb
              go_wp2_with fail
              go_ret
              exact ⟨rfl, HB2.out⟩
            · have hq : ((mkB wl).toList == ([] : List UInt8)) = false := by
                rw [toList_data, mkB_list]
                cases wl with
                | nil => exact absurd rfl he
                | cons _ _ => rfl
              have HWE := Aside0.mk (show Good (ws ++ [wl]) from fun y hy => by
                rcases List.mem_append.1 hy with hy | hy
                · exact HGD.out y hy
                · rw [List.mem_singleton.1 hy]; exact ⟨he, fun c hc => wordL_dark x c (by rw [HWL.out]; exact hc)⟩)
              have HWS2 := Aside0.mk (show ws ++ [wl] = wordsL (l.take (n + 1)) from by rw [HTK.out, HWS.out, ← HWL.out]; unfold wordsL; rw [List.map_append]; rfl)
              have hjl : (joinW ws).length ≤ 176 := by
                have h1 := joinW_len (ws := ws) (fun y hy => by
                  rw [HWS.out] at hy
                  obtain ⟨z, _, rfl⟩ := List.mem_map.1 hy
                  exact wordL_len z)
                have h2 : ws.length ≤ n := by rw [HWS.out]; unfold wordsL; simp; omega
                have := HL2.out
                omega
              have hcat1 : (9223372036854775807 < (mkB (joinW ws)).size + 2) = False := eq_false (by have : (mkB (joinW ws)).size = (joinW ws).length := rfl; omega)
              have hcat2 : (9223372036854775807 < (mkB (joinW ws)).size + (mkB wl).size) = False := eq_false (by have : (mkB (joinW ws)).size = (joinW ws).length := rfl; have h2 : (mkB wl).size = wl.length := rfl; have := HWN.out; omega)
              have hcat3 : (9223372036854775807 < (mkB (joinW ws ++ [32, 32])).size + (mkB wl).size) = False := eq_false (by have h1 : (mkB (joinW ws ++ [32, 32])).size = (joinW ws ++ [32, 32]).length := rfl; have h2 : (mkB wl).size = wl.length := rfl; have := HWN.out; simp at h1; omega)
              have hap1 : mkB (joinW ws) ++ (⟨#[32, 32]⟩ : ByteArray) = mkB (joinW ws ++ [32, 32]) := mkB_app _ [32, 32]
              by_cases hn0 : n = 0
              · have hws0 : ws = [] := by rw [HWS.out, hn0]; rfl
                have hap2 : mkB (joinW ws) ++ mkB wl = mkB (joinW (ws ++ [wl])) := by rw [mkB_app, joinW_snoc, hws0]; rfl
                have hnz : (n : Int) = 0 := by omega
                have hnl : (n : Int) ≤ 0 := by omega
                clear he hjl hws0 hn0 hnz
                go_wp2_with fail
                go_roundw
                case rel => exact ⟨n + 1, ws ++ [wl], HL1.out, HL2.out, by go_num, by go_num, rfl, HWS2, HWE, HBX⟩
                case measure => have := HL2.out; simp [intOf]; omega
              · have hws0 : ws ≠ [] := fun e => by
                  have h2 : ws.length = n := by rw [HWS.out]; unfold wordsL; have := HL1.out; simp; omega
                  rw [e] at h2
                  exact hn0 h2.symm
                have hap2 : mkB (joinW ws ++ [32, 32]) ++ mkB wl = mkB (joinW (ws ++ [wl])) := by rw [mkB_app, joinW_snoc, if_neg hws0]
                have hnz : (0 : Int) < (n : Int) := by omega
                clear he hjl hws0 hn0
                go_wp2_with fail
                go_roundw
                case rel => exact ⟨n + 1, ws ++ [wl], HL1.out, HL2.out, by go_num, by go_num, rfl, HWS2, HWE, HBX⟩
                case measure => have := HL2.out; simp [intOf]; omega
    · have hsp : (l.length : Int) ≤ n ∨ ((n : Int) < l.length ∧ (8 : Int) ≤ n) := by omega
      have HN8 := Aside0.mk (show n ≤ 8 from hn8)
      have HN := Aside0.mk (show ws.length = n from by rw [HWS.out]; unfold wordsL; simp; omega)
      have HLW := Aside0.mk (show ∀ y ∈ ws, y.length ≤ 20 from fun y hy => by
        rw [HWS.out] at hy
        obtain ⟨z, _, rfl⟩ := List.mem_map.1 hy
        exact wordL_len z)
      obtain ⟨q, hq, hq8⟩ := mask_nat n0 255 8 (by decide) (by omega)
      obtain ⟨t, ht⟩ : ∃ t, q % 6 = t := ⟨_, rfl⟩
      have HT6 := Aside0.mk (show t < 6 from by omega)
      have htm : ((q : Int)).tmod 6 = (t : Int) := by rw [Int.tmod_eq_emod_of_nonneg (by omega)]; omega
      have ht6 : (t : Int) < 6 := by omega
      have HJL := Aside0.mk (show (joinW ws).length ≤ 176 from by have := joinW_len HLW.out; have := HN.out; omega)
      obtain ⟨ln, hln⟩ : ∃ ln, mkB (joinW ws) = ln := ⟨_, rfl⟩
      rw [hln]
      have HLN := Aside0.mk hln
      have HLS := Aside0.mk (show ln.size ≤ 176 from by rw [← hln]; exact HJL.out)
      have hcat1 : (9223372036854775807 < 1 + ln.size) = False := eq_false (by have := HLS.out; omega)
      have hcat2 : (9223372036854775807 < 1 + ln.size + 6) = False := eq_false (by have := HLS.out; omega)
      obtain ⟨raw, hraw⟩ : ∃ raw, (⟨#[32]⟩ : ByteArray) ++ ln ++ ⟨#[32, 10, 109, 111, 114, 101]⟩ = raw := ⟨_, rfl⟩
      have HRAW := Aside0.mk hraw
      clear hlt hn hn8 hq8 ht hln
      rcases hsp with hs1 | ⟨hs1, hs2⟩
      · have HNB := Aside0.mk (show Kd.C Kd.string (wr.alloc (.cells #[.string ⟨#[114, 101, 97, 100]⟩, .string ⟨#[97]⟩, .string ⟨#[98]⟩, .string ⟨#[99]⟩, .string ⟨#[100]⟩, .string ⟨#[101]⟩, .string ⟨#[102]⟩] 9)) (some ⟨wr.heap.size, 0, none⟩) 7 (readCmd :: nm6) from lit_C wr (readCmd :: nm6) (by decide))
        have HRSZ := Aside0.mk (show raw.size ≤ 1000000 from by rw [← HRAW.out, ByteArray.size_append, ByteArray.size_append]; have := HLS.out; have e1 : (⟨#[32]⟩ : ByteArray).size = 1 := rfl; have e2 : (⟨#[32, 10, 109, 111, 114, 101]⟩ : ByteArray).size = 6 := rfl; omega)
        have HRW := Aside0.mk (show mkB (32 :: joinW ws ++ [32, 10, 109, 111, 114, 101]) = raw from by rw [← HRAW.out, ← HLN.out]; exact data_inj (by simp [mkB]))
        have HGN := Aside0.mk (show wr.heap.size < (wr.alloc (.cells #[.string ⟨#[114, 101, 97, 100]⟩, .string ⟨#[97]⟩, .string ⟨#[98]⟩, .string ⟨#[99]⟩, .string ⟨#[100]⟩, .string ⟨#[101]⟩, .string ⟨#[102]⟩] 9)).heap.size from by simp)
        have HBN := Aside0.mk (HB.out.alloc HB.out.size (.cells #[.string ⟨#[114, 101, 97, 100]⟩, .string ⟨#[97]⟩, .string ⟨#[98]⟩, .string ⟨#[99]⟩, .string ⟨#[100]⟩, .string ⟨#[101]⟩, .string ⟨#[102]⟩] 9))
        go_wp2_with fail
        generalize wr.alloc (.cells #[.string ⟨#[114, 101, 97, 100]⟩, .string ⟨#[97]⟩, .string ⟨#[98]⟩, .string ⟨#[99]⟩, .string ⟨#[100]⟩, .string ⟨#[101]⟩, .string ⟨#[102]⟩] 9) = wn at HNB HGN HBN ⊢
        generalize wr.heap.size = gn at HNB HGN ⊢
        refine (env_New0 _).mono ?_
        rintro e w2 ⟨g, m1, m2, rfl, he, hb, hg, hm1, hm2⟩
        have HE2 := Aside0.mk he
        have HB2 := Aside0.mk (HBN.out.trans (hb.mono HBN.out.size))
        have HNB2 := Aside0.mk (Kd.C_below HNB.out hb)
        have HG2 := Aside0.mk (show gn ≠ m1 ∧ gn < w2.heap.size ∧ w.heap.size ≤ m1 from ⟨by have := HGN.out; omega, by have := HGN.out; have := hb.size; omega, Nat.le_trans HBN.out.size hm1⟩)
        clear he hb hg hm1 hm2
        go_wp2_with fail
        refine (world_New1 raw HRSZ.out w2).mono ?_
        rintro e w3 ⟨gw, rfl, hw, hb, hgw⟩
        have HE3 := Aside0.mk (HE2.out.below hb)
        have HWO3 := Aside0.mk hw
        have HB3 := Aside0.mk (HB2.out.trans (hb.mono HB2.out.size))
        have HNB3 := Aside0.mk (Kd.C_below HNB2.out hb)
        have HG3 := Aside0.mk (show gn ≠ m1 ∧ gn ≠ gw ∧ w.heap.size ≤ m1 ∧ w.heap.size ≤ gw from ⟨HG2.out.1, by have := HG2.out.2.1; omega, HG2.out.2.2, Nat.le_trans HB2.out.size hgw⟩)
        clear hw hb hgw
        go_wp2_with fail
        obtain ⟨S1, hS1, hs1r, hs1l, hs1i, hs1g⟩ := reads_first HT6.out HGD.out (by rw [HN.out]; exact HN8.out) HLW.out HRW.out
        have HS1 := Aside0.mk (And.intro hs1r (And.intro hs1l hs1i))
        have HGET := Aside0.mk hs1g
        have HF1 := Aside0.mk hS1
        clear hS1 hs1r hs1l hs1i hs1g
        refine (run_read_names g m1 m2 gw gn env0 [raw] t HT6.out _ HNB3.out ⟨HG3.out.1, HG3.out.2.1⟩ HE3.out HWO3.out).mono ?_
        rw [HF1.out]
        rintro e w4 ⟨rfl, he4, hwo4, hc4⟩
        have HE4 := Aside0.mk he4
        have HWO4 := Aside0.mk hwo4
        have HB4 := Aside0.mk (below_chg HB3.out hc4 (fun k hk => by rcases hk with hk | hk <;> rw [hk]; exact HG3.out.2.2.1; exact HG3.out.2.2.2))
        have HNB4 := Aside0.mk (C_chgT HNB3.out hc4 (fun ad h _ hk => by injection h with h; subst h; rcases hk with hk | hk; exact HG3.out.1 hk; exact HG3.out.2.1 hk))
        clear he4 hwo4 hc4
        rw [show doneOf (0, ⟨#[]⟩, 0, 0, 0) = .agg #[.int .i64 0, .string ⟨#[]⟩, .int .i64 0, .int .i64 0, .int .i64 0] from rfl]
        have hbx : Below w4.heap.size w4 (w4.alloc (.cells #[.int .i64 0, .string ⟨#[]⟩, .int .i64 0, .int .i64 0, .int .i64 0] 35)) := (Below.refl _ _).alloc (Nat.le_refl _) _
        have HE5 := Aside0.mk (HE4.out.below hbx)
        have HWO5 := Aside0.mk (HWO4.out.below hbx)
        have HB5 := Aside0.mk (HB4.out.trans (hbx.mono HB4.out.size))
        have HNB5 := Aside0.mk (Kd.C_below HNB4.out hbx)
        have HD5 := Aside0.mk (heap_alloc_new w4 (.cells #[.int .i64 0, .string ⟨#[]⟩, .int .i64 0, .int .i64 0, .int .i64 0] 35))
        clear hbx hraw hcat1 hcat2
        go_wp2_with fail
        generalize w4.alloc (.cells #[.int .i64 0, .string ⟨#[]⟩, .int .i64 0, .int .i64 0, .int .i64 0] 35) = w5 at HE5 HWO5 HB5 HNB5 HD5 ⊢
        generalize w4.heap.size = bd at HD5 ⊢
        go_loopw [15, 16] (fun a i wx => ∃ (j at_ : Nat), j ≤ t + 1 ∧ i = .int .i64 ((j : Int) + 1) ∧ a = .int .i64 at_ ∧ at_ ≤ ln.size ∧ Aside0 (j ≤ t → ln.data.toList.drop at_ = joinW (ws.drop j)) ∧ Aside0 (EnvIs wx g m1 m2 S1) ∧ Aside0 (WorIs wx gw []) ∧ Aside0 (Kd.C Kd.string wx (some ⟨gn, 0, none⟩) 7 (readCmd :: nm6)) ∧ Aside0 (wx.heap[bd]? = some (.cells #[.int .i64 0, .string ⟨#[]⟩, .int .i64 0, .int .i64 0, .int .i64 0] 35 (0, 0))) ∧ Aside0 (Below w.heap.size w wx)) (fun _ i _ => t + 2 - (intOf i).toNat)
        case atStart => exact ⟨0, 0, Nat.zero_le _, rfl, rfl, Nat.zero_le _, ⟨fun _ => by rw [← HLN.out]; rfl⟩, HE5, HWO5, HNB5, HD5, HB5⟩
        case round =>
          obtain ⟨j, at_, hj, rfl, rfl, hat, HDR, HE, HWO, HNC, HDX, HBW⟩ := hrel
          have hlns : (ln.size : Int) ≤ 176 := by have := HLS.out; omega
          by_cases hjt : j ≤ t
          · have hj1 : (j : Int) + 1 ≤ (t : Int) + 1 := by omega
            have HJT := Aside0.mk hjt
            have HAT := Aside0.mk hat
            have hat' : (at_ : Int) ≤ (ln.size : Int) := by omega
            have hat0 : (0 : Int) ≤ (at_ : Int) := by omega
            obtain ⟨ad, e, hx⟩ := str_at HNC.out (k := j + 1) (by have := HT6.out; omega)
            injection e with e
            subst e
            rw [add_plain] at hx
            have hxn : (readCmd :: nm6).getD (j + 1) ByteArray.empty = nm6.getD j ⟨#[]⟩ := rfl
            rw [hxn] at hx
            obtain ⟨nm, hnm⟩ : ∃ nm, nm6.getD j ⟨#[]⟩ = nm := ⟨_, rfl⟩
            rw [hnm] at hx
            have HG := Aside0.mk (show getF S1 nm = (mkB ((expL ws t).getD j []), true) from by rw [← hnm]; exact HGET.out j hjt)
            have HNS := Aside0.mk (show nm.size ≤ 1000000 from by
              rw [← hnm]
              have := HT6.out
              rcases (by omega : j = 0 ∨ j = 1 ∨ j = 2 ∨ j = 3 ∨ j = 4 ∨ j = 5) with rfl | rfl | rfl | rfl | rfl | rfl <;> decide)
            have hj7 : (j : Int) + 1 < (t : Int) + 1 + 1 := by omega
            have ht7 : (t : Int) + 1 + 1 ≤ 7 := by omega
            have hdrop := HDR.out hjt
            by_cases hjt2 : j = t
            · have HW := Aside0.mk (show (ln.extract at_ ln.size) = mkB ((expL ws t).getD j []) from data_inj (by
                rw [expL_get t ws j (by omega), if_pos hjt2, list_extract, List.take_of_length_le (by rw [List.length_drop]; exact Nat.le_refl _), hdrop, hjt2]
                rfl))
              obtain ⟨x, hx2⟩ : ∃ x, ln.extract at_ ln.size = x := ⟨_, rfl⟩
              rw [hx2] at HW
              rw [← HW.out] at HG
              have HJ2 := Aside0.mk hjt2
              clear hnm hdrop hjt hat hj hjt2
              obtain rfl := HJ2.out
              go_wp2_with fail
              refine (env_Get g m1 m2 S1 nm x true _ HNS.out HE.out HG.out).mono ?_
              rintro e w6 ⟨rfl, hd⟩
              have HE6 := Aside0.mk (HE.out.drawn hd)
              have HWO6 := Aside0.mk (HWO.out.below hd.below)
              have HNC6 := Aside0.mk (Kd.C_below HNC.out hd.below)
              have HDX6 := Aside0.mk ((Chg.of_drawn hd none_).blk HDX.out (fun h => h))
              have HBW6 := Aside0.mk (HBW.out.trans (hd.below.mono HBW.out.size))
              clear hd
              go_wp2_with fail
              go_roundw
              case rel => exact ⟨j + 1, at_, Nat.le_refl _, by go_num, rfl, HAT.out, ⟨fun h => absurd h (by omega)⟩, HE6, HWO6, HNC6, HDX6, HBW6⟩
              case measure => simp [intOf]; omega
            · by_cases hjn : j < n
              · obtain ⟨wd, rest, hwr⟩ : ∃ wd rest, ws.drop j = wd :: rest := ⟨ws[j]'(by rw [HN.out]; exact hjn), ws.drop (j + 1), List.drop_eq_getElem_cons (by rw [HN.out]; exact hjn)⟩
                have hrest : ws.drop (j + 1) = rest := by rw [← List.drop_drop, hwr]; rfl
                have hgr : Good (wd :: rest) := fun y hy => HGD.out y (by rw [← hwr] at hy; exact List.mem_of_mem_drop hy)
                have hx0 : mkB ((expL ws t).getD j []) = mkB wd := by rw [expL_get t ws j (by omega), if_neg hjt2, hwr]; rfl
                rw [hx0] at HG
                obtain ⟨sep, hsep⟩ : ∃ sep : List UInt8, (if rest = [] then [] else [32, 32]) = sep := ⟨_, rfl⟩
                have HLD := Aside0.mk (show ln.data.toList.drop at_ = wd ++ (sep ++ joinW rest) from by rw [hdrop, hwr, joinW_cons, hsep, List.append_assoc])
                have HSUM := Aside0.mk (show at_ + wd.length + sep.length + (joinW rest).length = ln.size from by
                  have h := congrArg List.length HLD.out
                  rw [List.length_drop] at h
                  have hsz : ln.data.toList.length = ln.size := rfl
                  simp at h
                  omega)
                have HSEP := Aside0.mk (show ∀ c ∈ sep, c = 32 from fun c hc => by
                  rw [← hsep] at hc
                  split at hc
                  · cases hc
                  · simpa using hc)
                have HRH := Aside0.mk (show 0 < (joinW rest).length → 32 < (joinW rest).getD 0 0 from fun h => by
                  cases rest with
                  | nil => simp [joinW] at h
                  | cons y r =>
                    obtain ⟨c, q, e, hc⟩ := joinW_head (w := y) (ws := r) (fun z hz => hgr z (by simp at hz ⊢; exact .inr hz))
                    rw [joinW_cons, e]
                    exact hc)
                have HNX := Aside0.mk (show ln.data.toList.drop (at_ + wd.length + sep.length) = joinW (ws.drop (j + 1)) from by
                  rw [hrest, ← List.drop_drop, ← List.drop_drop, HLD.out, List.drop_left, List.drop_left])
                have HDK := Aside0.mk (show ∀ c ∈ wd, 32 < c from (hgr wd (by simp)).2)
                have HSE := Aside0.mk (show sep = [] → joinW rest = [] from fun h => by
                  rw [← hsep] at h
                  split at h
                  · rename_i h2; rw [h2]; rfl
                  · cases h)
                have HJ2 := Aside0.mk (show j + 1 ≤ t + 1 from by omega)
                have hjl : (j : Int) + 1 < (t : Int) + 1 := by omega
                have hjl2 : (j : Int) + 1 ≤ (n : Int) := by omega
                have hje : ((j : Int) + 1 == (t : Int) + 1) = false := beq_eq_false_iff_ne.2 (by omega)
                clear hnm hdrop hjt hat hj hjt2 hjn hx0 hwr hrest hgr hsep
                go_wp2_with fail
                go_loopw [15, 17] (fun a v wy => ∃ p, at_ ≤ p ∧ p ≤ at_ + wd.length ∧ a = .int .i64 p ∧ v = .string (mkB (wd.take (p - at_))) ∧ wy = wr) (fun a _ _ => ln.size + 1 - (intOf a).toNat)
                case atStart => exact ⟨at_, Nat.le_refl _, Nat.le_add_right _ _, rfl, by rw [Nat.sub_self]; rfl, rfl⟩
                case round =>
                  obtain ⟨p, hp1, hp2, rfl, rfl, rfl⟩ := hrel
                  by_cases hps : p < at_ + wd.length
                  · have hl1 : (p : Int) < (ln.size : Int) := by have := HSUM.out; omega
                    have hl2 : (p : Int) + 1 ≤ (ln.size : Int) := by have := HSUM.out; omega
                    have HP := Aside0.mk (show p < ln.size from by have := HSUM.out; omega)
                    have HP1 := Aside0.mk hp1
                    have HP2 := Aside0.mk hps
                    have hb := byte_at HP.out
                    have hex := one_byte HP.out
                    have hwb := word_byte HLD.out hp1 hps
                    obtain ⟨c2, hc2⟩ : ∃ c, ln.data.toList.getD p 0 = c := ⟨_, rfl⟩
                    rw [hc2] at hb hex hwb
                    have hdk : 32 < c2 := by rw [hwb]; exact HDK.out _ (getD_mem' (by omega) _)
                    have hne : ((c2.toNat : Int) == 32) = false := beq_eq_false_iff_ne.2 (by have hn : (32 : UInt8).toNat < c2.toNat := UInt8.lt_iff_toNat_lt.1 hdk; simp at hn; omega)
                    have happ : mkB (wd.take (p - at_)) ++ (⟨#[c2]⟩ : ByteArray) = mkB (wd.take (p + 1 - at_)) := by
                      rw [show p + 1 - at_ = (p - at_) + 1 from by omega, take_snoc' (show p - at_ < wd.length from by omega) 0, ← hwb]
                      exact mkB_app _ [c2]
                    have hcat : (9223372036854775807 < (mkB (wd.take (p - at_))).size + 1) = False := eq_false (by
                      have h1 : (mkB (wd.take (p - at_))).size = (wd.take (p - at_)).length := rfl
                      rw [List.length_take] at h1
                      have := HSUM.out
                      have := HLS.out
                      omega)
                    clear hc2 hwb hdk hp1 hp2 hps
                    go_wp2_with fail
                    go_roundw
                    case rel => exact ⟨p + 1, Nat.le_succ_of_le HP1.out, HP2.out, by go_num, rfl, by first | rfl | trivial⟩
                    case measure => have := HP.out; simp [intOf]; omega
                  · obtain rfl : p = at_ + wd.length := by omega
                    have hfull : wd.take (at_ + wd.length - at_) = wd := by rw [Nat.add_sub_cancel_left, List.take_length]
                    rw [hfull]
                    generalize hwy : wr = wy at *
                    by_cases hpe : at_ + wd.length < ln.size
                    · have hl1 : (at_ : Int) + wd.length < (ln.size : Int) := by omega
                      have HP := Aside0.mk hpe
                      have hb := byte_at HP.out
                      have hbb : ln.data.toList.getD (at_ + wd.length) 0 = 32 := by
                        have hsl : 0 < sep.length := by
                          rcases Nat.eq_zero_or_pos sep.length with h | h
                          · have h2 := HSE.out (List.eq_nil_of_length_eq_zero h)
                            have := HSUM.out
                            rw [h2] at this
                            simp at this
                            omega
                          · exact h
                        rw [rest_byte HLD.out (Nat.le_refl _), List.getD_eq_getElem?_getD, List.getElem?_append_left (by omega), ← List.getD_eq_getElem?_getD]
                        exact HSEP.out _ (getD_mem' (by omega) _)
                      rw [hbb] at hb
                      clear hbb hp1 hp2 hps hpe hfull
                      go_wp2_with fail
                      go_loopw [15] (fun a wz => ∃ p, at_ + wd.length ≤ p ∧ p ≤ at_ + wd.length + sep.length ∧ a = .int .i64 p ∧ wz = wy) (fun a _ => ln.size + 1 - (intOf a).toNat)
                      case atStart => exact ⟨at_ + wd.length, Nat.le_refl _, Nat.le_add_right _ _, by go_num, rfl⟩
                      case round =>
                        obtain ⟨p, hp1, hp2, rfl, rfl⟩ := hrel
                        by_cases hps : p < at_ + wd.length + sep.length
                        · have hl1 : (p : Int) < (ln.size : Int) := by have := HSUM.out; omega
                          have HP := Aside0.mk (show p < ln.size from by have := HSUM.out; omega)
                          have HP1 := Aside0.mk hp1
                          have HP2 := Aside0.mk hps
                          have hb := byte_at HP.out
                          have hbb : ln.data.toList.getD p 0 = 32 := by
                            rw [rest_byte HLD.out hp1, List.getD_eq_getElem?_getD, List.getElem?_append_left (by omega), ← List.getD_eq_getElem?_getD]
                            have hm := getD_mem' (show p - at_ - wd.length < sep.length from by omega) (0 : UInt8)
                            exact HSEP.out _ hm
                          rw [hbb] at hb
                          clear hbb hp1 hp2 hps
                          go_wp2_with fail
                          go_roundw
                          case rel => exact ⟨p + 1, Nat.le_succ_of_le HP1.out, HP2.out, by go_num, by first | rfl | trivial⟩
                          case measure => have := HP.out; simp [intOf]; omega
                        · obtain rfl : p = at_ + wd.length + sep.length := by omega
                          by_cases hpe : at_ + wd.length + sep.length < ln.size
                          · have hl1 : ((at_ + wd.length + sep.length : Nat) : Int) < (ln.size : Int) := by omega
                            have hl1' : (at_ : Int) + wd.length + sep.length < (ln.size : Int) := by omega
                            have HP := Aside0.mk hpe
                            have hb := byte_at HP.out
                            obtain ⟨c2, hc2⟩ : ∃ c, ln.data.toList.getD (at_ + wd.length + sep.length) 0 = c := ⟨_, rfl⟩
                            have hdk : 32 < c2 := by
                              rw [← hc2, rest_byte HLD.out (by omega), List.getD_eq_getElem?_getD, List.getElem?_append_right (by omega), ← List.getD_eq_getElem?_getD, show at_ + wd.length + sep.length - at_ - wd.length - sep.length = 0 from by omega]
                              exact HRH.out (by have := HSUM.out; omega)
                            have hne : ((c2.toNat : Int) == 32) = false := beq_eq_false_iff_ne.2 (by have hn : (32 : UInt8).toNat < c2.toNat := UInt8.lt_iff_toNat_lt.1 hdk; simp at hn; omega)
                            rw [hc2] at hb
                            clear hc2 hdk hp1 hp2 hps hpe
                            go_wp2_with fail
                            refine (env_Get g m1 m2 S1 nm (mkB wd) true _ HNS.out HE.out HG.out).mono ?_
                            rintro e w6 ⟨rfl, hd⟩
                            have HE6 := Aside0.mk (HE.out.drawn hd)
                            have HWO6 := Aside0.mk (HWO.out.below hd.below)
                            have HNC6 := Aside0.mk (Kd.C_below HNC.out hd.below)
                            have HDX6 := Aside0.mk ((Chg.of_drawn hd none_).blk HDX.out (fun h => h))
                            have HBW6 := Aside0.mk (HBW.out.trans (hd.below.mono HBW.out.size))
                            clear hd
                            go_wp2_with fail
                            go_roundw
                            case rel => exact ⟨j + 1, at_ + wd.length + sep.length, HJ2.out, by go_num, by go_num, by have := HSUM.out; omega, ⟨fun h => HNX.out⟩, HE6, HWO6, HNC6, HDX6, HBW6⟩
                            case measure => simp [intOf]; omega
                          · have hl1 : (ln.size : Int) ≤ ((at_ + wd.length + sep.length : Nat) : Int) := by omega
                            have hl1' : (ln.size : Int) ≤ (at_ : Int) + wd.length + sep.length := by omega
                            clear hp1 hp2 hps hpe
                            go_wp2_with fail
                            refine (env_Get g m1 m2 S1 nm (mkB wd) true _ HNS.out HE.out HG.out).mono ?_
                            rintro e w6 ⟨rfl, hd⟩
                            have HE6 := Aside0.mk (HE.out.drawn hd)
                            have HWO6 := Aside0.mk (HWO.out.below hd.below)
                            have HNC6 := Aside0.mk (Kd.C_below HNC.out hd.below)
                            have HDX6 := Aside0.mk ((Chg.of_drawn hd none_).blk HDX.out (fun h => h))
                            have HBW6 := Aside0.mk (HBW.out.trans (hd.below.mono HBW.out.size))
                            clear hd
                            go_wp2_with fail
                            go_roundw
                            case rel => exact ⟨j + 1, at_ + wd.length + sep.length, HJ2.out, by go_num, by go_num, by have := HSUM.out; omega, ⟨fun h => HNX.out⟩, HE6, HWO6, HNC6, HDX6, HBW6⟩
                            case measure => simp [intOf]; omega
                    · have hl1 : (ln.size : Int) ≤ (at_ : Int) + wd.length := by omega
                      clear hp1 hp2 hps hpe hfull
                      go_wp2_with fail
                      go_loopw [15] (fun a wz => ∃ p, at_ + wd.length ≤ p ∧ p ≤ at_ + wd.length + sep.length ∧ a = .int .i64 p ∧ wz = wy) (fun a _ => ln.size + 1 - (intOf a).toNat)
                      case atStart => exact ⟨at_ + wd.length, Nat.le_refl _, Nat.le_add_right _ _, by go_num, rfl⟩
                      case round =>
                        obtain ⟨p, hp1, hp2, rfl, rfl⟩ := hrel
                        by_cases hps : p < at_ + wd.length + sep.length
                        · have hl1 : (p : Int) < (ln.size : Int) := by have := HSUM.out; omega
                          have HP := Aside0.mk (show p < ln.size from by have := HSUM.out; omega)
                          have HP1 := Aside0.mk hp1
                          have HP2 := Aside0.mk hps
                          have hb := byte_at HP.out
                          have hbb : ln.data.toList.getD p 0 = 32 := by
                            rw [rest_byte HLD.out hp1, List.getD_eq_getElem?_getD, List.getElem?_append_left (by omega), ← List.getD_eq_getElem?_getD]
                            have hm := getD_mem' (show p - at_ - wd.length < sep.length from by omega) (0 : UInt8)
                            exact HSEP.out _ hm
                          rw [hbb] at hb
                          clear hbb hp1 hp2 hps
                          go_wp2_with fail
                          go_roundw
                          case rel => exact ⟨p + 1, Nat.le_succ_of_le HP1.out, HP2.out, by go_num, by first | rfl | trivial⟩
                          case measure => have := HP.out; simp [intOf]; omega
                        · obtain rfl : p = at_ + wd.length + sep.length := by omega
                          by_cases hpe : at_ + wd.length + sep.length < ln.size
                          · have hl1 : ((at_ + wd.length + sep.length : Nat) : Int) < (ln.size : Int) := by omega
                            have hl1' : (at_ : Int) + wd.length + sep.length < (ln.size : Int) := by omega
                            have HP := Aside0.mk hpe
                            have hb := byte_at HP.out
                            obtain ⟨c2, hc2⟩ : ∃ c, ln.data.toList.getD (at_ + wd.length + sep.length) 0 = c := ⟨_, rfl⟩
                            have hdk : 32 < c2 := by
                              rw [← hc2, rest_byte HLD.out (by omega), List.getD_eq_getElem?_getD, List.getElem?_append_right (by omega), ← List.getD_eq_getElem?_getD, show at_ + wd.length + sep.length - at_ - wd.length - sep.length = 0 from by omega]
                              exact HRH.out (by have := HSUM.out; omega)
                            have hne : ((c2.toNat : Int) == 32) = false := beq_eq_false_iff_ne.2 (by have hn : (32 : UInt8).toNat < c2.toNat := UInt8.lt_iff_toNat_lt.1 hdk; simp at hn; omega)
                            rw [hc2] at hb
                            clear hc2 hdk hp1 hp2 hps hpe
                            go_wp2_with fail
                          · have hl1 : (ln.size : Int) ≤ ((at_ + wd.length + sep.length : Nat) : Int) := by omega
                            have hl1' : (ln.size : Int) ≤ (at_ : Int) + wd.length + sep.length := by omega
                            clear hp1 hp2 hps hpe
                            go_wp2_with fail
                            refine (env_Get g m1 m2 S1 nm (mkB wd) true _ HNS.out HE.out HG.out).mono ?_
                            rintro e w6 ⟨rfl, hd⟩
                            have HE6 := Aside0.mk (HE.out.drawn hd)
                            have HWO6 := Aside0.mk (HWO.out.below hd.below)
                            have HNC6 := Aside0.mk (Kd.C_below HNC.out hd.below)
                            have HDX6 := Aside0.mk ((Chg.of_drawn hd none_).blk HDX.out (fun h => h))
                            have HBW6 := Aside0.mk (HBW.out.trans (hd.below.mono HBW.out.size))
                            clear hd
                            go_wp2_with fail
                            go_roundw
                            case rel => exact ⟨j + 1, at_ + wd.length + sep.length, HJ2.out, by go_num, by go_num, by have := HSUM.out; omega, ⟨fun h => HNX.out⟩, HE6, HWO6, HNC6, HDX6, HBW6⟩
                            case measure => simp [intOf]; omega
              · have hx0 : mkB ((expL ws t).getD j []) = ⟨#[]⟩ := by
                  rw [expL_get t ws j (by omega), if_neg hjt2, List.drop_eq_nil_of_le (by rw [HN.out]; omega)]
                  rfl
                have HD0 := Aside0.mk (show ln.data.toList.drop at_ = joinW (ws.drop (j + 1)) from by
                  rw [hdrop, List.drop_eq_nil_of_le (by rw [HN.out]; omega), List.drop_eq_nil_of_le (by rw [HN.out]; omega)])
                rw [hx0] at HG
                have HJ2 := Aside0.mk (show j + 1 ≤ t + 1 from by omega)
                have hjl : (j : Int) + 1 < (t : Int) + 1 := by omega
                have hjl2 : (n : Int) < (j : Int) + 1 := by omega
                have hje : ((j : Int) + 1 == (t : Int) + 1) = false := beq_eq_false_iff_ne.2 (by omega)
                clear hnm hdrop hjt hat hj hjt2 hjn hx0
                go_wp2_with fail
                refine (env_Get g m1 m2 S1 nm ⟨#[]⟩ true _ HNS.out HE.out HG.out).mono ?_
                rintro e w6 ⟨rfl, hd⟩
                have HE6 := Aside0.mk (HE.out.drawn hd)
                have HWO6 := Aside0.mk (HWO.out.below hd.below)
                have HNC6 := Aside0.mk (Kd.C_below HNC.out hd.below)
                have HDX6 := Aside0.mk ((Chg.of_drawn hd none_).blk HDX.out (fun h => h))
                have HBW6 := Aside0.mk (HBW.out.trans (hd.below.mono HBW.out.size))
                clear hd
                go_wp2_with fail
                go_roundw
                case rel => exact ⟨j + 1, at_, HJ2.out, by go_num, rfl, HAT.out, ⟨fun h => HD0.out⟩, HE6, HWO6, HNC6, HDX6, HBW6⟩
                case measure => simp [intOf]; omega
          · have hjt1 : (t : Int) + 1 < (j : Int) + 1 := by omega
            clear hjt hat hj
            go_wp2_with fail
            obtain ⟨S2, hS2, hg2⟩ := reads_second HT6.out HS1.out.1 HS1.out.2.1 HS1.out.2.2
            have HF2 := Aside0.mk hS2
            have HG2' := Aside0.mk hg2
            clear hS2 hg2
            refine (run_read_names g m1 m2 gw gn S1 [] t HT6.out _ HNC.out ⟨HG3.out.1, HG3.out.2.1⟩ HE.out HWO.out).mono ?_
            rw [HF2.out]
            rintro e w6 ⟨rfl, he6, _, hc6⟩
            have HE6 := Aside0.mk he6
            have HB6 := Aside0.mk (below_chg HBW.out hc6 (fun k hk => by rcases hk with hk | hk <;> rw [hk]; exact HG3.out.2.2.1; exact HG3.out.2.2.2))
            have HDX6 := Aside0.mk (hc6.blk HDX.out (fun e => by
              rcases e with e | e
              · exact map_notRow HE.out.vars _ _ (by rw [← e]; exact HDX.out)
              · exact wor_notRow HWO.out (e := 35) (by decide) _ (by rw [← e]; exact HDX.out)))
            clear he6 hc6
            rw [show doneOf (1, ⟨#[]⟩, 0, 0, 0) = .agg #[.int .i64 1, .string ⟨#[]⟩, .int .i64 0, .int .i64 0, .int .i64 0] from rfl]
            have hbx : Below w6.heap.size w6 (w6.alloc (.cells #[.int .i64 1, .string ⟨#[]⟩, .int .i64 0, .int .i64 0, .int .i64 0] 35)) := (Below.refl _ _).alloc (Nat.le_refl _) _
            have HE7 := Aside0.mk (HE6.out.below hbx)
            have HB7 := Aside0.mk (HB6.out.trans (hbx.mono HB6.out.size))
            have HD7 := Aside0.mk (heap_alloc_new w6 (.cells #[.int .i64 1, .string ⟨#[]⟩, .int .i64 0, .int .i64 0, .int .i64 0] 35))
            have HDX7 := Aside0.mk ((Chg.of_below hbx none_).blk HDX6.out (fun h => h))
            clear hbx
            go_wp2_with fail
            generalize w6.alloc (.cells #[.int .i64 1, .string ⟨#[]⟩, .int .i64 0, .int .i64 0, .int .i64 0] 35) = w7 at HE7 HB7 HD7 HDX7 ⊢
            generalize w6.heap.size = bf at HD7 ⊢
            refine (env_Get g m1 m2 S2 ⟨#[97]⟩ ⟨#[]⟩ true _ (by decide) HE7.out HG2'.out).mono ?_
            rintro e w8 ⟨rfl, hd⟩
            have HB8 := Aside0.mk (HB7.out.trans (hd.below.mono HB7.out.size))
            have HD8 := Aside0.mk ((Chg.of_drawn hd none_).blk HD7.out (fun h => h))
            have HDX8 := Aside0.mk ((Chg.of_drawn hd none_).blk HDX7.out (fun h => h))
            obtain ⟨⟨q0, q1, q2, q3, q4⟩, qf⟩ := box5 HD8.out
            obtain ⟨⟨p0, p1, p2, p3, p4⟩, pf⟩ := box5 HDX8.out
            clear hd
            go_wp2_with fail
            refine (awake16 _).mono ?_
            rintro e w9 ⟨rfl, hb⟩
            have HB9 := Aside0.mk (HB8.out.trans (hb.mono HB8.out.size))
            clear hb
            go_wp2_with fail
            go_ret
            exact ⟨rfl, HB9.out⟩
      · have HNB := Aside0.mk (show Kd.C Kd.string (wr.alloc (.cells #[.string ⟨#[114, 101, 97, 100]⟩, .string ⟨#[97]⟩, .string ⟨#[98]⟩, .string ⟨#[99]⟩, .string ⟨#[100]⟩, .string ⟨#[101]⟩, .string ⟨#[102]⟩] 9)) (some ⟨wr.heap.size, 0, none⟩) 7 (readCmd :: nm6) from lit_C wr (readCmd :: nm6) (by decide))
        have HRSZ := Aside0.mk (show raw.size ≤ 1000000 from by rw [← HRAW.out, ByteArray.size_append, ByteArray.size_append]; have := HLS.out; have e1 : (⟨#[32]⟩ : ByteArray).size = 1 := rfl; have e2 : (⟨#[32, 10, 109, 111, 114, 101]⟩ : ByteArray).size = 6 := rfl; omega)
        have HRW := Aside0.mk (show mkB (32 :: joinW ws ++ [32, 10, 109, 111, 114, 101]) = raw from by rw [← HRAW.out, ← HLN.out]; exact data_inj (by simp [mkB]))
        have HGN := Aside0.mk (show wr.heap.size < (wr.alloc (.cells #[.string ⟨#[114, 101, 97, 100]⟩, .string ⟨#[97]⟩, .string ⟨#[98]⟩, .string ⟨#[99]⟩, .string ⟨#[100]⟩, .string ⟨#[101]⟩, .string ⟨#[102]⟩] 9)).heap.size from by simp)
        have HBN := Aside0.mk (HB.out.alloc HB.out.size (.cells #[.string ⟨#[114, 101, 97, 100]⟩, .string ⟨#[97]⟩, .string ⟨#[98]⟩, .string ⟨#[99]⟩, .string ⟨#[100]⟩, .string ⟨#[101]⟩, .string ⟨#[102]⟩] 9))
        go_wp2_with fail
        generalize wr.alloc (.cells #[.string ⟨#[114, 101, 97, 100]⟩, .string ⟨#[97]⟩, .string ⟨#[98]⟩, .string ⟨#[99]⟩, .string ⟨#[100]⟩, .string ⟨#[101]⟩, .string ⟨#[102]⟩] 9) = wn at HNB HGN HBN ⊢
        generalize wr.heap.size = gn at HNB HGN ⊢
        refine (env_New0 _).mono ?_
        rintro e w2 ⟨g, m1, m2, rfl, he, hb, hg, hm1, hm2⟩
        have HE2 := Aside0.mk he
        have HB2 := Aside0.mk (HBN.out.trans (hb.mono HBN.out.size))
        have HNB2 := Aside0.mk (Kd.C_below HNB.out hb)
        have HG2 := Aside0.mk (show gn ≠ m1 ∧ gn < w2.heap.size ∧ w.heap.size ≤ m1 from ⟨by have := HGN.out; omega, by have := HGN.out; have := hb.size; omega, Nat.le_trans HBN.out.size hm1⟩)
        clear he hb hg hm1 hm2
        go_wp2_with fail
        refine (world_New1 raw HRSZ.out w2).mono ?_
        rintro e w3 ⟨gw, rfl, hw, hb, hgw⟩
        have HE3 := Aside0.mk (HE2.out.below hb)
        have HWO3 := Aside0.mk hw
        have HB3 := Aside0.mk (HB2.out.trans (hb.mono HB2.out.size))
        have HNB3 := Aside0.mk (Kd.C_below HNB2.out hb)
        have HG3 := Aside0.mk (show gn ≠ m1 ∧ gn ≠ gw ∧ w.heap.size ≤ m1 ∧ w.heap.size ≤ gw from ⟨HG2.out.1, by have := HG2.out.2.1; omega, HG2.out.2.2, Nat.le_trans HB2.out.size hgw⟩)
        clear hw hb hgw
        go_wp2_with fail
        obtain ⟨S1, hS1, hs1r, hs1l, hs1i, hs1g⟩ := reads_first HT6.out HGD.out (by rw [HN.out]; exact HN8.out) HLW.out HRW.out
        have HS1 := Aside0.mk (And.intro hs1r (And.intro hs1l hs1i))
        have HGET := Aside0.mk hs1g
        have HF1 := Aside0.mk hS1
        clear hS1 hs1r hs1l hs1i hs1g
        refine (run_read_names g m1 m2 gw gn env0 [raw] t HT6.out _ HNB3.out ⟨HG3.out.1, HG3.out.2.1⟩ HE3.out HWO3.out).mono ?_
        rw [HF1.out]
        rintro e w4 ⟨rfl, he4, hwo4, hc4⟩
        have HE4 := Aside0.mk he4
        have HWO4 := Aside0.mk hwo4
        have HB4 := Aside0.mk (below_chg HB3.out hc4 (fun k hk => by rcases hk with hk | hk <;> rw [hk]; exact HG3.out.2.2.1; exact HG3.out.2.2.2))
        have HNB4 := Aside0.mk (C_chgT HNB3.out hc4 (fun ad h _ hk => by injection h with h; subst h; rcases hk with hk | hk; exact HG3.out.1 hk; exact HG3.out.2.1 hk))
        clear he4 hwo4 hc4
        rw [show doneOf (0, ⟨#[]⟩, 0, 0, 0) = .agg #[.int .i64 0, .string ⟨#[]⟩, .int .i64 0, .int .i64 0, .int .i64 0] from rfl]
        have hbx : Below w4.heap.size w4 (w4.alloc (.cells #[.int .i64 0, .string ⟨#[]⟩, .int .i64 0, .int .i64 0, .int .i64 0] 35)) := (Below.refl _ _).alloc (Nat.le_refl _) _
        have HE5 := Aside0.mk (HE4.out.below hbx)
        have HWO5 := Aside0.mk (HWO4.out.below hbx)
        have HB5 := Aside0.mk (HB4.out.trans (hbx.mono HB4.out.size))
        have HNB5 := Aside0.mk (Kd.C_below HNB4.out hbx)
        have HD5 := Aside0.mk (heap_alloc_new w4 (.cells #[.int .i64 0, .string ⟨#[]⟩, .int .i64 0, .int .i64 0, .int .i64 0] 35))
        clear hbx hraw hcat1 hcat2
        go_wp2_with fail
        generalize w4.alloc (.cells #[.int .i64 0, .string ⟨#[]⟩, .int .i64 0, .int .i64 0, .int .i64 0] 35) = w5 at HE5 HWO5 HB5 HNB5 HD5 ⊢
        generalize w4.heap.size = bd at HD5 ⊢
        go_loopw [15, 16] (fun a i wx => ∃ (j at_ : Nat), j ≤ t + 1 ∧ i = .int .i64 ((j : Int) + 1) ∧ a = .int .i64 at_ ∧ at_ ≤ ln.size ∧ Aside0 (j ≤ t → ln.data.toList.drop at_ = joinW (ws.drop j)) ∧ Aside0 (EnvIs wx g m1 m2 S1) ∧ Aside0 (WorIs wx gw []) ∧ Aside0 (Kd.C Kd.string wx (some ⟨gn, 0, none⟩) 7 (readCmd :: nm6)) ∧ Aside0 (wx.heap[bd]? = some (.cells #[.int .i64 0, .string ⟨#[]⟩, .int .i64 0, .int .i64 0, .int .i64 0] 35 (0, 0))) ∧ Aside0 (Below w.heap.size w wx)) (fun _ i _ => t + 2 - (intOf i).toNat)
        case atStart => exact ⟨0, 0, Nat.zero_le _, rfl, rfl, Nat.zero_le _, ⟨fun _ => by rw [← HLN.out]; rfl⟩, HE5, HWO5, HNB5, HD5, HB5⟩
        case round =>
          obtain ⟨j, at_, hj, rfl, rfl, hat, HDR, HE, HWO, HNC, HDX, HBW⟩ := hrel
          have hlns : (ln.size : Int) ≤ 176 := by have := HLS.out; omega
          by_cases hjt : j ≤ t
          · have hj1 : (j : Int) + 1 ≤ (t : Int) + 1 := by omega
            have HJT := Aside0.mk hjt
            have HAT := Aside0.mk hat
            have hat' : (at_ : Int) ≤ (ln.size : Int) := by omega
            have hat0 : (0 : Int) ≤ (at_ : Int) := by omega
            obtain ⟨ad, e, hx⟩ := str_at HNC.out (k := j + 1) (by have := HT6.out; omega)
            injection e with e
            subst e
            rw [add_plain] at hx
            have hxn : (readCmd :: nm6).getD (j + 1) ByteArray.empty = nm6.getD j ⟨#[]⟩ := rfl
            rw [hxn] at hx
            obtain ⟨nm, hnm⟩ : ∃ nm, nm6.getD j ⟨#[]⟩ = nm := ⟨_, rfl⟩
            rw [hnm] at hx
            have HG := Aside0.mk (show getF S1 nm = (mkB ((expL ws t).getD j []), true) from by rw [← hnm]; exact HGET.out j hjt)
            have HNS := Aside0.mk (show nm.size ≤ 1000000 from by
              rw [← hnm]
              have := HT6.out
              rcases (by omega : j = 0 ∨ j = 1 ∨ j = 2 ∨ j = 3 ∨ j = 4 ∨ j = 5) with rfl | rfl | rfl | rfl | rfl | rfl <;> decide)
            have hj7 : (j : Int) + 1 < (t : Int) + 1 + 1 := by omega
            have ht7 : (t : Int) + 1 + 1 ≤ 7 := by omega
            have hdrop := HDR.out hjt
            by_cases hjt2 : j = t
            · have HW := Aside0.mk (show (ln.extract at_ ln.size) = mkB ((expL ws t).getD j []) from data_inj (by
                rw [expL_get t ws j (by omega), if_pos hjt2, list_extract, List.take_of_length_le (by rw [List.length_drop]; exact Nat.le_refl _), hdrop, hjt2]
                rfl))
              obtain ⟨x, hx2⟩ : ∃ x, ln.extract at_ ln.size = x := ⟨_, rfl⟩
              rw [hx2] at HW
              rw [← HW.out] at HG
              have HJ2 := Aside0.mk hjt2
              clear hnm hdrop hjt hat hj hjt2
              obtain rfl := HJ2.out
              go_wp2_with fail
              refine (env_Get g m1 m2 S1 nm x true _ HNS.out HE.out HG.out).mono ?_
              rintro e w6 ⟨rfl, hd⟩
              have HE6 := Aside0.mk (HE.out.drawn hd)
              have HWO6 := Aside0.mk (HWO.out.below hd.below)
              have HNC6 := Aside0.mk (Kd.C_below HNC.out hd.below)
              have HDX6 := Aside0.mk ((Chg.of_drawn hd none_).blk HDX.out (fun h => h))
              have HBW6 := Aside0.mk (HBW.out.trans (hd.below.mono HBW.out.size))
              clear hd
              go_wp2_with fail
              go_roundw
              case rel => exact ⟨j + 1, at_, Nat.le_refl _, by go_num, rfl, HAT.out, ⟨fun h => absurd h (by omega)⟩, HE6, HWO6, HNC6, HDX6, HBW6⟩
              case measure => simp [intOf]; omega
            · by_cases hjn : j < n
              · obtain ⟨wd, rest, hwr⟩ : ∃ wd rest, ws.drop j = wd :: rest := ⟨ws[j]'(by rw [HN.out]; exact hjn), ws.drop (j + 1), List.drop_eq_getElem_cons (by rw [HN.out]; exact hjn)⟩
                have hrest : ws.drop (j + 1) = rest := by rw [← List.drop_drop, hwr]; rfl
                have hgr : Good (wd :: rest) := fun y hy => HGD.out y (by rw [← hwr] at hy; exact List.mem_of_mem_drop hy)
                have hx0 : mkB ((expL ws t).getD j []) = mkB wd := by rw [expL_get t ws j (by omega), if_neg hjt2, hwr]; rfl
                rw [hx0] at HG
                obtain ⟨sep, hsep⟩ : ∃ sep : List UInt8, (if rest = [] then [] else [32, 32]) = sep := ⟨_, rfl⟩
                have HLD := Aside0.mk (show ln.data.toList.drop at_ = wd ++ (sep ++ joinW rest) from by rw [hdrop, hwr, joinW_cons, hsep, List.append_assoc])
                have HSUM := Aside0.mk (show at_ + wd.length + sep.length + (joinW rest).length = ln.size from by
                  have h := congrArg List.length HLD.out
                  rw [List.length_drop] at h
                  have hsz : ln.data.toList.length = ln.size := rfl
                  simp at h
                  omega)
                have HSEP := Aside0.mk (show ∀ c ∈ sep, c = 32 from fun c hc => by
                  rw [← hsep] at hc
                  split at hc
                  · cases hc
                  · simpa using hc)
                have HRH := Aside0.mk (show 0 < (joinW rest).length → 32 < (joinW rest).getD 0 0 from fun h => by
                  cases rest with
                  | nil => simp [joinW] at h
                  | cons y r =>
                    obtain ⟨c, q, e, hc⟩ := joinW_head (w := y) (ws := r) (fun z hz => hgr z (by simp at hz ⊢; exact .inr hz))
                    rw [joinW_cons, e]
                    exact hc)
                have HNX := Aside0.mk (show ln.data.toList.drop (at_ + wd.length + sep.length) = joinW (ws.drop (j + 1)) from by
                  rw [hrest, ← List.drop_drop, ← List.drop_drop, HLD.out, List.drop_left, List.drop_left])
                have HDK := Aside0.mk (show ∀ c ∈ wd, 32 < c from (hgr wd (by simp)).2)
                have HSE := Aside0.mk (show sep = [] → joinW rest = [] from fun h => by
                  rw [← hsep] at h
                  split at h
                  · rename_i h2; rw [h2]; rfl
                  · cases h)
                have HJ2 := Aside0.mk (show j + 1 ≤ t + 1 from by omega)
                have hjl : (j : Int) + 1 < (t : Int) + 1 := by omega
                have hjl2 : (j : Int) + 1 ≤ (n : Int) := by omega
                have hje : ((j : Int) + 1 == (t : Int) + 1) = false := beq_eq_false_iff_ne.2 (by omega)
                clear hnm hdrop hjt hat hj hjt2 hjn hx0 hwr hrest hgr hsep
                go_wp2_with fail
                go_loopw [15, 17] (fun a v wy => ∃ p, at_ ≤ p ∧ p ≤ at_ + wd.length ∧ a = .int .i64 p ∧ v = .string (mkB (wd.take (p - at_))) ∧ wy = wr) (fun a _ _ => ln.size + 1 - (intOf a).toNat)
                case atStart => exact ⟨at_, Nat.le_refl _, Nat.le_add_right _ _, rfl, by rw [Nat.sub_self]; rfl, rfl⟩
                case round =>
                  obtain ⟨p, hp1, hp2, rfl, rfl, rfl⟩ := hrel
                  by_cases hps : p < at_ + wd.length
                  · have hl1 : (p : Int) < (ln.size : Int) := by have := HSUM.out; omega
                    have hl2 : (p : Int) + 1 ≤ (ln.size : Int) := by have := HSUM.out; omega
                    have HP := Aside0.mk (show p < ln.size from by have := HSUM.out; omega)
                    have HP1 := Aside0.mk hp1
                    have HP2 := Aside0.mk hps
                    have hb := byte_at HP.out
                    have hex := one_byte HP.out
                    have hwb := word_byte HLD.out hp1 hps
                    obtain ⟨c2, hc2⟩ : ∃ c, ln.data.toList.getD p 0 = c := ⟨_, rfl⟩
                    rw [hc2] at hb hex hwb
                    have hdk : 32 < c2 := by rw [hwb]; exact HDK.out _ (getD_mem' (by omega) _)
                    have hne : ((c2.toNat : Int) == 32) = false := beq_eq_false_iff_ne.2 (by have hn : (32 : UInt8).toNat < c2.toNat := UInt8.lt_iff_toNat_lt.1 hdk; simp at hn; omega)
                    have happ : mkB (wd.take (p - at_)) ++ (⟨#[c2]⟩ : ByteArray) = mkB (wd.take (p + 1 - at_)) := by
                      rw [show p + 1 - at_ = (p - at_) + 1 from by omega, take_snoc' (show p - at_ < wd.length from by omega) 0, ← hwb]
                      exact mkB_app _ [c2]
                    have hcat : (9223372036854775807 < (mkB (wd.take (p - at_))).size + 1) = False := eq_false (by
                      have h1 : (mkB (wd.take (p - at_))).size = (wd.take (p - at_)).length := rfl
                      rw [List.length_take] at h1
                      have := HSUM.out
                      have := HLS.out
                      omega)
                    clear hc2 hwb hdk hp1 hp2 hps
                    go_wp2_with fail
                    go_roundw
                    case rel => exact ⟨p + 1, Nat.le_succ_of_le HP1.out, HP2.out, by go_num, rfl, by first | rfl | trivial⟩
                    case measure => have := HP.out; simp [intOf]; omega
                  · obtain rfl : p = at_ + wd.length := by omega
                    have hfull : wd.take (at_ + wd.length - at_) = wd := by rw [Nat.add_sub_cancel_left, List.take_length]
                    rw [hfull]
                    generalize hwy : wr = wy at *
                    by_cases hpe : at_ + wd.length < ln.size
                    · have hl1 : (at_ : Int) + wd.length < (ln.size : Int) := by omega
                      have HP := Aside0.mk hpe
                      have hb := byte_at HP.out
                      have hbb : ln.data.toList.getD (at_ + wd.length) 0 = 32 := by
                        have hsl : 0 < sep.length := by
                          rcases Nat.eq_zero_or_pos sep.length with h | h
                          · have h2 := HSE.out (List.eq_nil_of_length_eq_zero h)
                            have := HSUM.out
                            rw [h2] at this
                            simp at this
                            omega
                          · exact h
                        rw [rest_byte HLD.out (Nat.le_refl _), List.getD_eq_getElem?_getD, List.getElem?_append_left (by omega), ← List.getD_eq_getElem?_getD]
                        exact HSEP.out _ (getD_mem' (by omega) _)
                      rw [hbb] at hb
                      clear hbb hp1 hp2 hps hpe hfull
                      go_wp2_with fail
                      go_loopw [15] (fun a wz => ∃ p, at_ + wd.length ≤ p ∧ p ≤ at_ + wd.length + sep.length ∧ a = .int .i64 p ∧ wz = wy) (fun a _ => ln.size + 1 - (intOf a).toNat)
                      case atStart => exact ⟨at_ + wd.length, Nat.le_refl _, Nat.le_add_right _ _, by go_num, rfl⟩
                      case round =>
                        obtain ⟨p, hp1, hp2, rfl, rfl⟩ := hrel
                        by_cases hps : p < at_ + wd.length + sep.length
                        · have hl1 : (p : Int) < (ln.size : Int) := by have := HSUM.out; omega
                          have HP := Aside0.mk (show p < ln.size from by have := HSUM.out; omega)
                          have HP1 := Aside0.mk hp1
                          have HP2 := Aside0.mk hps
                          have hb := byte_at HP.out
                          have hbb : ln.data.toList.getD p 0 = 32 := by
                            rw [rest_byte HLD.out hp1, List.getD_eq_getElem?_getD, List.getElem?_append_left (by omega), ← List.getD_eq_getElem?_getD]
                            have hm := getD_mem' (show p - at_ - wd.length < sep.length from by omega) (0 : UInt8)
                            exact HSEP.out _ hm
                          rw [hbb] at hb
                          clear hbb hp1 hp2 hps
                          go_wp2_with fail
                          go_roundw
                          case rel => exact ⟨p + 1, Nat.le_succ_of_le HP1.out, HP2.out, by go_num, by first | rfl | trivial⟩
                          case measure => have := HP.out; simp [intOf]; omega
                        · obtain rfl : p = at_ + wd.length + sep.length := by omega
                          by_cases hpe : at_ + wd.length + sep.length < ln.size
                          · have hl1 : ((at_ + wd.length + sep.length : Nat) : Int) < (ln.size : Int) := by omega
                            have hl1' : (at_ : Int) + wd.length + sep.length < (ln.size : Int) := by omega
                            have HP := Aside0.mk hpe
                            have hb := byte_at HP.out
                            obtain ⟨c2, hc2⟩ : ∃ c, ln.data.toList.getD (at_ + wd.length + sep.length) 0 = c := ⟨_, rfl⟩
                            have hdk : 32 < c2 := by
                              rw [← hc2, rest_byte HLD.out (by omega), List.getD_eq_getElem?_getD, List.getElem?_append_right (by omega), ← List.getD_eq_getElem?_getD, show at_ + wd.length + sep.length - at_ - wd.length - sep.length = 0 from by omega]
                              exact HRH.out (by have := HSUM.out; omega)
                            have hne : ((c2.toNat : Int) == 32) = false := beq_eq_false_iff_ne.2 (by have hn : (32 : UInt8).toNat < c2.toNat := UInt8.lt_iff_toNat_lt.1 hdk; simp at hn; omega)
                            rw [hc2] at hb
                            clear hc2 hdk hp1 hp2 hps hpe
                            go_wp2_with fail
                            refine (env_Get g m1 m2 S1 nm (mkB wd) true _ HNS.out HE.out HG.out).mono ?_
                            rintro e w6 ⟨rfl, hd⟩
                            have HE6 := Aside0.mk (HE.out.drawn hd)
                            have HWO6 := Aside0.mk (HWO.out.below hd.below)
                            have HNC6 := Aside0.mk (Kd.C_below HNC.out hd.below)
                            have HDX6 := Aside0.mk ((Chg.of_drawn hd none_).blk HDX.out (fun h => h))
                            have HBW6 := Aside0.mk (HBW.out.trans (hd.below.mono HBW.out.size))
                            clear hd
                            go_wp2_with fail
                            go_roundw
                            case rel => exact ⟨j + 1, at_ + wd.length + sep.length, HJ2.out, by go_num, by go_num, by have := HSUM.out; omega, ⟨fun h => HNX.out⟩, HE6, HWO6, HNC6, HDX6, HBW6⟩
                            case measure => simp [intOf]; omega
                          · have hl1 : (ln.size : Int) ≤ ((at_ + wd.length + sep.length : Nat) : Int) := by omega
                            have hl1' : (ln.size : Int) ≤ (at_ : Int) + wd.length + sep.length := by omega
                            clear hp1 hp2 hps hpe
                            go_wp2_with fail
                            refine (env_Get g m1 m2 S1 nm (mkB wd) true _ HNS.out HE.out HG.out).mono ?_
                            rintro e w6 ⟨rfl, hd⟩
                            have HE6 := Aside0.mk (HE.out.drawn hd)
                            have HWO6 := Aside0.mk (HWO.out.below hd.below)
                            have HNC6 := Aside0.mk (Kd.C_below HNC.out hd.below)
                            have HDX6 := Aside0.mk ((Chg.of_drawn hd none_).blk HDX.out (fun h => h))
                            have HBW6 := Aside0.mk (HBW.out.trans (hd.below.mono HBW.out.size))
                            clear hd
                            go_wp2_with fail
                            go_roundw
                            case rel => exact ⟨j + 1, at_ + wd.length + sep.length, HJ2.out, by go_num, by go_num, by have := HSUM.out; omega, ⟨fun h => HNX.out⟩, HE6, HWO6, HNC6, HDX6, HBW6⟩
                            case measure => simp [intOf]; omega
                    · have hl1 : (ln.size : Int) ≤ (at_ : Int) + wd.length := by omega
                      clear hp1 hp2 hps hpe hfull
                      go_wp2_with fail
                      go_loopw [15] (fun a wz => ∃ p, at_ + wd.length ≤ p ∧ p ≤ at_ + wd.length + sep.length ∧ a = .int .i64 p ∧ wz = wy) (fun a _ => ln.size + 1 - (intOf a).toNat)
                      case atStart => exact ⟨at_ + wd.length, Nat.le_refl _, Nat.le_add_right _ _, by go_num, rfl⟩
                      case round =>
                        obtain ⟨p, hp1, hp2, rfl, rfl⟩ := hrel
                        by_cases hps : p < at_ + wd.length + sep.length
                        · have hl1 : (p : Int) < (ln.size : Int) := by have := HSUM.out; omega
                          have HP := Aside0.mk (show p < ln.size from by have := HSUM.out; omega)
                          have HP1 := Aside0.mk hp1
                          have HP2 := Aside0.mk hps
                          have hb := byte_at HP.out
                          have hbb : ln.data.toList.getD p 0 = 32 := by
                            rw [rest_byte HLD.out hp1, List.getD_eq_getElem?_getD, List.getElem?_append_left (by omega), ← List.getD_eq_getElem?_getD]
                            have hm := getD_mem' (show p - at_ - wd.length < sep.length from by omega) (0 : UInt8)
                            exact HSEP.out _ hm
                          rw [hbb] at hb
                          clear hbb hp1 hp2 hps
                          go_wp2_with fail
                          go_roundw
                          case rel => exact ⟨p + 1, Nat.le_succ_of_le HP1.out, HP2.out, by go_num, by first | rfl | trivial⟩
                          case measure => have := HP.out; simp [intOf]; omega
                        · obtain rfl : p = at_ + wd.length + sep.length := by omega
                          by_cases hpe : at_ + wd.length + sep.length < ln.size
                          · have hl1 : ((at_ + wd.length + sep.length : Nat) : Int) < (ln.size : Int) := by omega
                            have hl1' : (at_ : Int) + wd.length + sep.length < (ln.size : Int) := by omega
                            have HP := Aside0.mk hpe
                            have hb := byte_at HP.out
                            obtain ⟨c2, hc2⟩ : ∃ c, ln.data.toList.getD (at_ + wd.length + sep.length) 0 = c := ⟨_, rfl⟩
                            have hdk : 32 < c2 := by
                              rw [← hc2, rest_byte HLD.out (by omega), List.getD_eq_getElem?_getD, List.getElem?_append_right (by omega), ← List.getD_eq_getElem?_getD, show at_ + wd.length + sep.length - at_ - wd.length - sep.length = 0 from by omega]
                              exact HRH.out (by have := HSUM.out; omega)
                            have hne : ((c2.toNat : Int) == 32) = false := beq_eq_false_iff_ne.2 (by have hn : (32 : UInt8).toNat < c2.toNat := UInt8.lt_iff_toNat_lt.1 hdk; simp at hn; omega)
                            rw [hc2] at hb
                            clear hc2 hdk hp1 hp2 hps hpe
                            go_wp2_with fail
                          · have hl1 : (ln.size : Int) ≤ ((at_ + wd.length + sep.length : Nat) : Int) := by omega
                            have hl1' : (ln.size : Int) ≤ (at_ : Int) + wd.length + sep.length := by omega
                            clear hp1 hp2 hps hpe
                            go_wp2_with fail
                            refine (env_Get g m1 m2 S1 nm (mkB wd) true _ HNS.out HE.out HG.out).mono ?_
                            rintro e w6 ⟨rfl, hd⟩
                            have HE6 := Aside0.mk (HE.out.drawn hd)
                            have HWO6 := Aside0.mk (HWO.out.below hd.below)
                            have HNC6 := Aside0.mk (Kd.C_below HNC.out hd.below)
                            have HDX6 := Aside0.mk ((Chg.of_drawn hd none_).blk HDX.out (fun h => h))
                            have HBW6 := Aside0.mk (HBW.out.trans (hd.below.mono HBW.out.size))
                            clear hd
                            go_wp2_with fail
                            go_roundw
                            case rel => exact ⟨j + 1, at_ + wd.length + sep.length, HJ2.out, by go_num, by go_num, by have := HSUM.out; omega, ⟨fun h => HNX.out⟩, HE6, HWO6, HNC6, HDX6, HBW6⟩
                            case measure => simp [intOf]; omega
              · have hx0 : mkB ((expL ws t).getD j []) = ⟨#[]⟩ := by
                  rw [expL_get t ws j (by omega), if_neg hjt2, List.drop_eq_nil_of_le (by rw [HN.out]; omega)]
                  rfl
                have HD0 := Aside0.mk (show ln.data.toList.drop at_ = joinW (ws.drop (j + 1)) from by
                  rw [hdrop, List.drop_eq_nil_of_le (by rw [HN.out]; omega), List.drop_eq_nil_of_le (by rw [HN.out]; omega)])
                rw [hx0] at HG
                have HJ2 := Aside0.mk (show j + 1 ≤ t + 1 from by omega)
                have hjl : (j : Int) + 1 < (t : Int) + 1 := by omega
                have hjl2 : (n : Int) < (j : Int) + 1 := by omega
                have hje : ((j : Int) + 1 == (t : Int) + 1) = false := beq_eq_false_iff_ne.2 (by omega)
                clear hnm hdrop hjt hat hj hjt2 hjn hx0
                go_wp2_with fail
          · have hjt1 : (t : Int) + 1 < (j : Int) + 1 := by omega
            clear hjt hat hj
            go_wp2_with fail
            obtain ⟨S2, hS2, hg2⟩ := reads_second HT6.out HS1.out.1 HS1.out.2.1 HS1.out.2.2
            have HF2 := Aside0.mk hS2
            have HG2' := Aside0.mk hg2
            clear hS2 hg2
            refine (run_read_names g m1 m2 gw gn S1 [] t HT6.out _ HNC.out ⟨HG3.out.1, HG3.out.2.1⟩ HE.out HWO.out).mono ?_
            rw [HF2.out]
            rintro e w6 ⟨rfl, he6, _, hc6⟩
            have HE6 := Aside0.mk he6
            have HB6 := Aside0.mk (below_chg HBW.out hc6 (fun k hk => by rcases hk with hk | hk <;> rw [hk]; exact HG3.out.2.2.1; exact HG3.out.2.2.2))
            have HDX6 := Aside0.mk (hc6.blk HDX.out (fun e => by
              rcases e with e | e
              · exact map_notRow HE.out.vars _ _ (by rw [← e]; exact HDX.out)
              · exact wor_notRow HWO.out (e := 35) (by decide) _ (by rw [← e]; exact HDX.out)))
            clear he6 hc6
            rw [show doneOf (1, ⟨#[]⟩, 0, 0, 0) = .agg #[.int .i64 1, .string ⟨#[]⟩, .int .i64 0, .int .i64 0, .int .i64 0] from rfl]
            have hbx : Below w6.heap.size w6 (w6.alloc (.cells #[.int .i64 1, .string ⟨#[]⟩, .int .i64 0, .int .i64 0, .int .i64 0] 35)) := (Below.refl _ _).alloc (Nat.le_refl _) _
            have HE7 := Aside0.mk (HE6.out.below hbx)
            have HB7 := Aside0.mk (HB6.out.trans (hbx.mono HB6.out.size))
            have HD7 := Aside0.mk (heap_alloc_new w6 (.cells #[.int .i64 1, .string ⟨#[]⟩, .int .i64 0, .int .i64 0, .int .i64 0] 35))
            have HDX7 := Aside0.mk ((Chg.of_below hbx none_).blk HDX6.out (fun h => h))
            clear hbx
            go_wp2_with fail
            generalize w6.alloc (.cells #[.int .i64 1, .string ⟨#[]⟩, .int .i64 0, .int .i64 0, .int .i64 0] 35) = w7 at HE7 HB7 HD7 HDX7 ⊢
            generalize w6.heap.size = bf at HD7 ⊢
            refine (env_Get g m1 m2 S2 ⟨#[97]⟩ ⟨#[]⟩ true _ (by decide) HE7.out HG2'.out).mono ?_
            rintro e w8 ⟨rfl, hd⟩
            have HB8 := Aside0.mk (HB7.out.trans (hd.below.mono HB7.out.size))
            have HD8 := Aside0.mk ((Chg.of_drawn hd none_).blk HD7.out (fun h => h))
            have HDX8 := Aside0.mk ((Chg.of_drawn hd none_).blk HDX7.out (fun h => h))
            obtain ⟨⟨q0, q1, q2, q3, q4⟩, qf⟩ := box5 HD8.out
            obtain ⟨⟨p0, p1, p2, p3, p4⟩, pf⟩ := box5 HDX8.out
            clear hd
            go_wp2_with fail
            refine (awake16 _).mono ?_
            rintro e w9 ⟨rfl, hb⟩
            have HB9 := Aside0.mk (HB8.out.trans (hb.mono HB8.out.size))
            clear hb
            go_wp2_with fail
            go_ret
            exact ⟨rfl, HB9.out⟩
end Go.Proofs.Ytfdjbjinomfgiaa
