/- slices.DeleteFunc at rows of strings of the caller's own. -/
import Derived.Test.YtfdjbjinomfgiaaFun
namespace Go.Proofs.Ytfdjbjinomfgiaa
open Go.RowKit Go.Proofs.YtfdjbjinomfgiaaW.PrintWords Go.Proofs.YtfdjbjinomfgiaaW.PrintLast Go.Proofs.YtfdjbjinomfgiaaW.PrintMore

theorem own_beyond {W : World} {base g m cap : Nat} {e : TypeId} {xs : List Value} (h : W.ownsRow base e 1 (.slice (some ⟨g, 0, none⟩) m cap) m xs) {j : Nat} (hj : m ≤ j) (u : Value) :
    (W.setCell ⟨g, j, none⟩ u).ownsRow base e 1 (.slice (some ⟨g, 0, none⟩) m cap) m xs := by
  obtain ⟨h1, h2⟩ := h
  refine ⟨h1, ?_⟩
  rcases h2 with ⟨h2, _⟩ | ⟨g', cap', cur, he, hb, hh, hn, hm, hs, ht⟩
  · cases h2
  · injection he with he _ hc
    injection he with he
    injection he with he
    subst he hc
    refine .inr ⟨g, cap, cur.setIfInBounds j u, rfl, hb, ?_, hn, hm, by simpa using hs, ?_⟩
    · simp [World.setCell, Array.getElem?_modify, hh]
    · rw [← ht]
      simp only [Array.toList_setIfInBounds, Nat.mul_one]
      rw [List.take_set_of_le (by omega)]
theorem own_beyonds {base g m cap : Nat} {e : TypeId} {xs : List Value} : ∀ (vs : List Value) (j : Nat) (W : World), W.ownsRow base e 1 (.slice (some ⟨g, 0, none⟩) m cap) m xs → m ≤ j →
    (W.setCells g j vs).ownsRow base e 1 (.slice (some ⟨g, 0, none⟩) m cap) m xs
  | [], _, _, h, _ => h
  | u :: r, j, _, h, hj => own_beyonds r (j + 1) _ (own_beyond h hj u) (by omega)
theorem Chg.setCells {S : Nat → Prop} {w : World} {b : Nat} (hb : S b ∨ w.heap.size ≤ b) : ∀ (vs : List Value) (j : Nat) (W : World), Chg S w W → Chg S w (W.setCells b j vs)
  | [], _, _, h => h
  | u :: r, j, _, h => Chg.setCells hb r (j + 1) _ (h.setCell (p := ⟨b, j, none⟩) hb u)

/-- The row while it is gone through: i are kept of the first j. -/
structure Kept1 (del : ByteArray → Bool) (xs ys : List ByteArray) (i j : Nat) : Prop where
  len : ys.length = xs.length
  lt : i < j
  le : j ≤ xs.length
  low : ys.take i = (xs.take j).filter fun s => !del s
  high : ys.drop j = xs.drop j
theorem Kept1.at_ {del : ByteArray → Bool} {xs ys : List ByteArray} {i j : Nat} (h : Kept1 del xs ys i j) : ys.getD j ByteArray.empty = xs.getD j ByteArray.empty := by
  have h1 : (ys.drop j)[0]? = (xs.drop j)[0]? := by rw [h.high]
  rw [List.getElem?_drop, List.getElem?_drop, Nat.add_zero] at h1
  simp [List.getD_eq_getElem?_getD, h1]
theorem Kept1.skip {del : ByteArray → Bool} {xs ys : List ByteArray} {i j : Nat} (h : Kept1 del xs ys i j) (hj : j < xs.length) (hd : del (xs.getD j ByteArray.empty) = true) : Kept1 del xs ys i (j + 1) := by
  refine ⟨h.len, by have := h.lt; omega, hj, ?_, ?_⟩
  · rw [take_snoc' hj ByteArray.empty, List.filter_append, h.low]
    have hd' : del (xs[j]?.getD ByteArray.empty) = true := by simpa [List.getD_eq_getElem?_getD] using hd
    simp [hd']
  · rw [← List.drop_drop, h.high, List.drop_drop]
theorem Kept1.keep {del : ByteArray → Bool} {xs ys : List ByteArray} {i j : Nat} (h : Kept1 del xs ys i j) (hj : j < xs.length) (hd : del (xs.getD j ByteArray.empty) = false) : Kept1 del xs (ys.set i (xs.getD j ByteArray.empty)) (i + 1) (j + 1) := by
  have hij := h.lt
  have hl := h.len
  refine ⟨by simpa using h.len, by omega, hj, ?_, ?_⟩
  · rw [take_snoc' hj ByteArray.empty, List.filter_append, ← h.low, List.take_succ_eq_append_getElem (by simp; omega), List.take_set_of_le (Nat.le_refl _)]
    have hd' : del (xs[j]?.getD ByteArray.empty) = false := by simpa [List.getD_eq_getElem?_getD] using hd
    simp [hd']
  · rw [List.drop_set_of_lt (by omega), ← List.drop_drop, h.high, List.drop_drop]
theorem filter_none {del : ByteArray → Bool} {xs : List ByteArray} (h : ∀ s ∈ xs, del s = false) : xs.filter (fun s => !del s) = xs := List.filter_eq_self.2 fun s hs => by rw [h s hs]; rfl
theorem Kept1.start {del : ByteArray → Bool} {xs : List ByteArray} {k : Nat} (hk : k < xs.length) (hd : del (xs.getD k ByteArray.empty) = true) (ha : ∀ s ∈ xs.take k, del s = false) : Kept1 del xs xs k (k + 1) := by
  refine ⟨rfl, by omega, hk, ?_, rfl⟩
  rw [take_snoc' hk ByteArray.empty, List.filter_append, filter_none ha]
  have hd' : del (xs[k]?.getD ByteArray.empty) = true := by simpa [List.getD_eq_getElem?_getD] using hd
  simp [hd']

theorem Tells.mono {g : Nat} {lb : Array Value} {p : ByteArray → Bool} {xs : List ByteArray} {S S' : Nat → Prop} {w : World} (h : Tells g lb p xs S w) (hs : ∀ k, S' k → S k) : Tells g lb p xs S' w :=
  fun W hW => h W (hW.mono hs)
theorem own_of_R' {e : TypeId} {w : World} {base g n c : Nat} {ys : List ByteArray} (h : Kd.R Kd.string e w base (fun _ => True) (.slice (some ⟨g, 0, none⟩) n c) ys) (hl : ys.length = n) : w.ownsRow base e 1 (.slice (some ⟨g, 0, none⟩) n c) n (encs Value.string ys) := by
  have := Kd.own_of_R h
  rwa [hl] at this
theorem zero_string (w : World) : (zeroValue 9).run Try.prog w = .ok (.string ByteArray.empty) w := by kernel_rfl

set_option maxHeartbeats 1000000 in
set_option maxRecDepth 100000 in
theorem delete_func (g : Nat) (lb : Array Value) (del : ByteArray → Bool) (v : Value) (xs : List ByteArray) (base : Nat) (w : World) (hg : CallsFn g)
    (HO : Kd.R Kd.string 9 w base (fun _ => True) v xs) (hp : Tells g lb del xs (fun k => v.ownBlock = some k) w) :
    Calls Try.prog 87 #[v, .func (.func g) #[] lb] w fun e w' => ∃ v', e = .returned v' ∧ Kd.R Kd.string 9 w' base (fun _ => True) v' (xs.filter fun s => !del s) ∧ Chg (fun k => v.ownBlock = some k) w w' := by
  obtain ⟨A, c, rfl, hlc, hC⟩ := Kd.R_reads HO
  have hC' : ∀ W, Chg none_ w W → Kd.C Kd.string W A xs.length xs := fun W hW => Kd.C_below hC hW.toBelow
  have hIF := index_func g lb del A c xs none_ w hg hC' (hp.mono (fun _ h => h.elim))
  have HIF := Aside0.mk hIF
  have HP := Aside0.mk hp
  have HO1 := Aside0.mk HO
  have hmax : (xs.length : Int) ≤ 9223372036854775807 := by have := hC.2.1; omega
  have eg := hg
  unfold CallsFn at eg
  by_cases hany : ∀ s ∈ xs, del s = false
  · have HA := Aside0.mk hany
    clear hIF hp HO hC hC' hg hany
    go_enter Try.func87, Try.ntmps87
    go_wp2_with fail
    refine HIF.out.mono ?_
    rintro e w1 ⟨r, rfl, hr, hb⟩
    have hr1 : r = -1 := by
      rcases hr with ⟨hr, _⟩ | ⟨k, hk, _, hd, _⟩
      · exact hr
      · rw [HA.out _ (getD_mem' hk _)] at hd; cases hd
    subst hr1
    clear hr
    go_wp2
    go_ret
    refine ⟨_, rfl, ?_, Chg.of_below hb _⟩
    rw [filter_none HA.out]
    exact Kd.R_below HO1.out hb
  · have hpos : 0 < xs.length := by
      rcases xs with _ | ⟨x, r⟩
      · exact absurd (by simp) hany
      · simp
    obtain ⟨inner, hown⟩ := Kd.R_own HO
    obtain ⟨gb, cap, he, hgb, _⟩ := hown.form hpos
    injection he with he _ hce
    subst he hce
    have HA := Aside0.mk hany
    clear hIF hp HO hC hC' hg hany hown
    go_enter Try.func87, Try.ntmps87
    go_wp2_with fail
    refine HIF.out.mono ?_
    rintro e w1 ⟨r, rfl, hr, hb⟩
    have hr1 : ∃ k : Nat, r = k ∧ Kept1 del xs xs k (k + 1) := by
      rcases hr with ⟨_, hr⟩ | ⟨k, hk, hr, hd, ha⟩
      · exact absurd hr HA.out
      · exact ⟨k, hr, Kept1.start hk hd ha⟩
    obtain ⟨k0, rfl, hk0⟩ := hr1
    have HK0 := Aside0.mk hk0
    have HB := Aside0.mk hb
    have hk1 := hk0.le
    have hne1 : ((k0 : Int) == -1) = false := beq_eq_false_iff_ne.2 (by omega)
    clear hr hk0 hb
    go_wp2
    have hSg : (Value.slice (some ⟨gb, 0, none⟩) xs.length c).ownBlock = some gb := rfl
    have HSG := Aside0.mk hSg
    clear hSg
    go_loopw [5, 6] (fun i j wr => ∃ (a b : Nat) (ys : List ByteArray), i = .int .i64 a ∧ j = .int .i64 b ∧ b ≤ xs.length ∧ Aside0 (Kept1 del xs ys a b) ∧ Aside0 (Kd.R Kd.string 9 wr base (fun _ => True) (.slice (some ⟨gb, 0, none⟩) xs.length c) ys) ∧ Aside0 (Chg (fun k => (Value.slice (some ⟨gb, 0, none⟩) xs.length c).ownBlock = some k) w wr)) (fun _ j _ => xs.length - (intOf j).toNat)
    case atStart => exact ⟨k0, k0 + 1, xs, rfl, by go_num, hk1, HK0, ⟨Kd.R_below HO1.out HB.out⟩, ⟨Chg.of_below HB.out _⟩⟩
    case round =>
      obtain ⟨a, b, ys, rfl, rfl, hble, HI, HR, HC⟩ := hrel
      have hlen := HI.out.len
      have hab := HI.out.lt
      have HL := Aside0.mk hlen
      have hR := HR.out
      rw [← hlen] at hR
      by_cases hlt : b < xs.length
      · have hcj := (Kd.R_cell ByteArray.empty hR (b : Int) (by omega) (by omega)).1
        obtain ⟨hci, hfi⟩ := Kd.R_cell ByteArray.empty hR (a : Int) (by omega) (by omega)
        have hput := Kd.R_put hR (a : Int) (xs.getD b ByteArray.empty)
        rw [Int.toNat_natCast] at hcj hci hfi hput
        have e1 : rdOf ByteArray.empty ys (b : Int) = xs.getD b ByteArray.empty := by rw [← HI.out.at_]; simp [rdOf]
        rw [e1] at hcj
        generalize rdOf ByteArray.empty ys (a : Int) = old at hci
        have hlt' : (b : Int) < (xs.length : Int) := by omega
        have ha' : (a : Int) < (xs.length : Int) := by omega
        have hmem := getD_mem' hlt ByteArray.empty
        obtain ⟨s, hs⟩ : ∃ s, xs.getD b ByteArray.empty = s := ⟨_, rfl⟩
        rw [hs] at hcj hput hmem
        have HS := Aside0.mk hs
        have HM := Aside0.mk hmem
        have HPUT := Aside0.mk hput
        have HLT := Aside0.mk hlt
        have hcall := HP.out wr HC.out s HM.out
        clear hs hmem hput hlt hlen hR e1
        obtain ⟨d, hd⟩ : ∃ d, del s = d := ⟨_, rfl⟩
        rw [hd] at hcall
        have HD := Aside0.mk hd
        have HCALL := Aside0.mk hcall
        clear hd hcall
        cases d with
        | true =>
          go_wp2_with (go_at_fn g; refine (HCALL.out).mono ?_; rintro e w2 ⟨rfl, hb⟩; have HB1 := Aside0.mk hb; clear hb)
          go_roundw
          case rel =>
            exact ⟨a, b + 1, ys, rfl, by go_num, HLT.out, ⟨HI.out.skip HLT.out (by rw [HS.out]; exact HD.out)⟩, ⟨Kd.R_below HR.out HB1.out⟩, ⟨HC.out.below HB1.out⟩⟩
          case measure => have := HLT.out; simp [intOf]; omega
        | false =>
          go_wp2_with (go_at_fn g; refine (HCALL.out).mono ?_; rintro e w2 ⟨rfl, hb⟩; have HB1 := Aside0.mk hb; clear hb; have hfi2 := (HB1.out.frozen (World.block_lt_of_cell? wr _ hci)).trans hfi; replace hcj := pw_cell_below HB1.out hcj; replace hci := pw_cell_below HB1.out hci; clear hfi)
          go_roundw
          case rel =>
            refine ⟨a + 1, b + 1, ys.set a s, by go_num, by go_num, HLT.out, ⟨?_⟩, ⟨?_⟩, ⟨?_⟩⟩
            · have := HI.out.keep HLT.out (by rw [HS.out]; exact HD.out)
              rw [HS.out] at this
              exact this
            · have hR2 := Kd.R_below HR.out HB1.out
              rw [← HL.out] at hR2
              have := (Kd.R_put hR2 (a : Int) s).1
              rw [Int.toNat_natCast, HL.out] at this
              exact this
            · exact (HC.out.below HB1.out).setCell (p := ⟨gb, a, none⟩) (.inl HSG.out) _
          case measure => have := HLT.out; simp [intOf]; omega
      · obtain rfl : b = xs.length := by omega
        have hcl : ∀ ty, (Builtin.clear_ #[22] ty #[.slice (some ⟨gb, a, none⟩) (xs.length - a) (c - a)]).run Try.prog wr = .ok (.tuple #[]) (wr.setCells gb a (List.replicate (xs.length - a) (.string ByteArray.empty))) :=
          fun ty => Lib.run_clear_slice wr _ _ ty _ Try.underlying22 zero_string rfl rfl gb a _ _ (by omega)
            (fun t ht => by
              have h := (Kd.R_cell ByteArray.empty hR ((a + t : Nat) : Int) (by omega) (by omega)).1
              rw [Int.toNat_natCast] at h
              rw [h]; rfl)
            (fun t ht => by
              have h := (Kd.R_cell ByteArray.empty hR ((a + t : Nat) : Int) (by omega) (by omega)).2
              rw [Int.toNat_natCast] at h
              exact h)
        have ha' : (a : Int) ≤ (xs.length : Int) := by omega
        have HLC := Aside0.mk hlc
        have hac : (a : Int) ≤ (c : Int) := by omega
        have HAB := Aside0.mk hab
        clear hR hlen hlt
        go_wp2
        go_ret
        have hlow := HI.out.low
        rw [List.take_length] at hlow
        refine ⟨.slice (some ⟨gb, 0, none⟩) a c, rfl, ?_, Chg.setCells (.inl HSG.out) _ _ _ HC.out⟩
        have ho := own_take (own_of_R' HR.out HL.out) (m := a) (by have := HAB.out; have := HL.out; omega)
        have ho2 := own_beyonds (List.replicate (xs.length - a) (.string ByteArray.empty)) a wr ho (Nat.le_refl _)
        refine Kd.R_of_own ?_ (fun _ _ => trivial)
        rw [← hlow]
        have hl2 : (ys.take a).length = a := by rw [List.length_take]; have := HAB.out; have := HL.out; omega
        rw [hl2]
        have : (encs Value.string ys).take (a * 1) = encs Value.string (ys.take a) := by rw [Nat.mul_one]; simp [encs, List.map_take]
        rw [← this]
        exact ho2
end Go.Proofs.Ytfdjbjinomfgiaa
