/- What a shell does itself: read. -/
import Derived.Test.YtfdjbjinomfgiaaRdL
import Derived.Test.YtfdjbjinomfgiaaRdD
import Derived.Test.YtfdjbjinomfgiaaFun
namespace Go.Proofs.Ytfdjbjinomfgiaa
open Go.RowKit Go.Maps Go.Proofs.YtfdjbjinomfgiaaW.PrintWords Go.Proofs.YtfdjbjinomfgiaaW.PrintLast Go.Proofs.YtfdjbjinomfgiaaW.PrintMore
set_option linter.unusedSimpArgs false
set_option linter.unusedVariables false

set_option maxHeartbeats 1000000 in
set_option maxRecDepth 100000 in
theorem contains_func (g : Nat) (lb : Array Value) (p : ByteArray → Bool) (A : Option Addr) (c : Nat) (xs : List ByteArray) (w : World) (b : Bool) (hb : xs.any p = b) (hg : CallsFn g)
    (hC : Kd.C Kd.string w A xs.length xs) (hp : Tells g lb p xs none_ w) :
    Calls Try.prog 112 #[.slice A xs.length c, .func (.func g) #[] lb] w fun e w' => e = .returned (.bool b) ∧ Below w.heap.size w w' := by
  have HP := Aside0.mk hp
  have HC := Aside0.mk hC
  have HB := Aside0.mk hb
  have HG := Aside0.mk hg
  clear hp hC hb hg
  go_enter Try.func112, Try.ntmps112
  go_wp2_with fail
  refine (index_func g lb p A c xs none_ w HG.out (fun W hW => Kd.C_below HC.out hW.toBelow) HP.out).mono ?_
  rintro e w1 ⟨r, rfl, hi, hb1⟩
  have HB1 := Aside0.mk hb1
  rcases hi with ⟨h1, h2⟩ | ⟨k, h1, h2, h3, _⟩
  · subst h1
    have HX := Aside0.mk (show false = b from by
      rw [← HB.out]
      symm
      rw [List.any_eq_false]
      intro s hs
      simp [h2 s hs])
    clear h2 hb1
    go_wp2_with fail
    go_ret
    exact ⟨e_ret_bool HX.out, HB1.out⟩
  · have hk0 : (0 : Int) ≤ r := by omega
    have HX := Aside0.mk (show true = b from by
      rw [← HB.out]
      symm
      rw [List.any_eq_true]
      exact ⟨_, getD_mem' h1 ByteArray.empty, h3⟩)
    clear h1 h2 h3 hb1
    go_wp2_with fail
    go_ret
    exact ⟨e_ret_bool HX.out, HB1.out⟩
theorem read_fn : CallsFn 127 := enters_of Try.func127 (by kernel_rfl) rfl
set_option maxHeartbeats 1000000 in
theorem read_test (xs : List ByteArray) (w : World) (hs : ∀ s ∈ xs, s.size ≤ 1000000) : Tells 127 #[] (fun s => !nameB s) xs none_ w := by
  intro W _ s hm
  obtain ⟨b, hb⟩ : ∃ b, nameB s = b := ⟨_, rfl⟩
  have HB := Aside0.mk hb
  have HS := Aside0.mk (hs s hm)
  clear hb hs hm
  go_enter Try.func127, Try.ntmps127
  go_wp2_with fail
  refine (text_Name_calls s HS.out b HB.out _).mono ?_
  rintro e w1 ⟨rfl, hd⟩
  have HD := Aside0.mk hd
  clear hd
  go_wp2_with fail
  go_ret
  refine ⟨e_ret_bool ?_, HD.out.below⟩
  rw [HB.out]
def rdF : List ByteArray → ByteArray × Bool
  | [] => (⟨#[]⟩, false)
  | x :: _ => (readB x, true)
theorem world_Read (gw : Nat) (rs : List ByteArray) (s0 : ByteArray) (ok : Bool) (w : World) (hw : WorIs w gw rs) (h : rdF rs = (s0, ok)) :
    Calls Try.prog 128 #[.pointer (some ⟨gw, 0, none⟩)] w fun e w' => e = .returned (.tuple #[.string s0, .bool ok]) ∧ WorIs w' gw rs.tail ∧ Chg (fun k => k = gw) w w' := by
  cases rs with
  | nil =>
    obtain ⟨rfl, rfl⟩ := Prod.mk.inj h
    refine (world_Read_nil gw w hw).mono ?_
    rintro e w' ⟨rfl, rfl⟩
    exact ⟨rfl, hw, Chg.refl _ _⟩
  | cons x r =>
    obtain ⟨rfl, rfl⟩ := Prod.mk.inj h
    exact world_Read_cons gw x r w hw

def setsF (S : EnvS) : List ByteArray → List ByteArray → Int × EnvS
  | [], _ => (0, S)
  | n :: ns, ws => if (setF S n (ws.headD ⟨#[]⟩)).1 = 0 then setsF (setF S n (ws.headD ⟨#[]⟩)).2 ns ws.tail else ((setF S n (ws.headD ⟨#[]⟩)).1, S)
theorem setsF_step {S : EnvS} {l ws : List ByteArray} {k : Nat} (h : k < l.length) {nm v : ByteArray} (hn : l.getD k ByteArray.empty = nm) (hv : ws.getD k ⟨#[]⟩ = v) :
    setsF S (l.drop k) (ws.drop k) = if (setF S nm v).1 = 0 then setsF (setF S nm v).2 (l.drop (k + 1)) (ws.drop (k + 1)) else ((setF S nm v).1, S) := by
  have hdr : l.drop k = l.getD k ByteArray.empty :: l.drop (k + 1) := by rw [List.drop_eq_getElem_cons h]; simp [List.getD_eq_getElem?_getD, List.getElem?_eq_getElem h]
  have hh : (ws.drop k).headD ⟨#[]⟩ = v := by
    rw [← hv, List.headD_eq_head?_getD, List.head?_drop, List.getD_eq_getElem?_getD]
  have ht : (ws.drop k).tail = ws.drop (k + 1) := by rw [List.tail_drop]
  rw [hdr, hn]
  show (if (setF S nm ((ws.drop k).headD ⟨#[]⟩)).1 = 0 then setsF (setF S nm ((ws.drop k).headD ⟨#[]⟩)).2 (l.drop (k + 1)) (ws.drop k).tail else _) = _
  rw [hh, ht]
abbrev cbox (c : Int) : Obj := .cells #[.int .i64 c, .string ⟨#[]⟩, .int .i64 0, .int .i64 0, .int .i64 0] 35
theorem wor_notRow {w : World} {gw : Nat} {rs : List ByteArray} (h : WorIs w gw rs) {e : Nat} (he : 114 ≠ e) : NotRow w e gw := by
  obtain ⟨⟨v0, v1, A, c, v3, hb, _, _⟩, _⟩ := h
  exact cells_notRow hb he
theorem wor_ne {w : World} {g m1 m2 gw : Nat} {S : EnvS} {rs : List ByteArray} (h : EnvIs w g m1 m2 S) (hw : WorIs w gw rs) : gw ≠ g ∧ gw ≠ m1 ∧ gw ≠ m2 := by
  obtain ⟨⟨v0, v1, A, c, v3, hb, _, _⟩, _⟩ := hw
  refine ⟨fun e => ?_, fun e => ?_, fun e => ?_⟩
  · subst e; exact h.notG (by decide) _ hb
  · subst e; exact map_notRow h.vars _ _ hb
  · subst e; exact map_notRow h.flags _ _ hb
theorem EnvIs.wor {w W : World} {g m1 m2 gw : Nat} {S : EnvS} {rs : List ByteArray} (h : EnvIs w g m1 m2 S) (hw : WorIs w gw rs) (hc : Chg (fun k => k = gw) w W) : EnvIs W g m1 m2 S :=
  h.chg hc (fun e => (wor_ne h hw).1 e.symm) (fun e => (wor_ne h hw).2.1 e.symm) (fun e => (wor_ne h hw).2.2 e.symm) (fun k hk => by rw [hk]; exact wor_notRow hw (by decide))
theorem WorIs.env {w W : World} {g m1 m2 gw : Nat} {S : EnvS} {rs : List ByteArray} (hw : WorIs w gw rs) (h : EnvIs w g m1 m2 S) (hc : Chg (fun k => k = m1) w W) : WorIs W gw rs :=
  hw.chg hc (wor_ne h hw).2.1 (fun k hk => by rw [hk]; exact map_notRow h.vars _)
/-- What read does at names. -/
def readF (S : EnvS) (rs : List ByteArray) (l : List ByteArray) : DoneT × EnvS :=
  let r := setsF S l (wordsF (ifsF S) (rdF rs).1 (min l.length 100 - 1) 0)
  (if r.1 = 0 then (if (rdF rs).2 then 0 else 1, ⟨#[]⟩, 0, 0, 0) else (0, ⟨#[]⟩, 0, 0, r.1), r.2)
theorem C_chgT {T : Nat → Prop} {w W : World} {A : Option Addr} {n : Nat} {xs : List ByteArray} (h : Kd.C Kd.string w A n xs) (hch : Chg T w W) (hA : ∀ ad, A = some ad → 0 < n → ¬ T ad.block) : Kd.C Kd.string W A n xs := by
  have hr := Kd.reads_of_C (d := ByteArray.empty) h
  refine Kd.C_of_reads (d := ByteArray.empty) ⟨hr.1, hr.2.1, fun h0 => ?_⟩
  obtain ⟨ad, e, hc⟩ := hr.2.2 h0
  refine ⟨ad, e, fun j hj => ?_⟩
  exact hch.cell (hc j hj) (fun hk => hA ad e h0 (by rw [add_block] at hk; exact hk))
theorem trimL_len (p : UInt8 → Bool) (l : List UInt8) : (trimL p l).length ≤ l.length := by
  unfold trimL
  rw [List.length_reverse]
  have h1 := (List.dropWhile_sublist p (l := (l.dropWhile p).reverse)).length_le
  have h2 := (List.dropWhile_sublist p (l := l)).length_le
  rw [List.length_reverse] at h1
  omega
theorem wordsF_size (ifs s : ByteArray) : ∀ (r k : Nat), ∀ x ∈ wordsF ifs s r k, x.size ≤ s.size
  | 0, k, x, hx => by
    rw [show x = trimB ifs (s.extract k s.size) from by simpa [wordsF] using hx]
    have h1 : (trimB ifs (s.extract k s.size)).size ≤ (s.extract k s.size).size := trimL_len _ _
    have := ext_size s k s.size
    omega
  | r + 1, k, x, hx => by
    unfold wordsF at hx
    split at hx
    · rcases List.mem_cons.1 hx with rfl | hx
      · have := ext_size s (nextF ifs s k).1 (nextF ifs s k).2
        omega
      · exact wordsF_size ifs s r _ x hx
    · rw [(List.mem_replicate.1 hx).2]
      exact Nat.zero_le _
set_option maxHeartbeats 4000000 in
set_option maxRecDepth 100000 in
theorem built_read (g m1 m2 gw : Nat) (S : EnvS) (rs : List ByteArray) (A : Option Addr) (c : Nat) (l : List ByteArray) (w : World) (hC : Kd.C Kd.string w A l.length l) (hlc : l.length ≤ c) (h0 : 0 < l.length) (hln : l.length ≤ 1000000) (hsz : ∀ s ∈ l, s.size ≤ 1000000) (hnm : ∀ s ∈ l, nameB s = true) (hA : ∀ ad, A = some ad → 0 < l.length → ad.block ≠ m1 ∧ ad.block ≠ gw) (he : EnvIs w g m1 m2 S) (hw : WorIs w gw rs) :
    Calls Try.prog 70 #[.pointer (some ⟨g, 0, none⟩), .pointer (some ⟨gw, 0, none⟩), .slice A l.length c] w fun e w' => e = .returned (doneOf (readF S rs l).1) ∧ EnvIs w' g m1 m2 (readF S rs l).2 ∧ WorIs w' gw rs.tail ∧ Chg (fun k => k = m1 ∨ k = gw) w w' := by
  have HC := Aside0.mk hC
  have HS := Aside0.mk hsz
  have HNM := Aside0.mk (show (l.any fun s => !nameB s) = false from by rw [List.any_eq_false]; intro s hs; simp [hnm s hs])
  have HA := Aside0.mk hA
  have hmx : (l.length : Int) ≤ 1000000 := by omega
  have hl0 : ((l.length : Int) == 0) = false := beq_eq_false_iff_ne.2 (by omega)
  have HL := Aside0.mk (And.intro h0 hln)
  have hbl : Below w.heap.size w (w.alloc (cbox 0)) := (Below.refl _ _).alloc (Nat.le_refl _) _
  have HB0 := Aside0.mk (heap_alloc_new w (cbox 0))
  have HE0 := Aside0.mk (he.below hbl)
  have HWO0 := Aside0.mk (hw.below hbl)
  have HBL := Aside0.mk hbl
  have HW0 := Aside0.mk ((Chg.refl (fun k => k = m1 ∨ k = gw) w).alloc (cbox 0))
  obtain ⟨s0, ok, hrd⟩ : ∃ s0 ok, rdF rs = (s0, ok) := ⟨_, _, rfl⟩
  have HRD := Aside0.mk hrd
  have HS0 := Aside0.mk (show s0.size ≤ 1000000 from by
    cases rs with
    | nil => obtain ⟨rfl, _⟩ := Prod.mk.inj hrd; decide
    | cons x r => obtain ⟨rfl, _⟩ := Prod.mk.inj hrd; have := readB_size x; omega)
  clear hC hsz hnm hA he hw hbl h0 hln hrd
  go_enter Try.func70, Try.ntmps70
  go_wp2_with fail
  refine (contains_func 127 #[] (fun s => !nameB s) A c l _ false HNM.out read_fn (Kd.C_below HC.out HBL.out) (read_test l _ HS.out)).mono ?_
  rintro e w2 ⟨rfl, hb⟩
  have HE2 := Aside0.mk (HE0.out.below hb)
  have HWO2 := Aside0.mk (HWO0.out.below hb)
  have HW2 := Aside0.mk (HW0.out.below hb)
  have HB2 := Aside0.mk ((Chg.of_below hb none_).blk HB0.out (fun h => h))
  clear hb
  generalize hbk : w.heap.size = b at HB2 ⊢
  have HBK := Aside0.mk hbk
  clear hbk
  go_wp2_with fail
  refine (world_Read gw rs s0 ok _ HWO2.out HRD.out).mono ?_
  rintro e w3 ⟨rfl, hwo, hc⟩
  have HE3 := Aside0.mk (HE2.out.wor HWO2.out hc)
  have HWO3 := Aside0.mk hwo
  have HW3 := Aside0.mk (HW2.out.then_ hc (fun k h => .inl (.inr h)))
  have HB3 := Aside0.mk (hc.blk HB2.out (fun e => wor_notRow HWO2.out (e := 35) (by decide) _ (by rw [← e]; exact HB2.out)))
  clear hc hwo
  cases ok with
  | true =>
    go_wp2_with fail
    have hbl2 : Below w3.heap.size w3 (w3.alloc (cbox 0)) := (Below.refl _ _).alloc (Nat.le_refl _) _
    have HE4 := Aside0.mk (HE3.out.below hbl2)
    have HWO4 := Aside0.mk (HWO3.out.below hbl2)
    have HW4 := Aside0.mk (HW3.out.below hbl2)
    have HB4 := Aside0.mk ((Chg.of_below hbl2 none_).blk HB3.out (fun h => h))
    have HD4 := Aside0.mk (heap_alloc_new w3 (cbox 0))
    have HNE := Aside0.mk (show b < w3.heap.size from blk_lt' HB3.out)
    have HDG := Aside0.mk (show w.heap.size ≤ w3.heap.size from HW3.out.size)
    clear hbl2
    refine (env_IFS g m1 m2 S (ifsF S) _ HE4.out rfl).mono ?_
    rintro e w4 ⟨rfl, rfl⟩
    generalize w3.alloc (.cells #[.int .i64 0, .string ⟨#[]⟩, .int .i64 0, .int .i64 0, .int .i64 0] 35) = w4 at HE4 HWO4 HW4 HB4 HD4 ⊢
    generalize w3.heap.size = b2 at HD4 HNE HDG ⊢
    go_wp2_with fail
    obtain ⟨r, hr⟩ : ∃ r, min l.length 100 = r + 1 := ⟨min l.length 100 - 1, by have := HL.out.1; omega⟩
    have HRR := Aside0.mk hr
    refine (split_Words s0 (ifsF S) l.length r hr HS0.out HL.out.2 _).mono ?_
    rintro e w5 ⟨v, rfl, hv, hb5⟩
    obtain ⟨A5, c5, he5, _, _⟩ := Kd.R_reads hv
    rw [wordsF_len] at he5
    subst he5
    obtain ⟨ws, hws⟩ : ∃ ws, wordsF (ifsF S) s0 r 0 = ws := ⟨_, rfl⟩
    have HWL := Aside0.mk (show ws.length = r + 1 from by rw [← hws, wordsF_len])
    have HWZ := Aside0.mk (show ∀ x ∈ ws, x.size ≤ 1000000 from fun x hx => by rw [← hws] at hx; have := wordsF_size _ _ _ _ x hx; have := HS0.out; omega)
    rw [hws] at hv
    have HWS := Aside0.mk hws
    have HRW5 := Aside0.mk hv
    have HE5 := Aside0.mk (HE4.out.below hb5)
    have HWO5 := Aside0.mk (HWO4.out.below hb5)
    have HW5 := Aside0.mk (HW4.out.below hb5)
    have HB5 := Aside0.mk ((Chg.of_below hb5 none_).blk HB4.out (fun h => h))
    have HD5 := Aside0.mk ((Chg.of_below hb5 none_).blk HD4.out (fun h => h))
    have hr100 : (r : Int) + 1 ≤ 100 := by omega
    clear hb5 hv hws hr
    generalize w4.heap.size = base5 at HRW5
    go_wp2_with fail
    go_loopw [40] (fun i wr => ∃ (k : Nat) (S1 : EnvS), k ≤ l.length ∧ i = .int .i64 k ∧ Aside0 (setsF S l ws = setsF S1 (l.drop k) (ws.drop k)) ∧ Aside0 (EnvIs wr g m1 m2 S1) ∧ Aside0 (WorIs wr gw rs.tail) ∧ Aside0 (wr.heap[b]? = some (cbox 0)) ∧ Aside0 (wr.heap[b2]? = some (cbox 0)) ∧ Aside0 (Kd.R Kd.string 9 wr base5 (fun _ => True) (.slice A5 (r + 1) c5) ws) ∧ Aside0 (Chg (fun k => k = m1 ∨ k = gw) w wr)) (fun i _ => l.length - (intOf i).toNat)
    case atStart => exact ⟨0, S, Nat.zero_le _, rfl, ⟨rfl⟩, HE5, HWO5, HB5, HD5, HRW5, HW5⟩
    case round =>
      obtain ⟨k, S1, hk, rfl, HR, HE, HWO, HBX, HDX, HRW, HW⟩ := hrel
      by_cases hlt : k < l.length
      · obtain ⟨ad, e, hx⟩ := str_at (C_chgT HC.out HW.out (fun ad h h0 => by have := HA.out ad h h0; intro hh; rcases hh with hh | hh; exact this.1 hh; exact this.2 hh)) hlt
        subst e
        have HSK := Aside0.mk (HS.out _ (getD_mem' hlt ByteArray.empty))
        have hlt' : (k : Int) < (l.length : Int) := by omega
        have HLT := Aside0.mk hlt
        have HST := Aside0.mk (fun (nm v : ByteArray) (h1 : l.getD k ByteArray.empty = nm) (h2 : ws.getD k ⟨#[]⟩ = v) => setsF_step (S := S1) (ws := ws) hlt h1 h2)
        obtain ⟨nm, hnm⟩ : ∃ nm, l.getD k ByteArray.empty = nm := ⟨_, rfl⟩
        rw [hnm] at hx HSK
        have HNQ := Aside0.mk hnm
        clear hnm hlt hk
        by_cases hkr : k < r + 1
        · obtain ⟨_, _, e5, hcap, hC5⟩ := Kd.R_reads HRW.out
          injection e5 with e51 e52 e53
          subst e51 e53
          obtain ⟨ad5, e, hy⟩ := str_at hC5 (k := k) (by rw [HWL.out]; exact hkr)
          subst e
          have HVZ := Aside0.mk (HWZ.out _ (getD_mem' (l := ws) (k := k) (by rw [HWL.out]; exact hkr) ByteArray.empty))
          obtain ⟨v, hv⟩ : ∃ v, ws.getD k ByteArray.empty = v := ⟨_, rfl⟩
          rw [hv] at hy HVZ
          have HVQ := Aside0.mk hv
          have hkr' : (k : Int) < (r : Int) + 1 := by omega
          have hcap' : (r : Int) + 1 ≤ (c5 : Int) := by rw [← e52] at hcap; omega
          clear hC5 hcap hkr hv e52
          obtain ⟨⟨q, S2⟩, hset⟩ : ∃ p, setF S1 nm v = p := ⟨_, rfl⟩
          have HSET := Aside0.mk hset
          have HS2 := Aside0.mk (show q ≠ 0 → S2 = S1 from fun h => by have := setF_bad (S := S1) (s := nm) (v := v); rw [hset] at this; exact this h)
          have HR3 := Aside0.mk (show setsF S l ws = if q = 0 then setsF S2 (l.drop (k + 1)) (ws.drop (k + 1)) else (q, S1) from by rw [HR.out, HST.out nm v HNQ.out HVQ.out, hset])
          clear hset
          go_wp2_with fail
          refine (env_Set g m1 m2 S1 S2 nm v q _ HSK.out HVZ.out HE.out HSET.out).mono ?_
          rintro e w6 ⟨rfl, he6, hc6⟩
          have HE6 := Aside0.mk he6
          have HWO6 := Aside0.mk (HWO.out.env HE.out hc6)
          have HB6 := Aside0.mk (hc6.blk HBX.out (fun e => map_notRow HE.out.vars _ _ (by rw [← e]; exact HBX.out)))
          have HD6 := Aside0.mk (hc6.blk HDX.out (fun e => map_notRow HE.out.vars _ _ (by rw [← e]; exact HDX.out)))
          have HRW6 := Aside0.mk (R_chg HRW.out hc6 (fun k hk q hq => by rw [hk]; exact map_notRow HE.out.vars _))
          have HW6 := Aside0.mk (HW.out.then_ hc6 (fun k h => .inl (.inl h)))
          clear he6 hc6
          by_cases h0 : q = 0
          · subst h0
            have HR4 := Aside0.mk (show setsF S l ws = setsF S2 (l.drop (k + 1)) (ws.drop (k + 1)) from by rw [HR3.out]; rfl)
            go_wp2_with fail
            go_roundw
            case rel => exact ⟨k + 1, S2, HLT.out, by go_num, HR4, HE6, HWO6, HB6, HD6, HRW6, HW6⟩
            case measure => have := HLT.out; simp [intOf]; omega
          · have hr0 : (q == 0) = false := beq_eq_false_iff_ne.2 h0
            have hr1 : (q != 0) = true := by rw [bne, hr0]; rfl
            have H0 := Aside0.mk h0
            obtain ⟨⟨q0, q1, q2, q3, q4⟩, qf⟩ := box5 HB6.out
            clear h0
            go_wp2_with fail
            refine bodyPost_ret (v := doneOf (0, ⟨#[]⟩, 0, 0, q)) (done_ret rfl rfl (set5 HB6.out (.int .i64 0) (.string ⟨#[]⟩) (.int .i64 0) (.int .i64 0) (.int .i64 q))) rfl ?_
            have hrf : readF S rs l = ((0, ⟨#[]⟩, 0, 0, q), S1) := by
              unfold readF
              rw [HRD.out, HRR.out, Nat.add_sub_cancel, HWS.out, HR3.out, if_neg H0.out]
              show ((if q = 0 then _ else _), _) = _
              rw [if_neg H0.out]
            rw [hrf]
            have he := HE6.out.box HB6.out (by decide) (by decide) (set5_chg _ _ [.int .i64 0, .string ⟨#[]⟩, .int .i64 0, .int .i64 0, .int .i64 q])
            rw [HS2.out H0.out] at he
            exact ⟨rfl, he, HWO6.out.chg (set5_chg5 _ _ _ _ _ _ _) (fun e => wor_notRow HWO6.out (e := 35) (by decide) _ (by rw [e]; exact HB6.out)) (fun k hk => by rw [hk]; exact cells_notRow HB6.out (by decide)), HW6.out.then_ (set5_chg5 w6 b _ _ _ _ _) (fun k hk => .inr (by rw [hk, HBK.out]; exact Nat.le_refl _))⟩
        · have hkr' : (r : Int) + 1 ≤ (k : Int) := by omega
          obtain ⟨v, hv⟩ : ∃ v, (⟨#[]⟩ : ByteArray) = v := ⟨_, rfl⟩
          have HVQ := Aside0.mk (show ws.getD k ⟨#[]⟩ = ⟨#[]⟩ from by rw [List.getD_eq_getElem?_getD, List.getElem?_eq_none (by rw [HWL.out]; omega)]; rfl)
          clear hkr hv v
          obtain ⟨⟨q, S2⟩, hset⟩ : ∃ p, setF S1 nm ⟨#[]⟩ = p := ⟨_, rfl⟩
          have HSET := Aside0.mk hset
          have HVZ := Aside0.mk (show (⟨#[]⟩ : ByteArray).size ≤ 1000000 from by decide)
          have HS2 := Aside0.mk (show q ≠ 0 → S2 = S1 from fun h => by have := setF_bad (S := S1) (s := nm) (v := ⟨#[]⟩); rw [hset] at this; exact this h)
          have HR3 := Aside0.mk (show setsF S l ws = if q = 0 then setsF S2 (l.drop (k + 1)) (ws.drop (k + 1)) else (q, S1) from by rw [HR.out, HST.out nm ⟨#[]⟩ HNQ.out HVQ.out, hset])
          clear hset
          go_wp2_with fail
          refine (env_Set g m1 m2 S1 S2 nm ⟨#[]⟩ q _ HSK.out HVZ.out HE.out HSET.out).mono ?_
          rintro e w6 ⟨rfl, he6, hc6⟩
          have HE6 := Aside0.mk he6
          have HWO6 := Aside0.mk (HWO.out.env HE.out hc6)
          have HB6 := Aside0.mk (hc6.blk HBX.out (fun e => map_notRow HE.out.vars _ _ (by rw [← e]; exact HBX.out)))
          have HD6 := Aside0.mk (hc6.blk HDX.out (fun e => map_notRow HE.out.vars _ _ (by rw [← e]; exact HDX.out)))
          have HRW6 := Aside0.mk (R_chg HRW.out hc6 (fun k hk q hq => by rw [hk]; exact map_notRow HE.out.vars _))
          have HW6 := Aside0.mk (HW.out.then_ hc6 (fun k h => .inl (.inl h)))
          clear he6 hc6
          by_cases h0 : q = 0
          · subst h0
            have HR4 := Aside0.mk (show setsF S l ws = setsF S2 (l.drop (k + 1)) (ws.drop (k + 1)) from by rw [HR3.out]; rfl)
            go_wp2_with fail
            go_roundw
            case rel => exact ⟨k + 1, S2, HLT.out, by go_num, HR4, HE6, HWO6, HB6, HD6, HRW6, HW6⟩
            case measure => have := HLT.out; simp [intOf]; omega
          · have hr0 : (q == 0) = false := beq_eq_false_iff_ne.2 h0
            have hr1 : (q != 0) = true := by rw [bne, hr0]; rfl
            have H0 := Aside0.mk h0
            obtain ⟨⟨q0, q1, q2, q3, q4⟩, qf⟩ := box5 HB6.out
            clear h0
            go_wp2_with fail
            refine bodyPost_ret (v := doneOf (0, ⟨#[]⟩, 0, 0, q)) (done_ret rfl rfl (set5 HB6.out (.int .i64 0) (.string ⟨#[]⟩) (.int .i64 0) (.int .i64 0) (.int .i64 q))) rfl ?_
            have hrf : readF S rs l = ((0, ⟨#[]⟩, 0, 0, q), S1) := by
              unfold readF
              rw [HRD.out, HRR.out, Nat.add_sub_cancel, HWS.out, HR3.out, if_neg H0.out]
              show ((if q = 0 then _ else _), _) = _
              rw [if_neg H0.out]
            rw [hrf]
            have he := HE6.out.box HB6.out (by decide) (by decide) (set5_chg _ _ [.int .i64 0, .string ⟨#[]⟩, .int .i64 0, .int .i64 0, .int .i64 q])
            rw [HS2.out H0.out] at he
            exact ⟨rfl, he, HWO6.out.chg (set5_chg5 _ _ _ _ _ _ _) (fun e => wor_notRow HWO6.out (e := 35) (by decide) _ (by rw [e]; exact HB6.out)) (fun k hk => by rw [hk]; exact cells_notRow HB6.out (by decide)), HW6.out.then_ (set5_chg5 w6 b _ _ _ _ _) (fun k hk => .inr (by rw [hk, HBK.out]; exact Nat.le_refl _))⟩
      · obtain rfl : k = l.length := by omega
        rw [List.drop_length] at HR
        obtain ⟨⟨q0, q1, q2, q3, q4⟩, qf⟩ := box5 HBX.out
        obtain ⟨⟨p0, p1, p2, p3, p4⟩, pf⟩ := box5 HDX.out
        clear hlt hk
        go_wp2_with fail
        refine bodyPost_ret (v := doneOf (0, ⟨#[]⟩, 0, 0, 0)) (done_ret rfl rfl (set5 HBX.out (.int .i64 0) (.string ⟨#[]⟩) (.int .i64 0) (.int .i64 0) (.int .i64 0))) rfl ?_
        have hrf : readF S rs l = ((0, ⟨#[]⟩, 0, 0, 0), S1) := by
          unfold readF
          rw [HRD.out, HRR.out, Nat.add_sub_cancel, HWS.out, HR.out]
          rfl
        rw [hrf]
        exact ⟨rfl, HE.out.box HBX.out (by decide) (by decide) (set5_chg5 _ _ _ _ _ _ _), HWO.out.chg (set5_chg5 _ _ _ _ _ _ _) (fun e => wor_notRow HWO.out (e := 35) (by decide) _ (by rw [e]; exact HBX.out)) (fun k hk => by rw [hk]; exact cells_notRow HBX.out (by decide)), HW.out.then_ (set5_chg5 wr b _ _ _ _ _) (fun k hk => .inr (by rw [hk, HBK.out]; exact Nat.le_refl _))⟩
  | false =>
    go_wp2_with fail
    have hbl2 : Below w3.heap.size w3 (w3.alloc (cbox 1)) := (Below.refl _ _).alloc (Nat.le_refl _) _
    have HE4 := Aside0.mk (HE3.out.below hbl2)
    have HWO4 := Aside0.mk (HWO3.out.below hbl2)
    have HW4 := Aside0.mk (HW3.out.below hbl2)
    have HB4 := Aside0.mk ((Chg.of_below hbl2 none_).blk HB3.out (fun h => h))
    have HD4 := Aside0.mk (heap_alloc_new w3 (cbox 1))
    have HNE := Aside0.mk (show b < w3.heap.size from blk_lt' HB3.out)
    have HDG := Aside0.mk (show w.heap.size ≤ w3.heap.size from HW3.out.size)
    clear hbl2
    refine (env_IFS g m1 m2 S (ifsF S) _ HE4.out rfl).mono ?_
    rintro e w4 ⟨rfl, rfl⟩
    generalize w3.alloc (.cells #[.int .i64 1, .string ⟨#[]⟩, .int .i64 0, .int .i64 0, .int .i64 0] 35) = w4 at HE4 HWO4 HW4 HB4 HD4 ⊢
    generalize w3.heap.size = b2 at HD4 HNE HDG ⊢
    go_wp2_with fail
    obtain ⟨r, hr⟩ : ∃ r, min l.length 100 = r + 1 := ⟨min l.length 100 - 1, by have := HL.out.1; omega⟩
    have HRR := Aside0.mk hr
    refine (split_Words s0 (ifsF S) l.length r hr HS0.out HL.out.2 _).mono ?_
    rintro e w5 ⟨v, rfl, hv, hb5⟩
    obtain ⟨A5, c5, he5, _, _⟩ := Kd.R_reads hv
    rw [wordsF_len] at he5
    subst he5
    obtain ⟨ws, hws⟩ : ∃ ws, wordsF (ifsF S) s0 r 0 = ws := ⟨_, rfl⟩
    have HWL := Aside0.mk (show ws.length = r + 1 from by rw [← hws, wordsF_len])
    have HWZ := Aside0.mk (show ∀ x ∈ ws, x.size ≤ 1000000 from fun x hx => by rw [← hws] at hx; have := wordsF_size _ _ _ _ x hx; have := HS0.out; omega)
    rw [hws] at hv
    have HWS := Aside0.mk hws
    have HRW5 := Aside0.mk hv
    have HE5 := Aside0.mk (HE4.out.below hb5)
    have HWO5 := Aside0.mk (HWO4.out.below hb5)
    have HW5 := Aside0.mk (HW4.out.below hb5)
    have HB5 := Aside0.mk ((Chg.of_below hb5 none_).blk HB4.out (fun h => h))
    have HD5 := Aside0.mk ((Chg.of_below hb5 none_).blk HD4.out (fun h => h))
    have hr100 : (r : Int) + 1 ≤ 100 := by omega
    clear hb5 hv hws hr
    generalize w4.heap.size = base5 at HRW5
    go_wp2_with fail
    go_loopw [40] (fun i wr => ∃ (k : Nat) (S1 : EnvS), k ≤ l.length ∧ i = .int .i64 k ∧ Aside0 (setsF S l ws = setsF S1 (l.drop k) (ws.drop k)) ∧ Aside0 (EnvIs wr g m1 m2 S1) ∧ Aside0 (WorIs wr gw rs.tail) ∧ Aside0 (wr.heap[b]? = some (cbox 0)) ∧ Aside0 (wr.heap[b2]? = some (cbox 1)) ∧ Aside0 (Kd.R Kd.string 9 wr base5 (fun _ => True) (.slice A5 (r + 1) c5) ws) ∧ Aside0 (Chg (fun k => k = m1 ∨ k = gw) w wr)) (fun i _ => l.length - (intOf i).toNat)
    case atStart => exact ⟨0, S, Nat.zero_le _, rfl, ⟨rfl⟩, HE5, HWO5, HB5, HD5, HRW5, HW5⟩
    case round =>
      obtain ⟨k, S1, hk, rfl, HR, HE, HWO, HBX, HDX, HRW, HW⟩ := hrel
      by_cases hlt : k < l.length
      · obtain ⟨ad, e, hx⟩ := str_at (C_chgT HC.out HW.out (fun ad h h0 => by have := HA.out ad h h0; intro hh; rcases hh with hh | hh; exact this.1 hh; exact this.2 hh)) hlt
        subst e
        have HSK := Aside0.mk (HS.out _ (getD_mem' hlt ByteArray.empty))
        have hlt' : (k : Int) < (l.length : Int) := by omega
        have HLT := Aside0.mk hlt
        have HST := Aside0.mk (fun (nm v : ByteArray) (h1 : l.getD k ByteArray.empty = nm) (h2 : ws.getD k ⟨#[]⟩ = v) => setsF_step (S := S1) (ws := ws) hlt h1 h2)
        obtain ⟨nm, hnm⟩ : ∃ nm, l.getD k ByteArray.empty = nm := ⟨_, rfl⟩
        rw [hnm] at hx HSK
        have HNQ := Aside0.mk hnm
        clear hnm hlt hk
        by_cases hkr : k < r + 1
        · obtain ⟨_, _, e5, hcap, hC5⟩ := Kd.R_reads HRW.out
          injection e5 with e51 e52 e53
          subst e51 e53
          obtain ⟨ad5, e, hy⟩ := str_at hC5 (k := k) (by rw [HWL.out]; exact hkr)
          subst e
          have HVZ := Aside0.mk (HWZ.out _ (getD_mem' (l := ws) (k := k) (by rw [HWL.out]; exact hkr) ByteArray.empty))
          obtain ⟨v, hv⟩ : ∃ v, ws.getD k ByteArray.empty = v := ⟨_, rfl⟩
          rw [hv] at hy HVZ
          have HVQ := Aside0.mk hv
          have hkr' : (k : Int) < (r : Int) + 1 := by omega
          have hcap' : (r : Int) + 1 ≤ (c5 : Int) := by rw [← e52] at hcap; omega
          clear hC5 hcap hkr hv e52
          obtain ⟨⟨q, S2⟩, hset⟩ : ∃ p, setF S1 nm v = p := ⟨_, rfl⟩
          have HSET := Aside0.mk hset
          have HS2 := Aside0.mk (show q ≠ 0 → S2 = S1 from fun h => by have := setF_bad (S := S1) (s := nm) (v := v); rw [hset] at this; exact this h)
          have HR3 := Aside0.mk (show setsF S l ws = if q = 0 then setsF S2 (l.drop (k + 1)) (ws.drop (k + 1)) else (q, S1) from by rw [HR.out, HST.out nm v HNQ.out HVQ.out, hset])
          clear hset
          go_wp2_with fail
          refine (env_Set g m1 m2 S1 S2 nm v q _ HSK.out HVZ.out HE.out HSET.out).mono ?_
          rintro e w6 ⟨rfl, he6, hc6⟩
          have HE6 := Aside0.mk he6
          have HWO6 := Aside0.mk (HWO.out.env HE.out hc6)
          have HB6 := Aside0.mk (hc6.blk HBX.out (fun e => map_notRow HE.out.vars _ _ (by rw [← e]; exact HBX.out)))
          have HD6 := Aside0.mk (hc6.blk HDX.out (fun e => map_notRow HE.out.vars _ _ (by rw [← e]; exact HDX.out)))
          have HRW6 := Aside0.mk (R_chg HRW.out hc6 (fun k hk q hq => by rw [hk]; exact map_notRow HE.out.vars _))
          have HW6 := Aside0.mk (HW.out.then_ hc6 (fun k h => .inl (.inl h)))
          clear he6 hc6
          by_cases h0 : q = 0
          · subst h0
            have HR4 := Aside0.mk (show setsF S l ws = setsF S2 (l.drop (k + 1)) (ws.drop (k + 1)) from by rw [HR3.out]; rfl)
            go_wp2_with fail
            go_roundw
            case rel => exact ⟨k + 1, S2, HLT.out, by go_num, HR4, HE6, HWO6, HB6, HD6, HRW6, HW6⟩
            case measure => have := HLT.out; simp [intOf]; omega
          · have hr0 : (q == 0) = false := beq_eq_false_iff_ne.2 h0
            have hr1 : (q != 0) = true := by rw [bne, hr0]; rfl
            have H0 := Aside0.mk h0
            obtain ⟨⟨q0, q1, q2, q3, q4⟩, qf⟩ := box5 HB6.out
            clear h0
            go_wp2_with fail
            refine bodyPost_ret (v := doneOf (0, ⟨#[]⟩, 0, 0, q)) (done_ret rfl rfl (set5 HB6.out (.int .i64 0) (.string ⟨#[]⟩) (.int .i64 0) (.int .i64 0) (.int .i64 q))) rfl ?_
            have hrf : readF S rs l = ((0, ⟨#[]⟩, 0, 0, q), S1) := by
              unfold readF
              rw [HRD.out, HRR.out, Nat.add_sub_cancel, HWS.out, HR3.out, if_neg H0.out]
              show ((if q = 0 then _ else _), _) = _
              rw [if_neg H0.out]
            rw [hrf]
            have he := HE6.out.box HB6.out (by decide) (by decide) (set5_chg _ _ [.int .i64 0, .string ⟨#[]⟩, .int .i64 0, .int .i64 0, .int .i64 q])
            rw [HS2.out H0.out] at he
            exact ⟨rfl, he, HWO6.out.chg (set5_chg5 _ _ _ _ _ _ _) (fun e => wor_notRow HWO6.out (e := 35) (by decide) _ (by rw [e]; exact HB6.out)) (fun k hk => by rw [hk]; exact cells_notRow HB6.out (by decide)), HW6.out.then_ (set5_chg5 w6 b _ _ _ _ _) (fun k hk => .inr (by rw [hk, HBK.out]; exact Nat.le_refl _))⟩
        · have hkr' : (r : Int) + 1 ≤ (k : Int) := by omega
          obtain ⟨v, hv⟩ : ∃ v, (⟨#[]⟩ : ByteArray) = v := ⟨_, rfl⟩
          have HVQ := Aside0.mk (show ws.getD k ⟨#[]⟩ = ⟨#[]⟩ from by rw [List.getD_eq_getElem?_getD, List.getElem?_eq_none (by rw [HWL.out]; omega)]; rfl)
          clear hkr hv v
          obtain ⟨⟨q, S2⟩, hset⟩ : ∃ p, setF S1 nm ⟨#[]⟩ = p := ⟨_, rfl⟩
          have HSET := Aside0.mk hset
          have HVZ := Aside0.mk (show (⟨#[]⟩ : ByteArray).size ≤ 1000000 from by decide)
          have HS2 := Aside0.mk (show q ≠ 0 → S2 = S1 from fun h => by have := setF_bad (S := S1) (s := nm) (v := ⟨#[]⟩); rw [hset] at this; exact this h)
          have HR3 := Aside0.mk (show setsF S l ws = if q = 0 then setsF S2 (l.drop (k + 1)) (ws.drop (k + 1)) else (q, S1) from by rw [HR.out, HST.out nm ⟨#[]⟩ HNQ.out HVQ.out, hset])
          clear hset
          go_wp2_with fail
          refine (env_Set g m1 m2 S1 S2 nm ⟨#[]⟩ q _ HSK.out HVZ.out HE.out HSET.out).mono ?_
          rintro e w6 ⟨rfl, he6, hc6⟩
          have HE6 := Aside0.mk he6
          have HWO6 := Aside0.mk (HWO.out.env HE.out hc6)
          have HB6 := Aside0.mk (hc6.blk HBX.out (fun e => map_notRow HE.out.vars _ _ (by rw [← e]; exact HBX.out)))
          have HD6 := Aside0.mk (hc6.blk HDX.out (fun e => map_notRow HE.out.vars _ _ (by rw [← e]; exact HDX.out)))
          have HRW6 := Aside0.mk (R_chg HRW.out hc6 (fun k hk q hq => by rw [hk]; exact map_notRow HE.out.vars _))
          have HW6 := Aside0.mk (HW.out.then_ hc6 (fun k h => .inl (.inl h)))
          clear he6 hc6
          by_cases h0 : q = 0
          · subst h0
            have HR4 := Aside0.mk (show setsF S l ws = setsF S2 (l.drop (k + 1)) (ws.drop (k + 1)) from by rw [HR3.out]; rfl)
            go_wp2_with fail
            go_roundw
            case rel => exact ⟨k + 1, S2, HLT.out, by go_num, HR4, HE6, HWO6, HB6, HD6, HRW6, HW6⟩
            case measure => have := HLT.out; simp [intOf]; omega
          · have hr0 : (q == 0) = false := beq_eq_false_iff_ne.2 h0
            have hr1 : (q != 0) = true := by rw [bne, hr0]; rfl
            have H0 := Aside0.mk h0
            obtain ⟨⟨q0, q1, q2, q3, q4⟩, qf⟩ := box5 HB6.out
            clear h0
            go_wp2_with fail
            refine bodyPost_ret (v := doneOf (0, ⟨#[]⟩, 0, 0, q)) (done_ret rfl rfl (set5 HB6.out (.int .i64 0) (.string ⟨#[]⟩) (.int .i64 0) (.int .i64 0) (.int .i64 q))) rfl ?_
            have hrf : readF S rs l = ((0, ⟨#[]⟩, 0, 0, q), S1) := by
              unfold readF
              rw [HRD.out, HRR.out, Nat.add_sub_cancel, HWS.out, HR3.out, if_neg H0.out]
              show ((if q = 0 then _ else _), _) = _
              rw [if_neg H0.out]
            rw [hrf]
            have he := HE6.out.box HB6.out (by decide) (by decide) (set5_chg _ _ [.int .i64 0, .string ⟨#[]⟩, .int .i64 0, .int .i64 0, .int .i64 q])
            rw [HS2.out H0.out] at he
            exact ⟨rfl, he, HWO6.out.chg (set5_chg5 _ _ _ _ _ _ _) (fun e => wor_notRow HWO6.out (e := 35) (by decide) _ (by rw [e]; exact HB6.out)) (fun k hk => by rw [hk]; exact cells_notRow HB6.out (by decide)), HW6.out.then_ (set5_chg5 w6 b _ _ _ _ _) (fun k hk => .inr (by rw [hk, HBK.out]; exact Nat.le_refl _))⟩
      · obtain rfl : k = l.length := by omega
        rw [List.drop_length] at HR
        obtain ⟨⟨q0, q1, q2, q3, q4⟩, qf⟩ := box5 HBX.out
        obtain ⟨⟨p0, p1, p2, p3, p4⟩, pf⟩ := box5 HDX.out
        clear hlt hk
        go_wp2_with fail
        refine bodyPost_ret (v := doneOf (1, ⟨#[]⟩, 0, 0, 0)) (done_ret rfl rfl (set5 HBX.out (.int .i64 1) (.string ⟨#[]⟩) (.int .i64 0) (.int .i64 0) (.int .i64 0))) rfl ?_
        have hrf : readF S rs l = ((1, ⟨#[]⟩, 0, 0, 0), S1) := by
          unfold readF
          rw [HRD.out, HRR.out, Nat.add_sub_cancel, HWS.out, HR.out]
          rfl
        rw [hrf]
        exact ⟨rfl, HE.out.box HBX.out (by decide) (by decide) (set5_chg5 _ _ _ _ _ _ _), HWO.out.chg (set5_chg5 _ _ _ _ _ _ _) (fun e => wor_notRow HWO.out (e := 35) (by decide) _ (by rw [e]; exact HBX.out)) (fun k hk => by rw [hk]; exact cells_notRow HBX.out (by decide)), HW.out.then_ (set5_chg5 wr b _ _ _ _ _) (fun k hk => .inr (by rw [hk, HBK.out]; exact Nat.le_refl _))⟩

def readCmd : ByteArray := ⟨#[114, 101, 97, 100]⟩
set_option maxHeartbeats 4000000 in
set_option maxRecDepth 100000 in
theorem run_read (g m1 m2 gw : Nat) (S : EnvS) (ad : Addr) (c : Nat) (r : List ByteArray) (st : Int) (w : World) (hC : Kd.C Kd.string w (some ad) (r.length + 1) (readCmd :: r)) (hlc : r.length + 1 ≤ c) (hsz : ∀ s ∈ r, s.size ≤ 1000000) (rs : List ByteArray) (h0 : 0 < r.length) (hln : r.length ≤ 1000000) (hnm : ∀ s ∈ r, nameB s = true) (hA : ad.block ≠ m1 ∧ ad.block ≠ gw) (hw : WorIs w gw rs) (he : EnvIs w g m1 m2 S) :
    Calls Try.prog 14 #[.pointer (some ⟨g, 0, none⟩), .pointer (some ⟨gw, 0, none⟩), .slice (some ad) (r.length + 1) c, .int .i64 st] w fun e w' => e = .returned (doneOf (readF S rs r).1) ∧ EnvIs w' g m1 m2 (readF S rs r).2 ∧ WorIs w' gw rs.tail ∧ Chg (fun k => k = m1 ∨ k = gw) w w' := by
  obtain ⟨ad', e, hx⟩ := str_at hC (k := 0) (by omega)
  injection e with e
  subst e
  have hx0 : w.cell? ad = some (.string readCmd) := by simpa [Addr.add] using hx
  have hbl : Below w.heap.size w (w.alloc zbox) := (Below.refl _ _).alloc (Nat.le_refl _) _
  have hy0 := pw_cell_below hbl hx0
  have HC := Aside0.mk (Kd.C_below (rest_C hC hlc) hbl)
  have HS := Aside0.mk hsz
  have HB0 := Aside0.mk (heap_alloc_new w zbox)
  have HE0 := Aside0.mk (he.below hbl)
  have HW0 := Aside0.mk ((Chg.refl (fun k => k = m1 ∨ k = gw) w).alloc zbox)
  have HBL := Aside0.mk hbl
  have HADB := Aside0.mk (World.block_lt_of_cell? w _ hx0)
  obtain ⟨inf, hinf, hisz⟩ := info_s
  have hcut := cut_from (P := Try.prog) 22 9 .i64 Try.underlying22 hinf 1 hisz (some ad) (r.length + 1) c 1 (by omega) (by omega)
  obtain ⟨A2, hA2⟩ : ∃ A2, (if c = 1 then some ad else some (ad.add 1)) = A2 := ⟨_, rfl⟩
  have hcut2 : ∀ W : World, (Instr.slice 22 (.slice (some ad) (r.length + 1) c) (some (.int .i64 1)) none none).run Try.prog W = .ok (.slice A2 r.length (c - 1)) W := fun W => by rw [hcut W, ← hA2]; rfl
  have HA2 := Aside0.mk (show ∀ ad', A2 = some ad' → ad'.block = ad.block from fun ad' h => by
    rw [← hA2] at h
    split at h
    · rw [← Option.some.inj h]
    · rw [← Option.some.inj h, add_block])
  rw [hA2] at HC
  have hlc' : (r.length : Int) + 1 ≤ (c : Int) := by omega
  have hl0 : (((r.length + 1 : Nat) : Int) == 0) = false := beq_eq_false_iff_ne.2 (by omega)
  have hl1 : (0 : Int) < ((r.length + 1 : Nat) : Int) := by omega
  have HLC := Aside0.mk (show r.length ≤ c - 1 from by omega)
  have z_false : (readCmd.toList == [102, 97, 108, 115, 101]) = false := by rw [toList_data]; rfl
  have z_echo : (readCmd.toList == [101, 99, 104, 111]) = false := by rw [toList_data]; rfl
  have z_export : (readCmd.toList == [101, 120, 112, 111, 114, 116]) = false := by rw [toList_data]; rfl
  have z_unset : (readCmd.toList == [117, 110, 115, 101, 116]) = false := by rw [toList_data]; rfl
  have z_read : (readCmd.toList == [114, 101, 97, 100]) = true := by rw [toList_data]; rfl
  have HH := Aside0.mk (And.intro h0 (And.intro hln hnm))
  have HAA := Aside0.mk hA
  have HWO0 := Aside0.mk (hw.below hbl)
  clear h0 hln hnm hA hw
  clear hC hsz he hx hx0 hbl hinf hisz hcut hA2
  go_enter Try.func14, Try.ntmps14
  go_wp2_with fail
  refine (built_Is readCmd true _ (by decide +kernel)).mono ?_
  rintro e w2 ⟨rfl, hb⟩
  have HC2 := Aside0.mk (Kd.C_below HC.out hb)
  have HB2 := Aside0.mk ((Chg.of_below hb none_).blk HB0.out (fun h => h))
  have HE2 := Aside0.mk (HE0.out.below hb)
  have HW2 := Aside0.mk (HW0.out.below hb)
  have HWO2 := Aside0.mk (HWO0.out.below hb)
  have HBL2 := Aside0.mk (HBL.out.trans (hb.mono HBL.out.size))
  have hy2 := pw_cell_below hb hy0
  clear hb hy0
  generalize hbk : w.heap.size = b at HB2 ⊢
  have HBK := Aside0.mk hbk
  clear hbk
  go_wp2_with fail
  refine (built_read g m1 m2 gw S rs A2 (c - 1) r _ HC2.out HLC.out HH.out.1 HH.out.2.1 HS.out HH.out.2.2 (fun ad' h _ => by rw [HA2.out ad' h]; exact HAA.out) HE2.out HWO2.out).mono ?_
  rintro e w3 ⟨rfl, he3, hwo3, hc3⟩
  have HE3 := Aside0.mk he3
  have HWO3 := Aside0.mk hwo3
  have HB3 := Aside0.mk (hc3.blk HB2.out (fun e => by
    rcases e with e | e
    · exact map_notRow HE2.out.vars _ _ (by rw [← e]; exact HB2.out)
    · exact wor_notRow HWO2.out (e := 35) (by decide) _ (by rw [← e]; exact HB2.out)))
  have HW3 := Aside0.mk (HW2.out.then_ hc3 (fun _ h => .inl h))
  clear he3 hc3 hy2 hwo3
  obtain ⟨⟨q0, q1, q2, q3, q4⟩, qf⟩ := box5 HB3.out
  obtain ⟨⟨x0, x1, x2, x3, x4⟩, hd⟩ : ∃ d, (readF S rs r).1 = d := ⟨_, rfl⟩
  have HDN := Aside0.mk hd
  rw [hd]
  simp only [doneOf, doneV]
  clear hd
  go_wp2_with fail
  refine bodyPost_ret (v := doneOf (x0, x1, x2, x3, x4)) (done_ret rfl rfl (set5 HB3.out (.int .i64 x0) (.string x1) (.int .i64 x2) (.int .i64 x3) (.int .i64 x4))) rfl ?_
  exact ⟨by rw [HDN.out], HE3.out.box HB3.out (by decide) (by decide) (set5_chg5 _ _ _ _ _ _ _), HWO3.out.chg (set5_chg5 _ _ _ _ _ _ _) (fun e => wor_notRow HWO3.out (e := 35) (by decide) _ (by rw [e]; exact HB3.out)) (fun k hk => by rw [hk]; exact cells_notRow HB3.out (by decide)), HW3.out.then_ (set5_chg5 w3 b _ _ _ _ _) (fun k hk => .inr (by rw [hk, HBK.out]; exact Nat.le_refl _))⟩

end Go.Proofs.Ytfdjbjinomfgiaa
