/- BuiltExports: its walk. -/
import Derived.Test.YtfdjbjinomfgiaaBltG
import Derived.Maps.RangeWalk
import Derived.Maps.StringElems
import Derived.Sort.KeysCollected
namespace Go.Proofs.Ytfdjbjinomfgiaa
open Go.RowKit Go.Maps Go.Proofs.YtfdjbjinomfgiaaW.PrintWords Go.Proofs.YtfdjbjinomfgiaaW.PrintLast Go.Proofs.YtfdjbjinomfgiaaW.PrintMore
set_option linter.unusedSimpArgs false
set_option linter.unusedVariables false

theorem lit_R (W : World) (base : Nat) (h : base ≤ W.heap.size) (s : ByteArray) : Kd.R Kd.string 9 (W.alloc (.cells #[.string s] 9)) base (fun _ => True) (.slice (some ⟨W.heap.size, 0, none⟩) 1 1) [s] :=
  Kd.R_of_own (World.ownsRow_lit (base := base) (e := 9) (size := 1) W #[.string s] 1 h (by decide) rfl) (fun _ _ => trivial)
theorem run_export_row (g m1 m2 gw base : Nat) (S : EnvS) (row : List ByteArray) (A : Option Addr) (c : Nat) (st : Int) (w : World) (hR : Kd.R Kd.string 9 w base (fun _ => True) (.slice A (row.length + 1) c) (exportB :: row)) (hb : m1 < base) (hs : ∀ s ∈ row, s.size ≤ 1000000) (he : EnvIs w g m1 m2 S) :
    Calls Try.prog 14 #[.pointer (some ⟨g, 0, none⟩), .pointer (some ⟨gw, 0, none⟩), .slice A (row.length + 1) c, .int .i64 st] w fun e w' => e = .returned (doneOf (expF S row).1) ∧ EnvIs w' g m1 m2 (expF S row).2 ∧ Chg (fun k => k = m1) w w' := by
  obtain ⟨A', c', e, hc, hC⟩ := Kd.R_reads hR
  injection e with e1 e2 e3
  subst e1 e3
  obtain ⟨ad, rfl, _⟩ := str_at hC (k := 0) (by simp)
  have hlt := (Kd.R_bound hR).1 ad.block (by simp [Value.ownBlock])
  exact run_export g m1 m2 gw S ad c row st w hC hc hs (by have := hlt.2.1; omega) he
theorem run_export_done (g m1 m2 gw base k n : Nat) (row : List ByteArray) (L : VTab) (bad : Bool) (code : Int) (A : Option Addr) (c : Nat) (w : World) (hn : (exportB :: row).length = n) (hR : Kd.R Kd.string 9 w base (fun _ => True) (.slice A n c) (exportB :: row)) (hb : m1 < base) (hok : RowOk k row L bad) (hcode : (if bad then 2 else 0) = code) (he : EnvIs w g m1 m2 env0) :
    Calls Try.prog 14 #[.pointer (some ⟨g, 0, none⟩), .pointer (some ⟨gw, 0, none⟩), .slice A n c, .int .i64 7] w fun e w' => e = .returned (.agg #[.int .i64 code, .string ⟨#[]⟩, .int .i64 0, .int .i64 0, .int .i64 0]) ∧ EnvIs w' g m1 m2 (SL L) ∧ Chg (fun k => k = m1) w w' := by
  subst hn hcode
  refine (run_export_row g m1 m2 gw base env0 row A c 7 w hR hb hok.fits he).mono ?_
  rintro e w' ⟨rfl, h1, h2⟩
  rw [hok.run] at h1 ⊢
  exact ⟨rfl, h1, h2⟩
theorem run_unset_lit (g m1 m2 gw : Nat) (S : EnvS) (s : ByteArray) (w : World) (hs : s.size ≤ 1000000) (he : EnvIs w g m1 m2 S) :
    Calls Try.prog 14 #[.pointer (some ⟨g, 0, none⟩), .pointer (some ⟨gw, 0, none⟩), .slice (some ⟨w.heap.size, 0, none⟩) 2 2, .int .i64 0] (w.alloc (.cells #[.string ⟨#[117, 110, 115, 101, 116]⟩, .string s] 9)) fun e w' => e = .returned (doneOf (remF S [s]).1) ∧ EnvIs w' g m1 m2 (remF S [s]).2 ∧ Chg (fun k => k = m1) w w' := by
  have hbl : Below w.heap.size w (w.alloc (.cells #[.string ⟨#[117, 110, 115, 101, 116]⟩, .string s] 9)) := (Below.refl _ _).alloc (Nat.le_refl _) _
  refine (run_unset g m1 m2 gw S ⟨w.heap.size, 0, none⟩ 2 [s] 0 _ (lit_C w [⟨#[117, 110, 115, 101, 116]⟩, s] (by simp)) (by simp) (by simpa using hs) (show w.heap.size ≠ m1 from by have := he.lt.2.1; omega) (he.below hbl)).mono ?_
  rintro e w' ⟨rfl, he2, hc⟩
  exact ⟨rfl, he2, (Chg.refl (fun k => k = m1) w).alloc (.cells #[.string ⟨#[117, 110, 115, 101, 116]⟩, .string s] 9) |>.then_ hc (fun _ h => .inl h)⟩
theorem run_unset_name (g m1 m2 gw : Nat) (L : VTab) (s : ByteArray) (w : World) (hs : s.size ≤ 1000000) (hl : ltB ifsB s = true) (hn : nameB s = true) (he : EnvIs w g m1 m2 (SL L)) :
    Calls Try.prog 14 #[.pointer (some ⟨g, 0, none⟩), .pointer (some ⟨gw, 0, none⟩), .slice (some ⟨w.heap.size, 0, none⟩) 2 2, .int .i64 0] (w.alloc (.cells #[.string ⟨#[117, 110, 115, 101, 116]⟩, .string s] 9)) fun e w' => e = .returned (.agg #[.int .i64 0, .string ⟨#[]⟩, .int .i64 0, .int .i64 0, .int .i64 0]) ∧ EnvIs w' g m1 m2 (SL (tdel L s)) ∧ Chg (fun k => k = m1) w w' := by
  refine (run_unset_lit g m1 m2 gw (SL L) s w hs he).mono ?_
  rintro e w' ⟨rfl, h1, h2⟩
  rw [SL_unset hl hn] at h1 ⊢
  exact ⟨rfl, h1, h2⟩
theorem run_unset_one (g m1 m2 gw : Nat) (S : EnvS) (w : World) (he : EnvIs w g m1 m2 S) :
    Calls Try.prog 14 #[.pointer (some ⟨g, 0, none⟩), .pointer (some ⟨gw, 0, none⟩), .slice (some ⟨w.heap.size, 0, none⟩) 2 2, .int .i64 0] (w.alloc (.cells #[.string ⟨#[117, 110, 115, 101, 116]⟩, .string ⟨#[49]⟩] 9)) fun e w' => e = .returned (.agg #[.int .i64 2, .string ⟨#[]⟩, .int .i64 0, .int .i64 0, .int .i64 0]) ∧ Chg (fun k => k = m1) w w' := by
  refine (run_unset_lit g m1 m2 gw S ⟨#[49]⟩ w (by decide) he).mono ?_
  rintro e w' ⟨rfl, h1, h2⟩
  rw [show (remF S [⟨#[49]⟩]).1 = (2, ⟨#[]⟩, 0, 0, 0) from by
    show (if nameB ⟨#[49]⟩ then remF (unsetF S ⟨#[49]⟩) [] else ((2, ⟨#[]⟩, 0, 0, 0), unsetF S ⟨#[49]⟩)).1 = _
    rw [show nameB ⟨#[49]⟩ = false from by decide +kernel]
    rfl]
  exact ⟨rfl, h2⟩
theorem str_key {key : Value} {kl : Lit} (h : keyOf Try.prog 9 key = some kl) : ∃ x : ByteArray, key = .string x ∧ kl = .string x.data.toList := by
  obtain ⟨x, e, e2, _⟩ := Maps.keyOf_str Try.underlying9 h
  exact ⟨⟨x.toArray⟩, e, by rw [e2]⟩
theorem leftOn_has {L : VTab} (hr : Rising L) : leftOn (Maps.has (tab (H := Unit) encS L)) L = L := leftOn_start fun p hp => by
  rw [tab_has, tget_mem hr hp]
  rfl
theorem ranges_chg {T : Nat → Prop} {w W : World} {b r n : Nat} {D : DataW Unit} {left : Lit → Bool} {cnt : Nat} (h : w.ranges Try.prog 9 (plainElem (H := Unit) Try.prog 9) b r n D left cnt) (hc : Chg T w W) (h1 : ¬ T b) (h2 : ¬ T r) : W.ranges Try.prog 9 (plainElem (H := Unit) Try.prog 9) b r n D left cnt := by
  obtain ⟨es, clock, since, seen, c0, hb, a1, a2, a3, hr, rest⟩ := h
  exact ⟨es, clock, since, seen, c0, hc.blk hb h1, a1, a2, a3, hc.blk hr h2, rest⟩
theorem iter_notRow {w : World} {b r n : Nat} {D : DataW Unit} {left : Lit → Bool} {cnt : Nat} (h : w.ranges Try.prog 9 (plainElem (H := Unit) Try.prog 9) b r n D left cnt) (e : Nat) : NotRow w e r := by
  obtain ⟨es, clock, since, seen, c0, hb, a1, a2, a3, hr, rest⟩ := h
  intro cs hx
  rw [hr] at hx
  cases hx
theorem key_facts {k : Nat} {row : List ByteArray} {L : VTab} {bad : Bool} (h : RowOk k row L bad) {x c : ByteArray} (hm : (x, c) ∈ L) : numF x = none ∧ nameB x = true ∧ ltB ifsB x = true ∧ x.size ≤ 1000 := by
  obtain ⟨a, b, ha, hb, e⟩ := h.keys _ hm
  injection e with e1 e2
  subst e1
  obtain ⟨w0, _, w2, w3, w4⟩ := vnm_all ⟨a, ha⟩
  exact ⟨w0, w2, w3, w4⟩
set_option maxHeartbeats 4000000 in
set_option maxRecDepth 100000 in
theorem exports_walk (A : Option Addr) (c : Nat) (l : List Int) (wrong : Int) (w : World) (hA : Kd.C (Kd.int .i64) w A l.length l) (hlc : l.length ≤ c) :
    Calls Try.prog 10 #[.slice A l.length c, .int .i64 wrong] w fun e w' => e = .returned (.bool true) ∧ Below w.heap.size w w' := by
  have HA := Aside0.mk hA
  have hmo : (l.length : Int) ≤ 9223372036854775807 := by have := hA.2.1; omega
  obtain ⟨wi, hwi, hwi32⟩ := mask_nat wrong 31 5 (by decide) (by omega)
  clear hA
  have hmm := @run_makeMap Try.prog
  go_enter Try.func10, Try.ntmps10
  go_wp2_with fail
  refine (env_New0 _).mono ?_
  rintro e w1 ⟨g, m1, m2, rfl, he, hb, hg, hm1, hm2⟩
  have HE := Aside0.mk he
  have HB := Aside0.mk hb
  have HM := Aside0.mk (And.intro hg (And.intro hm1 hm2))
  clear he hb hm1 hg hm2
  go_wp2_with fail
  refine (world_New0 _).mono ?_
  rintro e w2 ⟨gw, rfl, hw, hb, _⟩
  have HE2 := Aside0.mk (HE.out.below hb)
  have HB2 := Aside0.mk (HB.out.trans (hb.mono HB.out.size))
  clear hw hb
  have HB3 := Aside0.mk (((Below.refl w2.heap.size w2).alloc (Nat.le_refl _) (.cells #[.string ⟨#[101, 120, 112, 111, 114, 116]⟩] 9)).alloc (by simp) (.map #[] 0))
  have HR3 := Aside0.mk (Kd.R_below (lit_R w2 w2.heap.size (Nat.le_refl _) ⟨#[101, 120, 112, 111, 114, 116]⟩) ((Below.refl _ (w2.alloc (.cells #[.string ⟨#[101, 120, 112, 111, 114, 116]⟩] 9))).alloc (Nat.le_refl _) (.map #[] 0)))
  have hmd := World.ownsMap_made (H := Unit) (w2.alloc (.cells #[.string ⟨#[101, 120, 112, 111, 114, 116]⟩] 9)) Try.prog 9 (plainElem Try.prog 9)
  rw [show (w2.alloc (.cells #[.string ⟨#[101, 120, 112, 111, 114, 116]⟩] 9)).heap.size = w2.heap.size + 1 from by simp] at hmd
  have HMP3 := Aside0.mk hmd
  have HL0 := Aside0.mk (show w2.heap.size ≤ w2.heap.size + 1 from by omega)
  clear hmd
  go_wp2_with fail
  generalize (w2.alloc (.cells #[.string ⟨#[101, 120, 112, 111, 114, 116]⟩] 9)).alloc (.map #[] 0) = w3 at HB3 HR3 HMP3 ⊢
  generalize w2.heap.size + 1 = ml at HMP3 HL0 ⊢
  have HMM := Aside0.mk (show m1 < w2.heap.size ∧ g < w2.heap.size ∧ m2 < w2.heap.size from ⟨HE2.out.lt.2.1, HE2.out.lt.1, HE2.out.lt.2.2⟩)
  go_loopw [7, 9, 10] (fun v b i wr => ∃ (k : Nat) (row : List ByteArray) (L : VTab) (bad : Bool), k ≤ l.length ∧ k ≤ 12 ∧ i = .int .i64 k ∧ b = .bool bad ∧ Aside0 (RowOk k row L bad) ∧ Aside0 (Kd.R Kd.string 9 wr w2.heap.size (fun _ => True) v (exportB :: row)) ∧ Aside0 (Below w2.heap.size w2 wr) ∧ Aside0 (wr.ownsMap Try.prog 9 (plainElem (H := Unit) Try.prog 9) ml 12 (tab encS L))) (fun _ _ i _ => 12 - (intOf i).toNat)
  case atStart => exact ⟨0, [], [], false, Nat.zero_le _, Nat.zero_le _, rfl, rfl, ⟨RowOk.start⟩, ⟨HR3.out⟩, ⟨HB3.out⟩, ⟨HMP3.out.mono (by omega)⟩⟩
  case round =>
    obtain ⟨k, row, L, bad, hk, hk12, rfl, rfl, HOK, HR, HBW, HMP⟩ := hrel
    by_cases hlt : k < l.length ∧ k < 12
    · obtain ⟨hl1, hl2⟩ := hlt
      obtain ⟨ad, e, hx⟩ := Kd.at_int (Kd.C_below HA.out (HB2.out.trans (HBW.out.mono HB2.out.size))) (k : Int) (by omega) (by omega)
      subst e
      rw [Int.toNat_natCast] at hx
      generalize rd l (k : Int) = x at hx
      have hlt1 : (k : Int) < (l.length : Int) := by omega
      have hlt2 : (k : Int) < 12 := by omega
      have HL1 := Aside0.mk hl1
      have HL2 := Aside0.mk hl2
      have hlo' : (l.length : Int) ≤ (c : Int) := by omega
      obtain ⟨a, ha, ha8⟩ := mask_nat x 7 3 (by decide) (by omega)
      have HA8 := Aside0.mk ha8
      have HWI := Aside0.mk hwi32
      clear hk hk12 hl1 hl2 hwi32 ha8
      go_wp2_with fail
      refine (digits_calls a (by omega) (by have := HA8.out; omega) _).mono ?_
      rintro e wr ⟨rfl, rfl⟩
      rw [Int.toNat_natCast]
      have HDA := Aside0.mk (show (dgs a).size ≤ 20 from by have := dgA_size 20 a ⟨#[]⟩; exact this)
      obtain ⟨da, hda⟩ : ∃ d, dgs a = d := ⟨_, rfl⟩
      rw [hda] at HDA ⊢
      have HD := Aside0.mk hda
      clear hda
      go_wp2_with fail
      · rename_i hh
        exfalso
        exact absurd hh (by have := HDA.out; omega)
      obtain ⟨b, hb, hb8⟩ := mask_nat (x / 8) 255 8 (by decide) (by omega)
      have HB8 := Aside0.mk hb8
      rw [hb]
      clear hb8 hb
      refine (digits_calls b (by omega) (by have := HB8.out; omega) _).mono ?_
      rintro e wr ⟨rfl, rfl⟩
      rw [Int.toNat_natCast]
      have HDB := Aside0.mk (show (dgs b).size ≤ 20 from by have := dgA_size 20 b ⟨#[]⟩; exact this)
      obtain ⟨db, hdb⟩ : ∃ d, dgs b = d := ⟨_, rfl⟩
      rw [hdb] at HDB ⊢
      have HD2 := Aside0.mk hdb
      clear hdb ha
      obtain ⟨A1, c1, he1, _, _⟩ := Kd.R_reads HR.out
      obtain ⟨n, hn⟩ : ∃ n, row.length + 1 = n := ⟨_, rfl⟩
      have HLEN := Aside0.mk (show (exportB :: row).length = n from hn)
      have HN := Aside0.mk (show n ≤ 14 from by have := HOK.out.len; have := HL2.out; omega)
      rw [HLEN.out] at he1
      subst he1
      clear hn
      by_cases hwk : wi = k
      · have hq : ((wi : Int) == (k : Int)) = true := by rw [hwk]; simp
        obtain ⟨j, hj, hj4⟩ := mask_nat (wrong / 32) 3 2 (by decide) (by omega)
        have HJ4 := Aside0.mk hj4
        have hjj : (j : Int) < 4 := by omega
        have hcell : (wr.alloc (.cells #[.string ⟨#[49, 97]⟩, .string ⟨#[]⟩, .string ⟨#[97, 32, 98, 61, 49]⟩, .string ⟨#[61, 120]⟩] 9)).cell? ⟨wr.heap.size, j, none⟩ = some (.string (badW j)) := by
          have h := heap_alloc_new wr (.cells #[.string ⟨#[49, 97]⟩, .string ⟨#[]⟩, .string ⟨#[97, 32, 98, 61, 49]⟩, .string ⟨#[61, 120]⟩] 9)
          rw [blk_cell h]
          rcases (by omega : j = 0 ∨ j = 1 ∨ j = 2 ∨ j = 3) with rfl | rfl | rfl | rfl <;> rfl
        obtain ⟨bw, hbw⟩ : ∃ s, badW j = s := ⟨_, rfl⟩
        rw [hbw] at hcell
        have HBWD := Aside0.mk hbw
        have hbx : Below wr.heap.size wr (wr.alloc (.cells #[.string ⟨#[49, 97]⟩, .string ⟨#[]⟩, .string ⟨#[97, 32, 98, 61, 49]⟩, .string ⟨#[61, 120]⟩] 9)) := (Below.refl _ _).alloc (Nat.le_refl _) _
        have HRX := Aside0.mk (Kd.R_below HR.out hbx)
        have HBX := Aside0.mk (HBW.out.trans (hbx.mono HBW.out.size))
        have HMX := Aside0.mk (HMP.out.alloc (.cells #[.string ⟨#[49, 97]⟩, .string ⟨#[]⟩, .string ⟨#[97, 32, 98, 61, 49]⟩, .string ⟨#[61, 120]⟩] 9))
        have HSZ := Aside0.mk (show (wr.alloc (.cells #[.string ⟨#[49, 97]⟩, .string ⟨#[]⟩, .string ⟨#[97, 32, 98, 61, 49]⟩, .string ⟨#[61, 120]⟩] 9)).heap.size = wr.heap.size + 1 from by simp)
        clear hwk hj4 hbw hbx
        go_wp2_with (at_builtin; go_loud (refine Kd.R_append Kd.string (w0 := wr.alloc (.cells #[.string ⟨#[49, 97]⟩, .string ⟨#[]⟩, .string ⟨#[97, 32, 98, 61, 49]⟩, .string ⟨#[61, 120]⟩] 9)) w2.heap.size rfl (.tmp 73) (.tmp 80) 22 9 (.string ⟨#[]⟩) 16 rfl Try.underlying22 e_info_str rfl (by decide) (by omega) _ (exportB :: row) bw [.string bw] (fun _ => True) (fun _ => False) rfl (by rw [HSZ.out]; rfl) rfl (fun _ hk => hk.elim) (fun _ _ => trivial) HRX.out (Below.refl _ _) HBX.out.size (by rw [HLEN.out]; have := HN.out; omega) ?_; intro v2 w4 hR2 _ hG2 _; obtain ⟨A2, c2, he2, _, _⟩ := Kd.R_reads hR2; rw [List.length_append, List.length_singleton, HLEN.out] at he2; subst he2; have HR4 := Aside0.mk hR2; have HB4 := Aside0.mk (HBX.out.grown hG2 HBX.out.size (fun k' hk' => ((Kd.R_bound HRX.out).1 k' hk').2.1)); have HMP4 := Aside0.mk (HMX.out.kept hG2 (fun e => by obtain ⟨_, _, _, q, hq, cs, hx⟩ := (Kd.R_bound HRX.out).1 ml e.symm; exact map_notRow HMX.out _ _ hx)); clear hR2 hG2))
        go_roundw
        case rel => exact ⟨k + 1, row ++ [bw], L, true, HL1.out, HL2.out, by go_num, rfl, ⟨by rw [← HBWD.out]; exact HOK.out.badT HJ4.out⟩, ⟨HR4.out⟩, HB4, HMP4⟩
        case measure => have := HL2.out; simp [intOf]; omega
      · have hq : ((wi : Int) == (k : Int)) = false := beq_eq_false_iff_ne.2 (by omega)
        obtain ⟨z, hz, hz4⟩ := mask_nat (x / 4096) 3 2 (by decide) (by omega)
        clear hwk hz4
        by_cases hz0 : z = 0
        · have hz0' : ((z : Int) == 0) = true := by rw [hz0]; rfl
          clear hz0
          obtain ⟨nm, hnm⟩ : ∃ s, (⟨#[118]⟩ : ByteArray) ++ da = s := ⟨_, rfl⟩
          rw [hnm]
          have HNM := Aside0.mk hnm
          clear hnm
          go_wp2_with (at_builtin; refine Kd.R_append Kd.string (w0 := wr) w2.heap.size rfl (.tmp 90) (.tmp 92) 22 9 (.string ⟨#[]⟩) 16 rfl Try.underlying22 e_info_str rfl (by decide) (by omega) _ (exportB :: row) nm [.string nm] (fun _ => True) (fun _ => False) rfl rfl rfl (fun _ hk => hk.elim) (fun _ _ => trivial) HR.out (Below.refl _ _) HBW.out.size (by rw [HLEN.out]; have := HN.out; omega) ?_; intro v2 w4 hR2 _ hG2 _; obtain ⟨A2, c2, he2, _, _⟩ := Kd.R_reads hR2; rw [List.length_append, List.length_singleton, HLEN.out] at he2; subst he2; have HR4 := Aside0.mk hR2; have HB4 := Aside0.mk (HBW.out.grown hG2 HBW.out.size (fun k' hk' => ((Kd.R_bound HR.out).1 k' hk').2.1)); have HMP4 := Aside0.mk (HMP.out.kept hG2 (fun e => by obtain ⟨_, _, _, q, hq, cs, hx⟩ := (Kd.R_bound HR.out).1 ml e.symm; exact map_notRow HMP.out _ _ hx)); clear hR2 hG2)
          go_roundw
          case rel => exact ⟨k + 1, row ++ [nm], L, bad, HL1.out, HL2.out, by go_num, rfl, ⟨by rw [← HNM.out, ← HD.out]; exact HOK.out.name HA8.out⟩, ⟨HR4.out⟩, HB4, HMP4⟩
          case measure => have := HL2.out; simp [intOf]; omega
        · have hz0' : ((z : Int) == 0) = false := beq_eq_false_iff_ne.2 (by omega)
          clear hz0
          obtain ⟨nm, hnm⟩ : ∃ s, (⟨#[118]⟩ : ByteArray) ++ da = s := ⟨_, rfl⟩
          have HNS := Aside0.mk (show nm.size ≤ 21 from by rw [← hnm, ByteArray.size_append]; have := HDA.out; have e1 : (⟨#[118]⟩ : ByteArray).size = 1 := rfl; omega)
          rw [hnm]
          have HNM := Aside0.mk hnm
          have hcat1 : (9223372036854775807 < nm.size + 1) = False := eq_false (by have := HNS.out; omega)
          have hcat2 : (9223372036854775807 < nm.size + 1 + db.size) = False := eq_false (by have := HNS.out; have := HDB.out; omega)
          have hcat3 : (9223372036854775807 < nm.size + 1 + db.size + 1) = False := eq_false (by have := HNS.out; have := HDB.out; omega)
          have hcat4 : (9223372036854775807 < db.size + 1) = False := eq_false (by have := HDB.out; omega)
          clear hnm
          obtain ⟨wd, hwd⟩ : ∃ s, nm ++ ⟨#[61]⟩ ++ db ++ ⟨#[61]⟩ = s := ⟨_, rfl⟩
          have HWD := Aside0.mk hwd
          obtain ⟨vl, hvl⟩ : ∃ s, db ++ (⟨#[61]⟩ : ByteArray) = s := ⟨_, rfl⟩
          have HVL := Aside0.mk hvl
          have HVS := Aside0.mk (show vl.size ≤ 21 from by rw [← hvl, ByteArray.size_append]; have := HDB.out; have e1 : (⟨#[61]⟩ : ByteArray).size = 1 := rfl; omega)
          cases bad with
          | true =>
            go_wp2_with (at_builtin; refine Kd.R_append Kd.string (w0 := wr) w2.heap.size rfl (.tmp 54) (.tmp 60) 22 9 (.string ⟨#[]⟩) 16 rfl Try.underlying22 e_info_str rfl (by decide) (by omega) _ (exportB :: row) wd [.string wd] (fun _ => True) (fun _ => False) rfl rfl rfl (fun _ hk => hk.elim) (fun _ _ => trivial) HR.out (Below.refl _ _) HBW.out.size (by rw [HLEN.out]; have := HN.out; omega) ?_; intro v2 w4 hR2 _ hG2 _; obtain ⟨A2, c2, he2, _, _⟩ := Kd.R_reads hR2; rw [List.length_append, List.length_singleton, HLEN.out] at he2; subst he2; have HR4 := Aside0.mk hR2; have HB4 := Aside0.mk (HBW.out.grown hG2 HBW.out.size (fun k' hk' => ((Kd.R_bound HR.out).1 k' hk').2.1)); have HMP4 := Aside0.mk (HMP.out.kept hG2 (fun e => by obtain ⟨_, _, _, q, hq, cs, hx⟩ := (Kd.R_bound HR.out).1 ml e.symm; exact map_notRow HMP.out _ _ hx)); clear hR2 hG2)
            go_roundw
            case rel => exact ⟨k + 1, row ++ [wd], L, true, HL1.out, HL2.out, by go_num, rfl, ⟨by rw [← HWD.out, ← HNM.out, ← HD.out, ← HD2.out]; exact HOK.out.set (by have := HL2.out; omega) HA8.out HB8.out⟩, ⟨HR4.out⟩, HB4, HMP4⟩
            case measure => have := HL2.out; simp [intOf]; omega
          | false =>
            go_wp2_with (first | (at_builtin; refine Kd.R_append Kd.string (w0 := wr) w2.heap.size rfl (.tmp 54) (.tmp 60) 22 9 (.string ⟨#[]⟩) 16 rfl Try.underlying22 e_info_str rfl (by decide) (by omega) _ (exportB :: row) wd [.string wd] (fun _ => True) (fun _ => False) rfl rfl rfl (fun _ hk => hk.elim) (fun _ _ => trivial) HR.out (Below.refl _ _) HBW.out.size (by rw [HLEN.out]; have := HN.out; omega) ?_; intro v2 w4 hR2 _ hG2 _; obtain ⟨A2, c2, he2, _, _⟩ := Kd.R_reads hR2; rw [List.length_append, List.length_singleton, HLEN.out] at he2; subst he2; have HR4 := Aside0.mk hR2; have HB4 := Aside0.mk (HBW.out.grown hG2 HBW.out.size (fun k' hk' => ((Kd.R_bound HR.out).1 k' hk').2.1)); have HMP4 := Aside0.mk (HMP.out.kept hG2 (fun e => by obtain ⟨_, _, _, q, hq, cs, hx⟩ := (Kd.R_bound HR.out).1 ml e.symm; exact map_notRow HMP.out _ _ hx)); clear hR2 hG2) | (at_mapUpdate; refine wpList_mapUpdate_in _ rfl _ _ _ 100 rfl 9 9 e_law9 Try.underlying100 (plainElem (H := Unit) Try.prog 9) ml 12 (tab encS L) rfl HMP4.out (by unfold maxLen; omega) _ _ (.string nm.data.toList) rfl rfl (WideMaps.keyOf_string_mk Try.underlying9 (by have := HNS.out; unfold maxLen; omega)) (.lit (.string vl.data.toList)) [] (plainElem_string Try.underlying9 (by have := HVS.out; unfold maxLen; omega)) ?_; intro w5 hown hturn; have HOW := Aside0.mk hown; have HC5 := Aside0.mk ((Chg.refl (fun k => k = ml) w4).turned hturn (.inl rfl)); clear hown hturn))
            have HR5 := Aside0.mk (R_chg HR4.out HC5.out (fun k hk q hq => by
              subst hk
              exact map_notRow HMP4.out q))
            have HB5 := Aside0.mk (below_chg HB4.out HC5.out (fun k hk => by rw [hk]; exact HL0.out))
            have HOK5 := Aside0.mk (show RowOk (k + 1) (row ++ [wd]) (tput L nm vl) false from by rw [← HWD.out, ← HVL.out, ← HNM.out, ← HD.out, ← HD2.out]; exact HOK.out.set (by have := HL2.out; omega) HA8.out HB8.out)
            have HMP5 := Aside0.mk (show w5.ownsMap Try.prog 9 (plainElem (H := Unit) Try.prog 9) ml 12 (tab encS (tput L nm vl)) from by
              have h := e_owns_exact HOW.out
              rw [show (tab (H := Unit) encS L).put (.string nm.data.toList) (.lit (.string vl.data.toList)) = tab encS (tput L nm vl) from tab_put encS L nm vl, tab_size] at h
              exact h.mono (Nat.le_trans HOK5.out.size HL2.out))
            go_roundw
            case rel => exact ⟨k + 1, row ++ [wd], tput L nm vl, false, HL1.out, HL2.out, by go_num, rfl, HOK5, ⟨HR5.out⟩, HB5, HMP5⟩
            case measure => have := HL2.out; simp [intOf]; omega
    · obtain ⟨A1, c1, he1, _, _⟩ := Kd.R_reads HR.out
      obtain ⟨n, hn⟩ : ∃ n, (exportB :: row).length = n := ⟨_, rfl⟩
      have HLEN := Aside0.mk hn
      rw [hn] at he1
      subst he1
      clear hn
      obtain ⟨code, hcode⟩ : ∃ code : Int, (if bad then 2 else 0) = code := ⟨_, rfl⟩
      have hcb : bad = true ∧ code = 2 ∨ bad = false ∧ code = 0 := by cases bad <;> simp_all
      have HCD := Aside0.mk hcode
      have hsp : l.length ≤ k ∨ (k < l.length ∧ 12 ≤ k) := by omega
      have hsp' : ((l.length : Int) ≤ k) ∨ ((k : Int) < l.length ∧ (12 : Int) ≤ k) := by omega
      have HE3 := Aside0.mk (HE2.out.below HBW.out)
      have HBA := Aside0.mk (HB2.out.trans (HBW.out.mono HB2.out.size))
      clear hlt hk hk12 hcode hsp
      rcases hcb with ⟨rfl, rfl⟩ | ⟨rfl, rfl⟩
      all_goals rcases hsp' with hs1 | ⟨hs1, hs2⟩
      all_goals (
        go_wp2_with fail
        refine (run_export_done g m1 m2 gw w2.heap.size k n row L _ _ A1 c1 _ HLEN.out HR.out HMM.out.1 HOK.out HCD.out HE3.out).mono ?_
        rintro e w4 ⟨rfl, he4, hc4⟩
        have HE4 := Aside0.mk he4
        have HB4 := Aside0.mk (below_chg HBA.out hc4 (fun k hk => by rw [hk]; exact HM.out.2.1))
        have HMP4 := Aside0.mk (hc4.map HMP.out (fun e => absurd e (by have := HL0.out; have := HMM.out.1; omega)))
        clear he4 hc4
        go_wp2_with fail)
      · have hbx : Below w4.heap.size w4 (w4.alloc (.cells #[.int .i64 2, .string ⟨#[]⟩, .int .i64 0, .int .i64 0, .int .i64 0] 35)) := (Below.refl _ _).alloc (Nat.le_refl _) _
        have HE5 := Aside0.mk (HE4.out.below hbx)
        have HB5 := Aside0.mk (HB4.out.trans (hbx.mono HB4.out.size))
        have HMP5 := Aside0.mk ((Chg.of_below hbx none_).map HMP4.out (fun h => h))
        clear hbx
        refine (env_Vars g m1 m2 (SL L) _ HE5.out).mono ?_
        rintro e w6 ⟨v, rfl, hv, hb6⟩
        obtain ⟨A6, c6, he6, _, _⟩ := Kd.R_reads hv
        obtain ⟨nl, hnl⟩ : ∃ nl, L.length = nl := ⟨_, rfl⟩
        rw [show (SL L).vars.length = L.length + 1 from rfl, hnl] at he6
        subst he6
        have HE6 := Aside0.mk (HE5.out.below hb6)
        have HB6 := Aside0.mk (HB5.out.trans (hb6.mono HB5.out.size))
        have HMP6 := Aside0.mk ((Chg.of_below hb6 none_).map HMP5.out (fun h => h))
        have hlen := fun ty => HMP6.out.len Try.underlying100 ty
        rw [tab_size, hnl] at hlen
        have hnl12 : (nl : Int) ≤ 12 := by have := HMP6.out.size_le; rw [tab_size, hnl] at this; omega
        clear hb6 hv hnl
        go_wp2_with (at_range; refine wpList_range_own _ rfl _ 100 rfl 9 9 e_law9 Try.underlying100 _ ml 12 (tab encS L) rfl HMP6.out ?_; intro w7 hrg0 hg0 hs0)
        have hb7 : Below w6.heap.size w6 w7 := (Below.refl _ _).grown hg0 (Nat.le_refl _) (fun j hj => by cases hj)
        have HE7 := Aside0.mk (HE6.out.below hb7)
        have HB7 := Aside0.mk (HB6.out.trans (hb7.mono HB6.out.size))
        have HRG := Aside0.mk hrg0
        have HRL := Aside0.mk (show g < w6.heap.size ∧ m1 < w6.heap.size ∧ m2 < w6.heap.size from HE6.out.lt)
        have HML := Aside0.mk (show m1 ≠ ml from by have := HL0.out; have := HMM.out.1; omega)
        have HWR := Aside0.mk (show w.heap.size ≤ w6.heap.size from HB6.out.size)
        clear hb7 hg0 hs0 hrg0 hlen
        generalize hrr : w6.heap.size = r at HRG HRL HWR ⊢
        clear hrr
        go_frame
        go_loopw [15] (fun _ wr => ∃ (left : Lit → Bool) (cnt : Nat), Aside0 (wr.ranges Try.prog 9 (plainElem (H := Unit) Try.prog 9) ml r 12 (tab encS L) left cnt) ∧ Aside0 (EnvIs wr g m1 m2 (SL (leftOn left L))) ∧ Aside0 (Below w.heap.size w wr)) (fun _ wr => wr.rangeLeft ml r)
        case atStart => exact ⟨_, _, HRG, ⟨by rw [leftOn_has HOK.out.rising]; exact HE7.out⟩, HB7⟩
        case round =>
          obtain ⟨left, cnt, HRG8, HE8, HB8⟩ := hrel
          go_wp2_with (at_next; refine wpList_next_ranges _ rfl _ rfl 9 e_law9 (plainElem (H := Unit) Try.prog 9) Value.string Value.string (fun key kl hk => by obtain ⟨x, hx, _⟩ := str_key hk; exact ⟨x, hx⟩) (fun v y hv => by obtain ⟨s, hs, _⟩ := plainElem_string_inv Try.underlying9 hv; exact ⟨s, hs⟩) ml r 12 _ _ _ rfl HRG8.out ?_ ?_)
          · intro hc0 hl0
            have HE9 := Aside0.mk (show EnvIs _ g m1 m2 (SL []) from by have h := HE8.out; rw [leftOn_end hl0] at h; exact h)
            clear hc0 hl0
            go_wp2_with fail
            refine (env_Vars g m1 m2 (SL []) _ HE9.out).mono ?_
            rintro e w9 ⟨v, rfl, hv, hb9⟩
            obtain ⟨A9, c9, he9, _, _⟩ := Kd.R_reads hv
            rw [show (SL []).vars.length = 1 from rfl] at he9
            subst he9
            have HE10 := Aside0.mk (HE9.out.below hb9)
            have HB10 := Aside0.mk (HB8.out.trans (hb9.mono HB8.out.size))
            clear hb9 hv
            go_wp2_with fail
            refine (run_unset_one g m1 m2 gw (SL []) w9 HE10.out).mono ?_
            rintro e w11 ⟨rfl, hc⟩
            have HB11 := Aside0.mk (below_chg HB10.out hc (fun k hk => by rw [hk]; exact HM.out.2.1))
            clear hc
            go_wp2_with fail
            refine (awake16 _).mono ?_
            rintro e w12 ⟨rfl, hb⟩
            have HB12 := Aside0.mk (HB11.out.trans (hb.mono HB11.out.size))
            clear hb
            go_wp2_with fail
            go_ret
            exact ⟨rfl, HB12.out⟩
          · intro x cv kl yd yp w8 cnt8 hkey hlk hvv hat hrg8 hlt8 hg8 hs8 hen
            obtain ⟨x', ex, e2⟩ := str_key hkey
            injection ex with ex
            subst ex e2
            obtain ⟨cv', ec, ey, _⟩ := plainElem_string_inv Try.underlying9 hvv
            injection ec with ec
            subst ec
            injection ey with ey _
            subst ey
            have hm := entry_of (L := L) (s := x) (c := cv) hat
            obtain ⟨k0, k1, k2, k3⟩ := key_facts HOK.out hm
            have HK1 := Aside0.mk k1
            have HK2 := Aside0.mk k2
            have HK3 := Aside0.mk k3
            have HGET := Aside0.mk (SL_get k2 k0 (leftOn_get HOK.out.rising hm hlk))
            have hch : Chg (fun k => k = r) _ w8 := (Chg.refl (fun k => k = r) _).grown hg8 (fun k hk => .inl (Option.some.inj hk).symm)
            have HE9 := Aside0.mk (HE8.out.chg hch (by have := HRL.out; omega) (by have := HRL.out; omega) (by have := HRL.out; omega) (fun k hk => by rw [hk]; exact iter_notRow HRG8.out _))
            have HB9 := Aside0.mk (below_chg HB8.out hch (fun k hk => by rw [hk]; exact HWR.out))
            have HRG9 := Aside0.mk hrg8
            have HLT := Aside0.mk hlt8
            clear k0 k1 k2 k3 hm hkey hlk hvv hat hrg8 hlt8 hg8 hs8 hch
            go_wp2_with fail
            refine (env_Get g m1 m2 _ x cv true _ (by have := HK3.out; omega) HE9.out HGET.out).mono ?_
            rintro e w10 ⟨rfl, hd⟩
            have HE10 := Aside0.mk (HE9.out.drawn hd)
            have HB10 := Aside0.mk (HB9.out.trans (hd.below.mono HB9.out.size))
            have HRG10 := Aside0.mk (ranges_chg HRG9.out (Chg.of_drawn hd none_) (fun h => h) (fun h => h))
            clear hd hen
            go_wp2_with fail
            refine (run_unset_name g m1 m2 gw (leftOn left L) x w10 (by have := HK3.out; omega) HK2.out HK1.out HE10.out).mono ?_
            rintro e w11 ⟨rfl, he11, hc⟩
            rw [leftOn_del] at he11
            have HE11 := Aside0.mk he11
            have HB11 := Aside0.mk (below_chg HB10.out hc (fun k hk => by rw [hk]; exact HM.out.2.1))
            have HRG11 := Aside0.mk (ranges_chg HRG10.out hc (fun h => HML.out h.symm) (by have := HRL.out; omega))
            clear hc he11
            go_wp2_with fail
            go_roundw
            case rel => exact ⟨_, _, HRG11, HE11, HB11⟩
            case measure => rw [HRG11.out.left_eq, HRG8.out.left_eq]; exact HLT.out
      · have hbx : Below w4.heap.size w4 (w4.alloc (.cells #[.int .i64 2, .string ⟨#[]⟩, .int .i64 0, .int .i64 0, .int .i64 0] 35)) := (Below.refl _ _).alloc (Nat.le_refl _) _
        have HE5 := Aside0.mk (HE4.out.below hbx)
        have HB5 := Aside0.mk (HB4.out.trans (hbx.mono HB4.out.size))
        have HMP5 := Aside0.mk ((Chg.of_below hbx none_).map HMP4.out (fun h => h))
        clear hbx
        refine (env_Vars g m1 m2 (SL L) _ HE5.out).mono ?_
        rintro e w6 ⟨v, rfl, hv, hb6⟩
        obtain ⟨A6, c6, he6, _, _⟩ := Kd.R_reads hv
        obtain ⟨nl, hnl⟩ : ∃ nl, L.length = nl := ⟨_, rfl⟩
        rw [show (SL L).vars.length = L.length + 1 from rfl, hnl] at he6
        subst he6
        have HE6 := Aside0.mk (HE5.out.below hb6)
        have HB6 := Aside0.mk (HB5.out.trans (hb6.mono HB5.out.size))
        have HMP6 := Aside0.mk ((Chg.of_below hb6 none_).map HMP5.out (fun h => h))
        have hlen := fun ty => HMP6.out.len Try.underlying100 ty
        rw [tab_size, hnl] at hlen
        have hnl12 : (nl : Int) ≤ 12 := by have := HMP6.out.size_le; rw [tab_size, hnl] at this; omega
        clear hb6 hv hnl
        go_wp2_with (at_range; refine wpList_range_own _ rfl _ 100 rfl 9 9 e_law9 Try.underlying100 _ ml 12 (tab encS L) rfl HMP6.out ?_; intro w7 hrg0 hg0 hs0)
        have hb7 : Below w6.heap.size w6 w7 := (Below.refl _ _).grown hg0 (Nat.le_refl _) (fun j hj => by cases hj)
        have HE7 := Aside0.mk (HE6.out.below hb7)
        have HB7 := Aside0.mk (HB6.out.trans (hb7.mono HB6.out.size))
        have HRG := Aside0.mk hrg0
        have HRL := Aside0.mk (show g < w6.heap.size ∧ m1 < w6.heap.size ∧ m2 < w6.heap.size from HE6.out.lt)
        have HML := Aside0.mk (show m1 ≠ ml from by have := HL0.out; have := HMM.out.1; omega)
        have HWR := Aside0.mk (show w.heap.size ≤ w6.heap.size from HB6.out.size)
        clear hb7 hg0 hs0 hrg0 hlen
        generalize hrr : w6.heap.size = r at HRG HRL HWR ⊢
        clear hrr
        go_frame
        go_loopw [15] (fun _ wr => ∃ (left : Lit → Bool) (cnt : Nat), Aside0 (wr.ranges Try.prog 9 (plainElem (H := Unit) Try.prog 9) ml r 12 (tab encS L) left cnt) ∧ Aside0 (EnvIs wr g m1 m2 (SL (leftOn left L))) ∧ Aside0 (Below w.heap.size w wr)) (fun _ wr => wr.rangeLeft ml r)
        case atStart => exact ⟨_, _, HRG, ⟨by rw [leftOn_has HOK.out.rising]; exact HE7.out⟩, HB7⟩
        case round =>
          obtain ⟨left, cnt, HRG8, HE8, HB8⟩ := hrel
          go_wp2_with (at_next; refine wpList_next_ranges _ rfl _ rfl 9 e_law9 (plainElem (H := Unit) Try.prog 9) Value.string Value.string (fun key kl hk => by obtain ⟨x, hx, _⟩ := str_key hk; exact ⟨x, hx⟩) (fun v y hv => by obtain ⟨s, hs, _⟩ := plainElem_string_inv Try.underlying9 hv; exact ⟨s, hs⟩) ml r 12 _ _ _ rfl HRG8.out ?_ ?_)
          · intro hc0 hl0
            have HE9 := Aside0.mk (show EnvIs _ g m1 m2 (SL []) from by have h := HE8.out; rw [leftOn_end hl0] at h; exact h)
            clear hc0 hl0
            go_wp2_with fail
            refine (env_Vars g m1 m2 (SL []) _ HE9.out).mono ?_
            rintro e w9 ⟨v, rfl, hv, hb9⟩
            obtain ⟨A9, c9, he9, _, _⟩ := Kd.R_reads hv
            rw [show (SL []).vars.length = 1 from rfl] at he9
            subst he9
            have HE10 := Aside0.mk (HE9.out.below hb9)
            have HB10 := Aside0.mk (HB8.out.trans (hb9.mono HB8.out.size))
            clear hb9 hv
            go_wp2_with fail
            refine (run_unset_one g m1 m2 gw (SL []) w9 HE10.out).mono ?_
            rintro e w11 ⟨rfl, hc⟩
            have HB11 := Aside0.mk (below_chg HB10.out hc (fun k hk => by rw [hk]; exact HM.out.2.1))
            clear hc
            go_wp2_with fail
            refine (awake16 _).mono ?_
            rintro e w12 ⟨rfl, hb⟩
            have HB12 := Aside0.mk (HB11.out.trans (hb.mono HB11.out.size))
            clear hb
            go_wp2_with fail
            go_ret
            exact ⟨rfl, HB12.out⟩
          · intro x cv kl yd yp w8 cnt8 hkey hlk hvv hat hrg8 hlt8 hg8 hs8 hen
            obtain ⟨x', ex, e2⟩ := str_key hkey
            injection ex with ex
            subst ex e2
            obtain ⟨cv', ec, ey, _⟩ := plainElem_string_inv Try.underlying9 hvv
            injection ec with ec
            subst ec
            injection ey with ey _
            subst ey
            have hm := entry_of (L := L) (s := x) (c := cv) hat
            obtain ⟨k0, k1, k2, k3⟩ := key_facts HOK.out hm
            have HK1 := Aside0.mk k1
            have HK2 := Aside0.mk k2
            have HK3 := Aside0.mk k3
            have HGET := Aside0.mk (SL_get k2 k0 (leftOn_get HOK.out.rising hm hlk))
            have hch : Chg (fun k => k = r) _ w8 := (Chg.refl (fun k => k = r) _).grown hg8 (fun k hk => .inl (Option.some.inj hk).symm)
            have HE9 := Aside0.mk (HE8.out.chg hch (by have := HRL.out; omega) (by have := HRL.out; omega) (by have := HRL.out; omega) (fun k hk => by rw [hk]; exact iter_notRow HRG8.out _))
            have HB9 := Aside0.mk (below_chg HB8.out hch (fun k hk => by rw [hk]; exact HWR.out))
            have HRG9 := Aside0.mk hrg8
            have HLT := Aside0.mk hlt8
            clear k0 k1 k2 k3 hm hkey hlk hvv hat hrg8 hlt8 hg8 hs8 hch
            go_wp2_with fail
            refine (env_Get g m1 m2 _ x cv true _ (by have := HK3.out; omega) HE9.out HGET.out).mono ?_
            rintro e w10 ⟨rfl, hd⟩
            have HE10 := Aside0.mk (HE9.out.drawn hd)
            have HB10 := Aside0.mk (HB9.out.trans (hd.below.mono HB9.out.size))
            have HRG10 := Aside0.mk (ranges_chg HRG9.out (Chg.of_drawn hd none_) (fun h => h) (fun h => h))
            clear hd hen
            go_wp2_with fail
            refine (run_unset_name g m1 m2 gw (leftOn left L) x w10 (by have := HK3.out; omega) HK2.out HK1.out HE10.out).mono ?_
            rintro e w11 ⟨rfl, he11, hc⟩
            rw [leftOn_del] at he11
            have HE11 := Aside0.mk he11
            have HB11 := Aside0.mk (below_chg HB10.out hc (fun k hk => by rw [hk]; exact HM.out.2.1))
            have HRG11 := Aside0.mk (ranges_chg HRG10.out hc (fun h => HML.out h.symm) (by have := HRL.out; omega))
            clear hc he11
            go_wp2_with fail
            go_roundw
            case rel => exact ⟨_, _, HRG11, HE11, HB11⟩
            case measure => rw [HRG11.out.left_eq, HRG8.out.left_eq]; exact HLT.out
      · have hbx : Below w4.heap.size w4 (w4.alloc (.cells #[.int .i64 0, .string ⟨#[]⟩, .int .i64 0, .int .i64 0, .int .i64 0] 35)) := (Below.refl _ _).alloc (Nat.le_refl _) _
        have HE5 := Aside0.mk (HE4.out.below hbx)
        have HB5 := Aside0.mk (HB4.out.trans (hbx.mono HB4.out.size))
        have HMP5 := Aside0.mk ((Chg.of_below hbx none_).map HMP4.out (fun h => h))
        clear hbx
        refine (env_Vars g m1 m2 (SL L) _ HE5.out).mono ?_
        rintro e w6 ⟨v, rfl, hv, hb6⟩
        obtain ⟨A6, c6, he6, _, _⟩ := Kd.R_reads hv
        obtain ⟨nl, hnl⟩ : ∃ nl, L.length = nl := ⟨_, rfl⟩
        rw [show (SL L).vars.length = L.length + 1 from rfl, hnl] at he6
        subst he6
        have HE6 := Aside0.mk (HE5.out.below hb6)
        have HB6 := Aside0.mk (HB5.out.trans (hb6.mono HB5.out.size))
        have HMP6 := Aside0.mk ((Chg.of_below hb6 none_).map HMP5.out (fun h => h))
        have hlen := fun ty => HMP6.out.len Try.underlying100 ty
        rw [tab_size, hnl] at hlen
        have hnl12 : (nl : Int) ≤ 12 := by have := HMP6.out.size_le; rw [tab_size, hnl] at this; omega
        clear hb6 hv hnl
        go_wp2_with (at_range; refine wpList_range_own _ rfl _ 100 rfl 9 9 e_law9 Try.underlying100 _ ml 12 (tab encS L) rfl HMP6.out ?_; intro w7 hrg0 hg0 hs0)
        have hb7 : Below w6.heap.size w6 w7 := (Below.refl _ _).grown hg0 (Nat.le_refl _) (fun j hj => by cases hj)
        have HE7 := Aside0.mk (HE6.out.below hb7)
        have HB7 := Aside0.mk (HB6.out.trans (hb7.mono HB6.out.size))
        have HRG := Aside0.mk hrg0
        have HRL := Aside0.mk (show g < w6.heap.size ∧ m1 < w6.heap.size ∧ m2 < w6.heap.size from HE6.out.lt)
        have HML := Aside0.mk (show m1 ≠ ml from by have := HL0.out; have := HMM.out.1; omega)
        have HWR := Aside0.mk (show w.heap.size ≤ w6.heap.size from HB6.out.size)
        clear hb7 hg0 hs0 hrg0 hlen
        generalize hrr : w6.heap.size = r at HRG HRL HWR ⊢
        clear hrr
        go_frame
        go_loopw [15] (fun _ wr => ∃ (left : Lit → Bool) (cnt : Nat), Aside0 (wr.ranges Try.prog 9 (plainElem (H := Unit) Try.prog 9) ml r 12 (tab encS L) left cnt) ∧ Aside0 (EnvIs wr g m1 m2 (SL (leftOn left L))) ∧ Aside0 (Below w.heap.size w wr)) (fun _ wr => wr.rangeLeft ml r)
        case atStart => exact ⟨_, _, HRG, ⟨by rw [leftOn_has HOK.out.rising]; exact HE7.out⟩, HB7⟩
        case round =>
          obtain ⟨left, cnt, HRG8, HE8, HB8⟩ := hrel
          go_wp2_with (at_next; refine wpList_next_ranges _ rfl _ rfl 9 e_law9 (plainElem (H := Unit) Try.prog 9) Value.string Value.string (fun key kl hk => by obtain ⟨x, hx, _⟩ := str_key hk; exact ⟨x, hx⟩) (fun v y hv => by obtain ⟨s, hs, _⟩ := plainElem_string_inv Try.underlying9 hv; exact ⟨s, hs⟩) ml r 12 _ _ _ rfl HRG8.out ?_ ?_)
          · intro hc0 hl0
            have HE9 := Aside0.mk (show EnvIs _ g m1 m2 (SL []) from by have h := HE8.out; rw [leftOn_end hl0] at h; exact h)
            clear hc0 hl0
            go_wp2_with fail
            refine (env_Vars g m1 m2 (SL []) _ HE9.out).mono ?_
            rintro e w9 ⟨v, rfl, hv, hb9⟩
            obtain ⟨A9, c9, he9, _, _⟩ := Kd.R_reads hv
            rw [show (SL []).vars.length = 1 from rfl] at he9
            subst he9
            have HE10 := Aside0.mk (HE9.out.below hb9)
            have HB10 := Aside0.mk (HB8.out.trans (hb9.mono HB8.out.size))
            clear hb9 hv
            go_wp2_with fail
            refine (run_unset_one g m1 m2 gw (SL []) w9 HE10.out).mono ?_
            rintro e w11 ⟨rfl, hc⟩
            have HB11 := Aside0.mk (below_chg HB10.out hc (fun k hk => by rw [hk]; exact HM.out.2.1))
            clear hc
            go_wp2_with fail
            refine (awake16 _).mono ?_
            rintro e w12 ⟨rfl, hb⟩
            have HB12 := Aside0.mk (HB11.out.trans (hb.mono HB11.out.size))
            clear hb
            go_wp2_with fail
            go_ret
            exact ⟨rfl, HB12.out⟩
          · intro x cv kl yd yp w8 cnt8 hkey hlk hvv hat hrg8 hlt8 hg8 hs8 hen
            obtain ⟨x', ex, e2⟩ := str_key hkey
            injection ex with ex
            subst ex e2
            obtain ⟨cv', ec, ey, _⟩ := plainElem_string_inv Try.underlying9 hvv
            injection ec with ec
            subst ec
            injection ey with ey _
            subst ey
            have hm := entry_of (L := L) (s := x) (c := cv) hat
            obtain ⟨k0, k1, k2, k3⟩ := key_facts HOK.out hm
            have HK1 := Aside0.mk k1
            have HK2 := Aside0.mk k2
            have HK3 := Aside0.mk k3
            have HGET := Aside0.mk (SL_get k2 k0 (leftOn_get HOK.out.rising hm hlk))
            have hch : Chg (fun k => k = r) _ w8 := (Chg.refl (fun k => k = r) _).grown hg8 (fun k hk => .inl (Option.some.inj hk).symm)
            have HE9 := Aside0.mk (HE8.out.chg hch (by have := HRL.out; omega) (by have := HRL.out; omega) (by have := HRL.out; omega) (fun k hk => by rw [hk]; exact iter_notRow HRG8.out _))
            have HB9 := Aside0.mk (below_chg HB8.out hch (fun k hk => by rw [hk]; exact HWR.out))
            have HRG9 := Aside0.mk hrg8
            have HLT := Aside0.mk hlt8
            clear k0 k1 k2 k3 hm hkey hlk hvv hat hrg8 hlt8 hg8 hs8 hch
            go_wp2_with fail
            refine (env_Get g m1 m2 _ x cv true _ (by have := HK3.out; omega) HE9.out HGET.out).mono ?_
            rintro e w10 ⟨rfl, hd⟩
            have HE10 := Aside0.mk (HE9.out.drawn hd)
            have HB10 := Aside0.mk (HB9.out.trans (hd.below.mono HB9.out.size))
            have HRG10 := Aside0.mk (ranges_chg HRG9.out (Chg.of_drawn hd none_) (fun h => h) (fun h => h))
            clear hd hen
            go_wp2_with fail
            refine (run_unset_name g m1 m2 gw (leftOn left L) x w10 (by have := HK3.out; omega) HK2.out HK1.out HE10.out).mono ?_
            rintro e w11 ⟨rfl, he11, hc⟩
            rw [leftOn_del] at he11
            have HE11 := Aside0.mk he11
            have HB11 := Aside0.mk (below_chg HB10.out hc (fun k hk => by rw [hk]; exact HM.out.2.1))
            have HRG11 := Aside0.mk (ranges_chg HRG10.out hc (fun h => HML.out h.symm) (by have := HRL.out; omega))
            clear hc he11
            go_wp2_with fail
            go_roundw
            case rel => exact ⟨_, _, HRG11, HE11, HB11⟩
            case measure => rw [HRG11.out.left_eq, HRG8.out.left_eq]; exact HLT.out
      · have hbx : Below w4.heap.size w4 (w4.alloc (.cells #[.int .i64 0, .string ⟨#[]⟩, .int .i64 0, .int .i64 0, .int .i64 0] 35)) := (Below.refl _ _).alloc (Nat.le_refl _) _
        have HE5 := Aside0.mk (HE4.out.below hbx)
        have HB5 := Aside0.mk (HB4.out.trans (hbx.mono HB4.out.size))
        have HMP5 := Aside0.mk ((Chg.of_below hbx none_).map HMP4.out (fun h => h))
        clear hbx
        refine (env_Vars g m1 m2 (SL L) _ HE5.out).mono ?_
        rintro e w6 ⟨v, rfl, hv, hb6⟩
        obtain ⟨A6, c6, he6, _, _⟩ := Kd.R_reads hv
        obtain ⟨nl, hnl⟩ : ∃ nl, L.length = nl := ⟨_, rfl⟩
        rw [show (SL L).vars.length = L.length + 1 from rfl, hnl] at he6
        subst he6
        have HE6 := Aside0.mk (HE5.out.below hb6)
        have HB6 := Aside0.mk (HB5.out.trans (hb6.mono HB5.out.size))
        have HMP6 := Aside0.mk ((Chg.of_below hb6 none_).map HMP5.out (fun h => h))
        have hlen := fun ty => HMP6.out.len Try.underlying100 ty
        rw [tab_size, hnl] at hlen
        have hnl12 : (nl : Int) ≤ 12 := by have := HMP6.out.size_le; rw [tab_size, hnl] at this; omega
        clear hb6 hv hnl
        go_wp2_with (at_range; refine wpList_range_own _ rfl _ 100 rfl 9 9 e_law9 Try.underlying100 _ ml 12 (tab encS L) rfl HMP6.out ?_; intro w7 hrg0 hg0 hs0)
        have hb7 : Below w6.heap.size w6 w7 := (Below.refl _ _).grown hg0 (Nat.le_refl _) (fun j hj => by cases hj)
        have HE7 := Aside0.mk (HE6.out.below hb7)
        have HB7 := Aside0.mk (HB6.out.trans (hb7.mono HB6.out.size))
        have HRG := Aside0.mk hrg0
        have HRL := Aside0.mk (show g < w6.heap.size ∧ m1 < w6.heap.size ∧ m2 < w6.heap.size from HE6.out.lt)
        have HML := Aside0.mk (show m1 ≠ ml from by have := HL0.out; have := HMM.out.1; omega)
        have HWR := Aside0.mk (show w.heap.size ≤ w6.heap.size from HB6.out.size)
        clear hb7 hg0 hs0 hrg0 hlen
        generalize hrr : w6.heap.size = r at HRG HRL HWR ⊢
        clear hrr
        go_frame
        go_loopw [15] (fun _ wr => ∃ (left : Lit → Bool) (cnt : Nat), Aside0 (wr.ranges Try.prog 9 (plainElem (H := Unit) Try.prog 9) ml r 12 (tab encS L) left cnt) ∧ Aside0 (EnvIs wr g m1 m2 (SL (leftOn left L))) ∧ Aside0 (Below w.heap.size w wr)) (fun _ wr => wr.rangeLeft ml r)
        case atStart => exact ⟨_, _, HRG, ⟨by rw [leftOn_has HOK.out.rising]; exact HE7.out⟩, HB7⟩
        case round =>
          obtain ⟨left, cnt, HRG8, HE8, HB8⟩ := hrel
          go_wp2_with (at_next; refine wpList_next_ranges _ rfl _ rfl 9 e_law9 (plainElem (H := Unit) Try.prog 9) Value.string Value.string (fun key kl hk => by obtain ⟨x, hx, _⟩ := str_key hk; exact ⟨x, hx⟩) (fun v y hv => by obtain ⟨s, hs, _⟩ := plainElem_string_inv Try.underlying9 hv; exact ⟨s, hs⟩) ml r 12 _ _ _ rfl HRG8.out ?_ ?_)
          · intro hc0 hl0
            have HE9 := Aside0.mk (show EnvIs _ g m1 m2 (SL []) from by have h := HE8.out; rw [leftOn_end hl0] at h; exact h)
            clear hc0 hl0
            go_wp2_with fail
            refine (env_Vars g m1 m2 (SL []) _ HE9.out).mono ?_
            rintro e w9 ⟨v, rfl, hv, hb9⟩
            obtain ⟨A9, c9, he9, _, _⟩ := Kd.R_reads hv
            rw [show (SL []).vars.length = 1 from rfl] at he9
            subst he9
            have HE10 := Aside0.mk (HE9.out.below hb9)
            have HB10 := Aside0.mk (HB8.out.trans (hb9.mono HB8.out.size))
            clear hb9 hv
            go_wp2_with fail
            refine (run_unset_one g m1 m2 gw (SL []) w9 HE10.out).mono ?_
            rintro e w11 ⟨rfl, hc⟩
            have HB11 := Aside0.mk (below_chg HB10.out hc (fun k hk => by rw [hk]; exact HM.out.2.1))
            clear hc
            go_wp2_with fail
            refine (awake16 _).mono ?_
            rintro e w12 ⟨rfl, hb⟩
            have HB12 := Aside0.mk (HB11.out.trans (hb.mono HB11.out.size))
            clear hb
            go_wp2_with fail
            go_ret
            exact ⟨rfl, HB12.out⟩
          · intro x cv kl yd yp w8 cnt8 hkey hlk hvv hat hrg8 hlt8 hg8 hs8 hen
            obtain ⟨x', ex, e2⟩ := str_key hkey
            injection ex with ex
            subst ex e2
            obtain ⟨cv', ec, ey, _⟩ := plainElem_string_inv Try.underlying9 hvv
            injection ec with ec
            subst ec
            injection ey with ey _
            subst ey
            have hm := entry_of (L := L) (s := x) (c := cv) hat
            obtain ⟨k0, k1, k2, k3⟩ := key_facts HOK.out hm
            have HK1 := Aside0.mk k1
            have HK2 := Aside0.mk k2
            have HK3 := Aside0.mk k3
            have HGET := Aside0.mk (SL_get k2 k0 (leftOn_get HOK.out.rising hm hlk))
            have hch : Chg (fun k => k = r) _ w8 := (Chg.refl (fun k => k = r) _).grown hg8 (fun k hk => .inl (Option.some.inj hk).symm)
            have HE9 := Aside0.mk (HE8.out.chg hch (by have := HRL.out; omega) (by have := HRL.out; omega) (by have := HRL.out; omega) (fun k hk => by rw [hk]; exact iter_notRow HRG8.out _))
            have HB9 := Aside0.mk (below_chg HB8.out hch (fun k hk => by rw [hk]; exact HWR.out))
            have HRG9 := Aside0.mk hrg8
            have HLT := Aside0.mk hlt8
            clear k0 k1 k2 k3 hm hkey hlk hvv hat hrg8 hlt8 hg8 hs8 hch
            go_wp2_with fail
            refine (env_Get g m1 m2 _ x cv true _ (by have := HK3.out; omega) HE9.out HGET.out).mono ?_
            rintro e w10 ⟨rfl, hd⟩
            have HE10 := Aside0.mk (HE9.out.drawn hd)
            have HB10 := Aside0.mk (HB9.out.trans (hd.below.mono HB9.out.size))
            have HRG10 := Aside0.mk (ranges_chg HRG9.out (Chg.of_drawn hd none_) (fun h => h) (fun h => h))
            clear hd hen
            go_wp2_with fail
            refine (run_unset_name g m1 m2 gw (leftOn left L) x w10 (by have := HK3.out; omega) HK2.out HK1.out HE10.out).mono ?_
            rintro e w11 ⟨rfl, he11, hc⟩
            rw [leftOn_del] at he11
            have HE11 := Aside0.mk he11
            have HB11 := Aside0.mk (below_chg HB10.out hc (fun k hk => by rw [hk]; exact HM.out.2.1))
            have HRG11 := Aside0.mk (ranges_chg HRG10.out hc (fun h => HML.out h.symm) (by have := HRL.out; omega))
            clear hc he11
            go_wp2_with fail
            go_roundw
            case rel => exact ⟨_, _, HRG11, HE11, HB11⟩
            case measure => rw [HRG11.out.left_eq, HRG8.out.left_eq]; exact HLT.out
end Go.Proofs.Ytfdjbjinomfgiaa
