/- The law of variables: its walk. For every row of variables, of args and of calls it returns true, and nothing that was there is changed. -/
import Derived.Test.YtfdjbjinomfgiaaPlaysC
namespace Go.Proofs.Ytfdjbjinomfgiaa
open Go.RowKit Go.Maps Go.Proofs.YtfdjbjinomfgiaaW.PrintWords Go.Proofs.YtfdjbjinomfgiaaW.PrintLast Go.Proofs.YtfdjbjinomfgiaaW.PrintMore
set_option linter.unusedSimpArgs false
set_option linter.unusedVariables false

abbrev OpR := Int × ByteArray × ByteArray × List ByteArray × Int × Bool
abbrev OpK : Kd OpR := Kd.pair (Kd.int .i64) (Kd.pair Kd.string (Kd.pair Kd.string (Kd.pair (Kd.slice 9 Kd.string) (Kd.pair (Kd.int .u8) Kd.bool))))
def opZ : OpR := (0, ByteArray.empty, ByteArray.empty, [], 0, false)
theorem op_at {w : World} {A : Option Addr} {n : Nat} {xs : List OpR} (h : Kd.C OpK w A n xs) {k : Nat} (hk : k < n) : ∃ ad A3 c3, A = some ad ∧ (xs.getD k opZ).2.2.2.1.length ≤ c3 ∧ Kd.C Kd.string w A3 (xs.getD k opZ).2.2.2.1.length (xs.getD k opZ).2.2.2.1 ∧
    w.cell? (ad.add (k * 6)) = some (.int .i64 (xs.getD k opZ).1) ∧ w.cell? ⟨(ad.add (k * 6)).block, (ad.add (k * 6)).off + 1, none⟩ = some (.string (xs.getD k opZ).2.1) ∧ w.cell? ⟨(ad.add (k * 6)).block, (ad.add (k * 6)).off + 2, none⟩ = some (.string (xs.getD k opZ).2.2.1) ∧
    w.cell? ⟨(ad.add (k * 6)).block, (ad.add (k * 6)).off + 3, none⟩ = some (.slice A3 (xs.getD k opZ).2.2.2.1.length c3) ∧ w.cell? ⟨(ad.add (k * 6)).block, (ad.add (k * 6)).off + 4, none⟩ = some (.int .u8 (xs.getD k opZ).2.2.2.2.1) ∧ w.cell? ⟨(ad.add (k * 6)).block, (ad.add (k * 6)).off + 5, none⟩ = some (.bool (xs.getD k opZ).2.2.2.2.2) := by
  obtain ⟨ad, c, e, _, hK, hc0⟩ := Kd.C_get h opZ (k : Int) (by omega) (by omega)
  have hc : ∀ j u, c[j]? = some u → w.cell? (ad.add (k * 6 + j)) = some u := hc0
  rw [Int.toNat_natCast] at hK
  obtain ⟨_, _, rfl, rfl, _, _, rfl, rfl, _, _, rfl, rfl, _, _, rfl, ⟨A3, c3, rfl, hl, hC⟩, _, _, rfl, rfl, rfl⟩ := hK
  exact ⟨ad, A3, c3, e, hl, hC, hc 0 _ rfl, by rw [← add_field _ _ 1 (by omega)]; exact hc 1 _ rfl, by rw [← add_field _ _ 2 (by omega)]; exact hc 2 _ rfl, by rw [← add_field _ _ 3 (by omega)]; exact hc 3 _ rfl, by rw [← add_field _ _ 4 (by omega)]; exact hc 4 _ rfl, by rw [← add_field _ _ 5 (by omega)]; exact hc 5 _ rfl⟩

theorem EnvIs.notG {w : World} {g m1 m2 : Nat} {S : EnvS} (h : EnvIs w g m1 m2 S) {e : Nat} (he : 106 ≠ e) : NotRow w e g := by
  obtain ⟨⟨v, hb, _⟩, _⟩ := h
  exact cells_notRow hb he
theorem RenIs.notG {w : World} {g : Nat} {S : EnvS} (h : RenIs w g S) {e : Nat} (he : 53 ≠ e) : NotRow w e g := by
  obtain ⟨⟨v, v2, hb, _⟩, _⟩ := h
  exact cells_notRow hb he
theorem env_ren_ne {w : World} {g m1 m2 g2 : Nat} {S S2 : EnvS} (h : EnvIs w g m1 m2 S) (h2 : RenIs w g2 S2) : g2 ≠ g ∧ g2 ≠ m1 ∧ g2 ≠ m2 := by
  obtain ⟨⟨v, v2, hb, _⟩, _⟩ := id h2
  refine ⟨fun e => ?_, fun e => ?_, fun e => ?_⟩
  · subst e; exact h.notG (by decide) _ hb
  · subst e; exact map_notRow h.vars _ _ hb
  · subst e; exact map_notRow h.flags _ _ hb
theorem RenIs.env1 {w W : World} {g m1 m2 g2 : Nat} {S S2 : EnvS} (h2 : RenIs w g2 S2) (h : EnvIs w g m1 m2 S) (hc : Chg (fun k => k = m1) w W) : RenIs W g2 S2 :=
  h2.chg hc (env_ren_ne h h2).2.1 (fun k hk => by rw [hk]; exact ⟨map_notRow h.vars _, map_notRow h.vars _⟩)
theorem RenIs.env2 {w W : World} {g m1 m2 g2 : Nat} {S S2 : EnvS} (h2 : RenIs w g2 S2) (h : EnvIs w g m1 m2 S) (hc : Chg (fun k => k = m2) w W) : RenIs W g2 S2 :=
  h2.chg hc (env_ren_ne h h2).2.2 (fun k hk => by rw [hk]; exact ⟨map_notRow h.flags _, map_notRow h.flags _⟩)
theorem RenIs.env0 {w W : World} {g m1 m2 g2 : Nat} {S S2 : EnvS} (h2 : RenIs w g2 S2) (h : EnvIs w g m1 m2 S) (hc : Chg (fun k => k = g) w W) : RenIs W g2 S2 :=
  h2.chg hc (env_ren_ne h h2).1 (fun k hk => by rw [hk]; exact ⟨h.notG (by decide), h.notG (by decide)⟩)
theorem EnvIs.ren {w W : World} {g m1 m2 g2 : Nat} {S S2 : EnvS} (h : EnvIs w g m1 m2 S) (h2 : RenIs w g2 S2) (hc : Chg (fun k => k = g2) w W) : EnvIs W g m1 m2 S :=
  h.chg hc (fun e => (env_ren_ne h h2).1 e.symm) (fun e => (env_ren_ne h h2).2.1 e.symm) (fun e => (env_ren_ne h h2).2.2 e.symm) (fun k hk => by rw [hk]; exact h2.notG (by decide))
theorem EnvIs.lt {w : World} {g m1 m2 : Nat} {S : EnvS} (h : EnvIs w g m1 m2 S) : g < w.heap.size ∧ m1 < w.heap.size ∧ m2 < w.heap.size := by
  obtain ⟨⟨v, hb, _⟩, hv, hf, _⟩ := h
  exact ⟨blk_lt' hb, hv.lt, hf.lt⟩
/-- Another environment, all of it apart. -/
structure Apart (g m1 m2 g' n1 n2 : Nat) : Prop where
  h0 : g' ≠ g
  h1 : n1 ≠ m1
  h2 : n1 ≠ m2
  h3 : n2 ≠ m1
  h4 : n2 ≠ m2
theorem EnvIs.env1 {w W : World} {g m1 m2 g' n1 n2 : Nat} {S S2 : EnvS} (h : EnvIs w g m1 m2 S) (h2 : EnvIs w g' n1 n2 S2) (ha : Apart g m1 m2 g' n1 n2) (hc : Chg (fun k => k = n1) w W) : EnvIs W g m1 m2 S := by
  obtain ⟨⟨v, hb, _⟩, _⟩ := id h
  exact h.chg hc (fun e => by subst e; exact map_notRow h2.vars _ _ hb) (fun e => ha.h1 e.symm) (fun e => ha.h2 e.symm) (fun k hk => by rw [hk]; exact map_notRow h2.vars _)
theorem EnvIs.env2 {w W : World} {g m1 m2 g' n1 n2 : Nat} {S S2 : EnvS} (h : EnvIs w g m1 m2 S) (h2 : EnvIs w g' n1 n2 S2) (ha : Apart g m1 m2 g' n1 n2) (hc : Chg (fun k => k = n2) w W) : EnvIs W g m1 m2 S := by
  obtain ⟨⟨v, hb, _⟩, _⟩ := id h
  exact h.chg hc (fun e => by subst e; exact map_notRow h2.flags _ _ hb) (fun e => ha.h3 e.symm) (fun e => ha.h4 e.symm) (fun k hk => by rw [hk]; exact map_notRow h2.flags _)
theorem EnvIs.env0 {w W : World} {g m1 m2 g' n1 n2 : Nat} {S S2 : EnvS} (h : EnvIs w g m1 m2 S) (h2 : EnvIs w g' n1 n2 S2) (ha : Apart g m1 m2 g' n1 n2) (hc : Chg (fun k => k = g') w W) : EnvIs W g m1 m2 S := by
  obtain ⟨⟨v, hb, _⟩, _⟩ := id h2
  exact h.chg hc (fun e => ha.h0 e.symm) (fun e => by subst e; exact map_notRow h.vars _ _ hb) (fun e => by subst e; exact map_notRow h.flags _ _ hb) (fun k hk => by rw [hk]; exact h2.notG (by decide))
theorem below_chg {w W W2 : World} {T : Nat → Prop} (hb : Below w.heap.size w W) (hc : Chg T W W2) (hT : ∀ k, T k → w.heap.size ≤ k) : Below w.heap.size w W2 :=
  ((Chg.of_below hb none_).then_ hc (fun k hk => .inr (hT k hk))).toBelow
theorem RenIs.storedF {w : World} {g : Nat} {S : EnvS} (h : RenIs w g S) (x : Int) (j : Nat) (on : Bool) (hx : x = 101 ∧ j = 2 ∨ x = 102 ∧ j = 3 ∨ x = 117 ∧ j = 4) : RenIs (w.setCell ⟨g, j, none⟩ (.bool on)) g { S with flag := flagPut S.flag x on } := by
  obtain ⟨⟨v1, v2, hb, h1, h2⟩, ho⟩ := h
  have hon : onB (some on) = on := by cases on <;> rfl
  refine ⟨⟨v1, v2, ?_, Kd.R_set h1 hb (fun q hq => by rw [varK_E hq]; decide) j _, Kd.R_set h2 hb (fun q hq => ?_) j _⟩, ⟨ho.rising, ho.len, ho.alen, ho.names, ho.vals⟩⟩
  · rw [blk_set hb]
    rcases hx with ⟨rfl, rfl⟩ | ⟨rfl, rfl⟩ | ⟨rfl, rfl⟩ <;> simp [flagPut, hon]
  · rcases List.mem_cons.1 hq with rfl | hq
    · decide
    · cases hq
theorem C_block_lt {w : World} {ad : Addr} {n : Nat} {xs : List ByteArray} (h : Kd.C Kd.string w (some ad) n xs) (h0 : 0 < n) : ad.block < w.heap.size := by
  obtain ⟨ad', e', hx⟩ := str_at h h0
  injection e' with e'
  subst e'
  have := World.block_lt_of_cell? w _ hx
  have h2 : (ad.add 0).block = ad.block := by unfold Addr.add; split <;> rfl
  omega
theorem flagF_on {S : EnvS} {x : Int} (h : isFlag x = true) (on : Bool) : flagF S x on = { S with flag := flagPut S.flag x on } := by unfold flagF; rw [h]; rfl
theorem flagF_off {S : EnvS} {x : Int} (h : isFlag x = false) (on : Bool) : flagF S x on = S := by unfold flagF; rw [h]; rfl

set_option maxHeartbeats 8000000 in
set_option maxRecDepth 100000 in
theorem plays_walk (A : Option Addr) (c : Nat) (l : VTab) (B : Option Addr) (d : Nat) (args : List ByteArray) (O : Option Addr) (co : Nat) (ol : List OpR) (w : World) (hA : Kd.C VarK w A l.length l) (hB : Kd.C Kd.string w B args.length args) (hO : Kd.C OpK w O ol.length ol) (hlc : l.length ≤ c) (hld : args.length ≤ d) (hlo : ol.length ≤ co) (hfl : ∀ o ∈ ol, 0 ≤ o.2.2.2.2.1 ∧ o.2.2.2.2.1 ≤ 255) :
    Calls Try.prog 4 #[.slice A l.length c, .slice B args.length d, .slice O ol.length co] w fun e w' => e = .returned (.bool true) ∧ Below w.heap.size w w' := by
  have HA := Aside0.mk hA
  have HB := Aside0.mk hB
  have HO := Aside0.mk hO
  have HFL := Aside0.mk hfl
  have hmo : (ol.length : Int) ≤ 9223372036854775807 := by have := hO.2.1; omega
  clear hA hB hO hfl
  obtain ⟨b, hb⟩ : ∃ b, shortB l args = b := ⟨_, rfl⟩
  have HSH := Aside0.mk hb
  clear hb
  cases b with
  | false =>
    go_enter Try.func4, Try.ntmps4
    go_wp2_with fail
    refine (law_Short A c l B d args false _ HA.out HB.out hlc hld HSH.out).mono ?_
    rintro e w ⟨rfl, rfl⟩
    go_wp2_with fail
    refine (awake13 _).mono ?_
    rintro e w1 ⟨rfl, hb⟩
    have HB1 := Aside0.mk hb
    clear hb
    go_wp2_with fail
    go_ret
    exact ⟨rfl, HB1.out⟩
  | true =>
    go_enter Try.func4, Try.ntmps4
    go_wp2_with fail
    refine (law_Short A c l B d args true _ HA.out HB.out hlc hld HSH.out).mono ?_
    rintro e w ⟨rfl, rfl⟩
    go_wp2_with fail
    refine (env_New A c l B d args _ HA.out HB.out hlc hld (shortB_vars HSH.out) (shortB_args HSH.out)).mono ?_
    rintro e w1 ⟨g, m1, m2, rfl, he1, hb1, hg, hm1, hm2⟩
    have HE1 := Aside0.mk he1
    have HB1 := Aside0.mk hb1
    have HG := Aside0.mk hg
    have HM1 := Aside0.mk hm1
    have HM2 := Aside0.mk hm2
    clear he1 hb1 hg hm1 hm2
    go_wp2_with fail
    refine (ren_New A c l B d args _ (Kd.C_below HA.out HB1.out) (Kd.C_below HB.out HB1.out) hlc hld (shortB_vars HSH.out) (shortB_args HSH.out)).mono ?_
    rintro e w2 ⟨g2, rfl, hr2, hb2, hg2⟩
    have HE2 := Aside0.mk (HE1.out.below hb2)
    have HN2 := Aside0.mk hr2
    have HB2 := Aside0.mk (HB1.out.trans (hb2.mono HB1.out.size))
    have HG2 := Aside0.mk (Nat.le_trans HB1.out.size hg2)
    clear hr2 hb2 hg2
    generalize newF l args = S0 at HE2 HN2
    go_wp2_with fail
    refine (awake13 _).mono ?_
    rintro e w3 ⟨rfl, hb⟩
    have HE3 := Aside0.mk (HE2.out.below hb)
    have HN3 := Aside0.mk (HN2.out.below hb)
    have HB3 := Aside0.mk (HB2.out.trans (hb.mono HB2.out.size))
    clear hb
    go_wp2_with fail
    refine (law_Same g m1 m2 g2 S0 _ HE3.out HN3.out).mono ?_
    rintro e w4 ⟨rfl, hb⟩
    have HE4 := Aside0.mk (HE3.out.below hb)
    have HN4 := Aside0.mk (HN3.out.below hb)
    have HB4 := Aside0.mk (HB3.out.trans (hb.mono HB3.out.size))
    clear hb
    go_wp2_with fail
    go_loopw [9] (fun i wr => ∃ (k : Nat) (S : EnvS), k ≤ ol.length ∧ k ≤ 60 ∧ i = .int .i64 k ∧ Aside0 (EnvIs wr g m1 m2 S) ∧ Aside0 (RenIs wr g2 S) ∧ Aside0 (Below w.heap.size w wr)) (fun i _ => 60 - (intOf i).toNat)
    case atStart => exact ⟨0, S0, Nat.zero_le _, Nat.zero_le _, rfl, HE4, HN4, HB4⟩
    case round =>
      obtain ⟨k, S, hk, hk60, rfl, HE, HN, HBW⟩ := hrel
      by_cases hlt : k < ol.length ∧ k < 60
      · obtain ⟨hl1, hl2⟩ := hlt
        obtain ⟨ad, A3, c3, e, hl3, hC3, hx0, hx1, hx2, hx3, hx4, hx5⟩ := op_at HO.out hl1
        subst e
        have HFK := Aside0.mk (HFL.out _ (getD_mem' hl1 opZ))
        have hlt1 : (k : Int) < (ol.length : Int) := by omega
        have hlt2 : (k : Int) < 60 := by omega
        have hlo' : (ol.length : Int) ≤ (co : Int) := by omega
        have HL1 := Aside0.mk hl1
        have HL2 := Aside0.mk hl2
        generalize ol.getD k opZ = o at *
        obtain ⟨kd, nm, v, ar, x, on⟩ := o
        dsimp only at hl3 hC3 hx0 hx1 hx2 hx3 hx4 hx5 HFK
        have HL3 := Aside0.mk hl3
        have HC3 := Aside0.mk hC3
        replace hx0 := (HBW.out.cell (p := ad.add (k * 6)) (World.block_lt_of_cell? w _ hx0)).trans hx0
        replace hx1 := (HBW.out.cell (p := ⟨(ad.add (k * 6)).block, (ad.add (k * 6)).off + 1, none⟩) (World.block_lt_of_cell? w _ hx1)).trans hx1
        replace hx2 := (HBW.out.cell (p := ⟨(ad.add (k * 6)).block, (ad.add (k * 6)).off + 2, none⟩) (World.block_lt_of_cell? w _ hx2)).trans hx2
        replace hx3 := (HBW.out.cell (p := ⟨(ad.add (k * 6)).block, (ad.add (k * 6)).off + 3, none⟩) (World.block_lt_of_cell? w _ hx3)).trans hx3
        replace hx4 := (HBW.out.cell (p := ⟨(ad.add (k * 6)).block, (ad.add (k * 6)).off + 4, none⟩) (World.block_lt_of_cell? w _ hx4)).trans hx4
        replace hx5 := (HBW.out.cell (p := ⟨(ad.add (k * 6)).block, (ad.add (k * 6)).off + 5, none⟩) (World.block_lt_of_cell? w _ hx5)).trans hx5
        clear hk hk60 hl1 hl2 hl3 hC3
        have hcells := heap_alloc_new wr (.cells #[.int .i64 kd, .string nm, .string v, .slice A3 ar.length c3, .int .u8 x, .bool on] 46)
        by_cases hnm : (nm.size : Int) ≤ 60
        · by_cases hv : (v.size : Int) ≤ 200
          · have HNM := Aside0.mk hnm
            have HV := Aside0.mk hv
            obtain ⟨b, hb⟩ : ∃ b, shortB [] ar = b := ⟨_, rfl⟩
            have HSB := Aside0.mk hb
            clear hb hcells
            go_wp2_with fail
            have HBK := Aside0.mk (heap_alloc_new wr (.cells #[.int .i64 kd, .string nm, .string v, .slice A3 ar.length c3, .int .u8 x, .bool on] 46))
            have hbx : Below wr.heap.size wr (wr.alloc (.cells #[.int .i64 kd, .string nm, .string v, .slice A3 ar.length c3, .int .u8 x, .bool on] 46)) := (Below.refl _ _).alloc (Nat.le_refl _) _
            have HEX := Aside0.mk (HE.out.below hbx)
            have HNX := Aside0.mk (HN.out.below hbx)
            have HBX := Aside0.mk (HBW.out.trans (hbx.mono HBW.out.size))
            clear hbx hx0 hx1 hx2 hx3 hx4 hx5
            generalize wr.heap.size = bk at HBK ⊢
            generalize wr.alloc (.cells #[.int .i64 kd, .string nm, .string v, .slice A3 ar.length c3, .int .u8 x, .bool on] 46) = wx at HBK HEX HNX HBX ⊢
            refine (law_Short none 0 [] A3 c3 ar b _ (Kd.C_nil _ _) (Kd.C_below HC3.out HBX.out) (Nat.le_refl _) HL3.out HSB.out).mono ?_
            rintro e wx ⟨rfl, rfl⟩
            cases b with
            | false =>
              go_wp2_with fail
              go_ret
              exact ⟨rfl, HBX.out⟩
            | true =>
              have hk0 := (blk_cell HBK.out 0).trans rfl
              by_cases h0 : kd = 0
              · subst h0
                have hk1 := (blk_cell HBK.out 1).trans rfl
                have hk2 := (blk_cell HBK.out 2).trans rfl
                obtain ⟨⟨r, S'⟩, hset⟩ : ∃ p, setF S nm v = p := ⟨_, rfl⟩
                have HSET := Aside0.mk hset
                clear hset
                go_wp2_with fail
                refine start_ (n := 13) (S := fun w' => w'.cell? ⟨bk, 1, none⟩ = some (.string nm) ∧ w'.cell? ⟨bk, 2, none⟩ = some (.string v)) (ds := []) #[false, false, false, false, false, false, false, false, false, false, false, false, false] (by kernel_rfl) rfl rfl ⟨hk1, hk2⟩ (fun hHeld => ?_)
                have hbd : Below wx.heap.size wx wx.drew := Drawn0.below ⟨1, rfl⟩; have HED := Aside0.mk (HEX.out.below hbd); have HND := Aside0.mk (HNX.out.below hbd); have HBD := Aside0.mk (HBX.out.trans (hbd.mono HBX.out.size)); have HBKD := Aside0.mk (Chg.blk (Chg.of_below hbd none_) HBK.out (fun h => h)); clear hbd; generalize wx.drew = wd at HED HND HBD HBKD hHeld ⊢
                refine pure_ (i := 0) (N := some 95) (v := ?_) (a' := ?_) #[true, false, false, false, false, false, false, false, false, false, false, false, false] rfl rfl (by kernel_rfl) (fun _ _ _ h => h) (Or.inl ⟨by rfl, ?_⟩) ?_ ?_
                rotate_left
                · intro w'
                  go_simp
                  with_reducible rfl
                rotate_left
                · simp only [Act.put, List.setIfInBounds_toArray, List.set_cons_zero, List.set_cons_succ, i64_w, i32_w]
                  rfl
                refine pure_ (i := 1) (N := some 96) (v := ?_) (a' := ?_) #[true, true, false, false, false, false, false, false, false, false, false, false, false] rfl rfl (by kernel_rfl) (fun _ _ _ h => h) (Or.inl ⟨by rfl, ?_⟩) ?_ ?_
                rotate_left
                · intro w'
                  go_simp
                  with_reducible rfl
                rotate_left
                · simp only [Act.put, List.setIfInBounds_toArray, List.set_cons_zero, List.set_cons_succ, i64_w, i32_w]
                  rfl
                refine pure_ (i := 3) (N := some 98) (v := ?_) (a' := ?_) #[true, true, false, true, false, false, false, false, false, false, false, false, false] rfl rfl (by kernel_rfl) (fun _ _ _ h => h) (Or.inl ⟨by rfl, ?_⟩) ?_ ?_
                rotate_left
                · intro w'
                  go_simp
                  with_reducible rfl
                rotate_left
                · simp only [Act.put, List.setIfInBounds_toArray, List.set_cons_zero, List.set_cons_succ, i64_w, i32_w]
                  rfl
                refine pure_ (i := 6) (N := some 101) (v := ?_) (a' := ?_) #[true, true, false, true, false, false, true, false, false, false, false, false, false] rfl rfl (by kernel_rfl) (fun _ _ _ h => h) (Or.inl ⟨by rfl, ?_⟩) ?_ ?_
                rotate_left
                · intro w'
                  go_simp
                  with_reducible rfl
                rotate_left
                · simp only [Act.put, List.setIfInBounds_toArray, List.set_cons_zero, List.set_cons_succ, i64_w, i32_w]
                  rfl
                refine pure_ (i := 7) (N := some 102) (v := ?_) (a' := ?_) #[true, true, false, true, false, false, true, true, false, false, false, false, false] rfl rfl (by kernel_rfl) (fun _ _ _ h => h) (Or.inl ⟨by rfl, ?_⟩) ?_ ?_
                rotate_left
                · intro w'
                  go_simp
                  with_reducible rfl
                rotate_left
                · simp only [Act.put, List.setIfInBounds_toArray, List.set_cons_zero, List.set_cons_succ, i64_w, i32_w]
                  rfl
                refine pure_ (i := 9) (N := some 104) (v := ?_) (a' := ?_) #[true, true, false, true, false, false, true, true, false, true, false, false, false] rfl rfl (by kernel_rfl) (fun _ _ _ h => h) (Or.inl ⟨by rfl, ?_⟩) ?_ ?_
                rotate_left
                · intro w'
                  go_simp
                  with_reducible rfl
                rotate_left
                · simp only [Act.put, List.setIfInBounds_toArray, List.set_cons_zero, List.set_cons_succ, i64_w, i32_w]
                  rfl
                refine take_ (i := 2) (N := some 97) (v := ?_) (a' := ?_) #[true, true, true, true, false, false, true, true, false, true, false, false, false] rfl rfl (by kernel_rfl) (fun _ _ _ h => h) (Or.inl ⟨by rfl, ?_⟩) hHeld ?_ ?_
                rotate_left
                · rintro w' ⟨s0, s1⟩
                  go_simp
                  with_reducible rfl
                rotate_left
                · simp only [Act.put, List.setIfInBounds_toArray, List.set_cons_zero, List.set_cons_succ, i64_w, i32_w]
                  rfl
                refine take_ (i := 4) (N := some 99) (v := ?_) (a' := ?_) #[true, true, true, true, true, false, true, true, false, true, false, false, false] rfl rfl (by kernel_rfl) (fun _ _ _ h => h) (Or.inl ⟨by rfl, ?_⟩) hHeld ?_ ?_
                rotate_left
                · rintro w' ⟨s0, s1⟩
                  go_simp
                  with_reducible rfl
                rotate_left
                · simp only [Act.put, List.setIfInBounds_toArray, List.set_cons_zero, List.set_cons_succ, i64_w, i32_w]
                  rfl
                refine take_ (i := 8) (N := some 103) (v := ?_) (a' := ?_) #[true, true, true, true, true, false, true, true, true, true, false, false, false] rfl rfl (by kernel_rfl) (fun _ _ _ h => h) (Or.inl ⟨by rfl, ?_⟩) hHeld ?_ ?_
                rotate_left
                · rintro w' ⟨s0, s1⟩
                  go_simp
                  with_reducible rfl
                rotate_left
                · simp only [Act.put, List.setIfInBounds_toArray, List.set_cons_zero, List.set_cons_succ, i64_w, i32_w]
                  rfl
                refine take_ (i := 10) (N := some 105) (v := ?_) (a' := ?_) #[true, true, true, true, true, false, true, true, true, true, true, false, false] rfl rfl (by kernel_rfl) (fun _ _ _ h => h) (Or.inl ⟨by rfl, ?_⟩) hHeld ?_ ?_
                rotate_left
                · rintro w' ⟨s0, s1⟩
                  go_simp
                  with_reducible rfl
                rotate_left
                · simp only [Act.put, List.setIfInBounds_toArray, List.set_cons_zero, List.set_cons_succ, i64_w, i32_w]
                  rfl
                refine one_ (i := 5) (N := some 100) #[true, true, true, true, true, true, true, true, true, true, true, false, false] rfl rfl (by kernel_rfl) (by decide) (fun K hK => ?_)
                refine goes_ Try.func20 (by kernel_rfl) rfl #[.pointer (some ⟨g, 0, none⟩), .string nm, .string v] (by rfl) rfl rfl (by simp only [List.map_toArray, List.map_cons, List.map_nil]; rfl) ?_
                with_reducible refine (env_Set g m1 m2 S S' nm v r _ (by have := HNM.out; omega) (by have := HV.out; omega) HED.out HSET.out).mono ?_
                rintro e w5 ⟨rfl, he5, hc5⟩
                refine ⟨_, rfl, ?_⟩
                have HE5 := Aside0.mk he5
                have HN5 := Aside0.mk (HND.out.env1 HED.out hc5)
                have HB5 := Aside0.mk (below_chg HBD.out hc5 (fun k hk => by rw [hk]; exact HM1.out))
                have HBK5 := Aside0.mk (hc5.blk HBKD.out (fun e => map_notRow HED.out.vars _ _ (by rw [← e]; exact HBKD.out)))
                clear he5 hc5
                refine hK.out _ _ ⟨(blk_cell HBK5.out 1).trans rfl, (blk_cell HBK5.out 2).trans rfl⟩ (fun hHeld => ?_)
                clear hK K
                refine norm_ (a' := ?_) ?_ ?_
                rotate_left
                · show Act.put _ (some 100) _ = _
                  simp only [Act.put, List.setIfInBounds_toArray, List.set_cons_zero, List.set_cons_succ, i64_w, i32_w]
                  rfl
                refine one_ (i := 11) (N := some 106) #[true, true, true, true, true, true, true, true, true, true, true, true, false] rfl rfl (by kernel_rfl) (by decide) (fun K hK => ?_)
                refine goes_ Try.func21 (by kernel_rfl) rfl #[.pointer (some ⟨g2, 0, none⟩), .string nm, .string v] (by rfl) rfl rfl (by simp only [List.map_toArray, List.map_cons, List.map_nil]; rfl) ?_
                with_reducible refine (ren_Set g2 S S' nm v r _ (by have := HNM.out; omega) (by have := HV.out; omega) HN5.out HSET.out).mono ?_
                rintro e w6 ⟨rfl, hr6, hc6⟩
                refine ⟨_, rfl, ?_⟩
                have HN6 := Aside0.mk hr6
                have HE6 := Aside0.mk (HE5.out.ren HN5.out hc6)
                have HB6 := Aside0.mk (below_chg HB5.out hc6 (fun k hk => by rw [hk]; exact HG2.out))
                have HBK6 := Aside0.mk (hc6.blk HBK5.out (fun e => HN5.out.notG (e := 46) (by decide) _ (by rw [← e]; exact HBK5.out)))
                clear hr6 hc6
                refine hK.out _ _ ⟨(blk_cell HBK6.out 1).trans rfl, (blk_cell HBK6.out 2).trans rfl⟩ (fun hHeld => ?_)
                clear hK K
                refine norm_ (a' := ?_) ?_ ?_
                rotate_left
                · show Act.put _ (some 106) _ = _
                  simp only [Act.put, List.setIfInBounds_toArray, List.set_cons_zero, List.set_cons_succ, i64_w, i32_w]
                  rfl
                refine pure_ (i := 12) (N := some 107) (v := ?_) (a' := ?_) #[true, true, true, true, true, true, true, true, true, true, true, true, true] rfl rfl (by kernel_rfl) (fun _ _ _ h => h) (Or.inl ⟨by rfl, ?_⟩) ?_ ?_
                rotate_left
                · intro w'
                  go_simp
                  with_reducible rfl
                rotate_left
                · simp only [Act.put, List.setIfInBounds_toArray, List.set_cons_zero, List.set_cons_succ, i64_w, i32_w]
                  rfl
                refine done_ (by kernel_rfl) ?_
                go_wp2_with fail
                refine (law_Same g m1 m2 g2 (S') _ HE6.out HN6.out).mono ?_
                rintro e w9 ⟨rfl, hb9⟩
                have HE9 := Aside0.mk (HE6.out.below hb9)
                have HN9 := Aside0.mk (HN6.out.below hb9)
                have HB9 := Aside0.mk (HB6.out.trans (hb9.mono HB6.out.size))
                clear hb9
                go_wp2_with fail
                go_roundw
                case rel => exact ⟨k + 1, _, HL1.out, HL2.out, by go_num, HE9, HN9, HB9⟩
                case measure => have := HL2.out; simp [intOf]; omega
              · have q0 : (kd == 0) = false := beq_eq_false_iff_ne.2 h0
                clear h0
                by_cases h1 : kd = 1
                · subst h1
                  have hk1 := (blk_cell HBK.out 1).trans rfl
                  obtain ⟨b1, hb1⟩ : ∃ b, nameB nm = b := ⟨_, rfl⟩
                  have HNB := Aside0.mk hb1
                  clear hb1
                  go_wp2_with fail
                  refine start_ (n := 9) (S := fun w' => w'.cell? ⟨bk, 1, none⟩ = some (.string nm)) (ds := []) #[false, false, false, false, false, false, false, false, false] (by kernel_rfl) rfl rfl (hk1) (fun hHeld => ?_)
                  have hbd : Below wx.heap.size wx wx.drew := Drawn0.below ⟨1, rfl⟩; have HED := Aside0.mk (HEX.out.below hbd); have HND := Aside0.mk (HNX.out.below hbd); have HBD := Aside0.mk (HBX.out.trans (hbd.mono HBX.out.size)); have HBKD := Aside0.mk (Chg.blk (Chg.of_below hbd none_) HBK.out (fun h => h)); clear hbd; generalize wx.drew = wd at HED HND HBD HBKD hHeld ⊢
                  refine pure_ (i := 0) (N := some 110) (v := ?_) (a' := ?_) #[true, false, false, false, false, false, false, false, false] rfl rfl (by kernel_rfl) (fun _ _ _ h => h) (Or.inl ⟨by rfl, ?_⟩) ?_ ?_
                  rotate_left
                  · intro w'
                    go_simp
                    with_reducible rfl
                  rotate_left
                  · simp only [Act.put, List.setIfInBounds_toArray, List.set_cons_zero, List.set_cons_succ, i64_w, i32_w]
                    rfl
                  refine pure_ (i := 1) (N := some 111) (v := ?_) (a' := ?_) #[true, true, false, false, false, false, false, false, false] rfl rfl (by kernel_rfl) (fun _ _ _ h => h) (Or.inl ⟨by rfl, ?_⟩) ?_ ?_
                  rotate_left
                  · intro w'
                    go_simp
                    with_reducible rfl
                  rotate_left
                  · simp only [Act.put, List.setIfInBounds_toArray, List.set_cons_zero, List.set_cons_succ, i64_w, i32_w]
                    rfl
                  refine pure_ (i := 4) (N := some 114) (v := ?_) (a' := ?_) #[true, true, false, false, true, false, false, false, false] rfl rfl (by kernel_rfl) (fun _ _ _ h => h) (Or.inl ⟨by rfl, ?_⟩) ?_ ?_
                  rotate_left
                  · intro w'
                    go_simp
                    with_reducible rfl
                  rotate_left
                  · simp only [Act.put, List.setIfInBounds_toArray, List.set_cons_zero, List.set_cons_succ, i64_w, i32_w]
                    rfl
                  refine pure_ (i := 5) (N := some 115) (v := ?_) (a' := ?_) #[true, true, false, false, true, true, false, false, false] rfl rfl (by kernel_rfl) (fun _ _ _ h => h) (Or.inl ⟨by rfl, ?_⟩) ?_ ?_
                  rotate_left
                  · intro w'
                    go_simp
                    with_reducible rfl
                  rotate_left
                  · simp only [Act.put, List.setIfInBounds_toArray, List.set_cons_zero, List.set_cons_succ, i64_w, i32_w]
                    rfl
                  refine take_ (i := 2) (N := some 112) (v := ?_) (a' := ?_) #[true, true, true, false, true, true, false, false, false] rfl rfl (by kernel_rfl) (fun _ _ _ h => h) (Or.inl ⟨by rfl, ?_⟩) hHeld ?_ ?_
                  rotate_left
                  · intro w' s0
                    go_simp
                    with_reducible rfl
                  rotate_left
                  · simp only [Act.put, List.setIfInBounds_toArray, List.set_cons_zero, List.set_cons_succ, i64_w, i32_w]
                    rfl
                  refine take_ (i := 6) (N := some 116) (v := ?_) (a' := ?_) #[true, true, true, false, true, true, true, false, false] rfl rfl (by kernel_rfl) (fun _ _ _ h => h) (Or.inl ⟨by rfl, ?_⟩) hHeld ?_ ?_
                  rotate_left
                  · intro w' s0
                    go_simp
                    with_reducible rfl
                  rotate_left
                  · simp only [Act.put, List.setIfInBounds_toArray, List.set_cons_zero, List.set_cons_succ, i64_w, i32_w]
                    rfl
                  refine one_ (i := 3) (N := some 113) #[true, true, true, true, true, true, true, false, false] rfl rfl (by kernel_rfl) (by decide) (fun K hK => ?_)
                  refine goes_ Try.func22 (by kernel_rfl) rfl #[.pointer (some ⟨g, 0, none⟩), .string nm] (by rfl) rfl rfl (by simp only [List.map_toArray, List.map_cons, List.map_nil]; rfl) ?_
                  with_reducible refine (env_Unset g m1 m2 S nm b1 _ (by have := HNM.out; omega) HED.out HNB.out).mono ?_
                  rintro e w5 ⟨rfl, he5, hc5⟩
                  refine ⟨_, rfl, ?_⟩
                  have HE5 := Aside0.mk he5
                  have HN5 := Aside0.mk (HND.out.env1 HED.out hc5)
                  have HB5 := Aside0.mk (below_chg HBD.out hc5 (fun k hk => by rw [hk]; exact HM1.out))
                  have HBK5 := Aside0.mk (hc5.blk HBKD.out (fun e => map_notRow HED.out.vars _ _ (by rw [← e]; exact HBKD.out)))
                  clear he5 hc5
                  refine hK.out _ _ ((blk_cell HBK5.out 1).trans rfl) (fun hHeld => ?_)
                  clear hK K
                  refine norm_ (a' := ?_) ?_ ?_
                  rotate_left
                  · show Act.put _ (some 113) _ = _
                    simp only [Act.put, List.setIfInBounds_toArray, List.set_cons_zero, List.set_cons_succ, i64_w, i32_w]
                    rfl
                  refine one_ (i := 7) (N := some 117) #[true, true, true, true, true, true, true, true, false] rfl rfl (by kernel_rfl) (by decide) (fun K hK => ?_)
                  refine goes_ Try.func23 (by kernel_rfl) rfl #[.pointer (some ⟨g2, 0, none⟩), .string nm] (by rfl) rfl rfl (by simp only [List.map_toArray, List.map_cons, List.map_nil]; rfl) ?_
                  with_reducible refine (ren_Unset g2 S nm b1 _ (by have := HNM.out; omega) HN5.out HNB.out).mono ?_
                  rintro e w6 ⟨rfl, hr6, hc6⟩
                  refine ⟨_, rfl, ?_⟩
                  have HN6 := Aside0.mk hr6
                  have HE6 := Aside0.mk (HE5.out.ren HN5.out hc6)
                  have HB6 := Aside0.mk (below_chg HB5.out hc6 (fun k hk => by rw [hk]; exact HG2.out))
                  have HBK6 := Aside0.mk (hc6.blk HBK5.out (fun e => HN5.out.notG (e := 46) (by decide) _ (by rw [← e]; exact HBK5.out)))
                  clear hr6 hc6
                  refine hK.out _ _ ((blk_cell HBK6.out 1).trans rfl) (fun hHeld => ?_)
                  clear hK K
                  refine norm_ (a' := ?_) ?_ ?_
                  rotate_left
                  · show Act.put _ (some 117) _ = _
                    simp only [Act.put, List.setIfInBounds_toArray, List.set_cons_zero, List.set_cons_succ, i64_w, i32_w]
                    rfl
                  refine pure_ (i := 8) (N := some 118) (v := ?_) (a' := ?_) #[true, true, true, true, true, true, true, true, true] rfl rfl (by kernel_rfl) (fun _ _ _ h => h) (Or.inl ⟨by rfl, ?_⟩) ?_ ?_
                  rotate_left
                  · intro w'
                    go_simp
                    with_reducible rfl
                  rotate_left
                  · simp only [Act.put, List.setIfInBounds_toArray, List.set_cons_zero, List.set_cons_succ, i64_w, i32_w]
                    rfl
                  refine done_ (by kernel_rfl) ?_
                  go_wp2_with fail
                  refine (law_Same g m1 m2 g2 (unsetF S nm) _ HE6.out HN6.out).mono ?_
                  rintro e w9 ⟨rfl, hb9⟩
                  have HE9 := Aside0.mk (HE6.out.below hb9)
                  have HN9 := Aside0.mk (HN6.out.below hb9)
                  have HB9 := Aside0.mk (HB6.out.trans (hb9.mono HB6.out.size))
                  clear hb9
                  go_wp2_with fail
                  go_roundw
                  case rel => exact ⟨k + 1, _, HL1.out, HL2.out, by go_num, HE9, HN9, HB9⟩
                  case measure => have := HL2.out; simp [intOf]; omega
                · have q1 : (kd == 1) = false := beq_eq_false_iff_ne.2 h1
                  clear h1
                  by_cases h2 : kd = 2
                  · subst h2
                    have hk3 := (blk_cell HBK.out 3).trans rfl
                    go_wp2_with fail
                    refine (env_SetArgs g m1 m2 S A3 c3 ar _ (Kd.C_below HC3.out HBX.out) HL3.out (shortB_args HSB.out) ?_ HEX.out).mono ?_
                    · intro ad' he h0 hb
                      have h1 := HC3.out
                      rw [he] at h1
                      have := C_block_lt h1 h0
                      have := HG.out
                      omega
                    rintro e w5 ⟨rfl, he5, hc5⟩
                    have HE5 := Aside0.mk he5
                    have HN5 := Aside0.mk (HNX.out.env0 HEX.out hc5)
                    have HB5 := Aside0.mk (below_chg HBX.out hc5 (fun k hk => by rw [hk]; exact HG.out))
                    have HBK5 := Aside0.mk (hc5.blk HBK.out (fun e => HEX.out.notG (e := 46) (by decide) _ (by rw [← e]; exact HBK.out)))
                    clear he5 hc5
                    have hj3 := (blk_cell HBK5.out 3).trans rfl
                    clear hk3
                    go_wp2_with fail
                    refine (ren_SetArgs g2 S A3 c3 ar _ (Kd.C_below HC3.out HB5.out) HL3.out (shortB_args HSB.out) HN5.out).mono ?_
                    rintro e w6 ⟨rfl, hr6, hc6⟩
                    have HN6 := Aside0.mk hr6
                    have HE6 := Aside0.mk (HE5.out.ren HN5.out hc6)
                    have HB6 := Aside0.mk (below_chg HB5.out hc6 (fun k hk => by rw [hk]; exact HG2.out))
                    have HBK6 := Aside0.mk (hc6.blk HBK5.out (fun e => HN5.out.notG (e := 46) (by decide) _ (by rw [← e]; exact HBK5.out)))
                    clear hr6 hc6
                    go_wp2_with fail
                    refine (law_Same g m1 m2 g2 ({ S with args := argsF ar }) _ HE6.out HN6.out).mono ?_
                    rintro e w9 ⟨rfl, hb9⟩
                    have HE9 := Aside0.mk (HE6.out.below hb9)
                    have HN9 := Aside0.mk (HN6.out.below hb9)
                    have HB9 := Aside0.mk (HB6.out.trans (hb9.mono HB6.out.size))
                    clear hb9
                    go_wp2_with fail
                    go_roundw
                    case rel => exact ⟨k + 1, _, HL1.out, HL2.out, by go_num, HE9, HN9, HB9⟩
                    case measure => have := HL2.out; simp [intOf]; omega
                  · have q2 : (kd == 2) = false := beq_eq_false_iff_ne.2 h2
                    clear h2
                    by_cases h3 : kd = 3
                    · subst h3
                      by_cases x1 : x = 101
                      · subst x1
                        have HFX := Aside0.mk (show isFlag 101 = true from rfl)
                        have hk4 := (blk_cell HBK.out 4).trans rfl
                        have hk5 := (blk_cell HBK.out 5).trans rfl
                        go_wp2_with fail
                        refine start_ (n := 20) (S := fun w' => w'.cell? ⟨bk, 4, none⟩ = some (.int .u8 101) ∧ w'.cell? ⟨bk, 5, none⟩ = some (.bool on)) (ds := []) #[false, false, false, false, false, false, false, false, false, false, false, false, false, false, false, false, false, false, false, false] (by kernel_rfl) rfl rfl ⟨hk4, hk5⟩ (fun hHeld => ?_)
                        have hbd : Below wx.heap.size wx wx.drew := Drawn0.below ⟨1, rfl⟩; have HED := Aside0.mk (HEX.out.below hbd); have HND := Aside0.mk (HNX.out.below hbd); have HBD := Aside0.mk (HBX.out.trans (hbd.mono HBX.out.size)); have HBKD := Aside0.mk (Chg.blk (Chg.of_below hbd none_) HBK.out (fun h => h)); clear hbd; generalize wx.drew = wd at HED HND HBD HBKD hHeld ⊢
                        refine pure_ (i := 0) (N := some 131) (v := ?_) (a' := ?_) #[true, false, false, false, false, false, false, false, false, false, false, false, false, false, false, false, false, false, false, false] rfl rfl (by kernel_rfl) (fun _ _ _ h => h) (Or.inl ⟨by rfl, ?_⟩) ?_ ?_
                        rotate_left
                        · intro w'
                          go_simp
                          with_reducible rfl
                        rotate_left
                        · simp only [Act.put, List.setIfInBounds_toArray, List.set_cons_zero, List.set_cons_succ, i64_w, i32_w]
                          rfl
                        refine pure_ (i := 1) (N := some 132) (v := ?_) (a' := ?_) #[true, true, false, false, false, false, false, false, false, false, false, false, false, false, false, false, false, false, false, false] rfl rfl (by kernel_rfl) (fun _ _ _ h => h) (Or.inl ⟨by rfl, ?_⟩) ?_ ?_
                        rotate_left
                        · intro w'
                          go_simp
                          with_reducible rfl
                        rotate_left
                        · simp only [Act.put, List.setIfInBounds_toArray, List.set_cons_zero, List.set_cons_succ, i64_w, i32_w]
                          rfl
                        refine pure_ (i := 3) (N := some 134) (v := ?_) (a' := ?_) #[true, true, false, true, false, false, false, false, false, false, false, false, false, false, false, false, false, false, false, false] rfl rfl (by kernel_rfl) (fun _ _ _ h => h) (Or.inl ⟨by rfl, ?_⟩) ?_ ?_
                        rotate_left
                        · intro w'
                          go_simp
                          with_reducible rfl
                        rotate_left
                        · simp only [Act.put, List.setIfInBounds_toArray, List.set_cons_zero, List.set_cons_succ, i64_w, i32_w]
                          rfl
                        refine pure_ (i := 6) (N := some 137) (v := ?_) (a' := ?_) #[true, true, false, true, false, false, true, false, false, false, false, false, false, false, false, false, false, false, false, false] rfl rfl (by kernel_rfl) (fun _ _ _ h => h) (Or.inl ⟨by rfl, ?_⟩) ?_ ?_
                        rotate_left
                        · intro w'
                          go_simp
                          with_reducible rfl
                        rotate_left
                        · simp only [Act.put, List.setIfInBounds_toArray, List.set_cons_zero, List.set_cons_succ, i64_w, i32_w]
                          rfl
                        refine take_ (i := 2) (N := some 133) (v := ?_) (a' := ?_) #[true, true, true, true, false, false, true, false, false, false, false, false, false, false, false, false, false, false, false, false] rfl rfl (by kernel_rfl) (fun _ _ _ h => h) (Or.inl ⟨by rfl, ?_⟩) hHeld ?_ ?_
                        rotate_left
                        · rintro w' ⟨s0, s1⟩
                          go_simp
                          with_reducible rfl
                        rotate_left
                        · simp only [Act.put, List.setIfInBounds_toArray, List.set_cons_zero, List.set_cons_succ, i64_w, i32_w]
                          rfl
                        refine take_ (i := 4) (N := some 135) (v := ?_) (a' := ?_) #[true, true, true, true, true, false, true, false, false, false, false, false, false, false, false, false, false, false, false, false] rfl rfl (by kernel_rfl) (fun _ _ _ h => h) (Or.inl ⟨by rfl, ?_⟩) hHeld ?_ ?_
                        rotate_left
                        · rintro w' ⟨s0, s1⟩
                          go_simp
                          with_reducible rfl
                        rotate_left
                        · simp only [Act.put, List.setIfInBounds_toArray, List.set_cons_zero, List.set_cons_succ, i64_w, i32_w]
                          rfl
                        refine take_ (i := 7) (N := some 138) (v := ?_) (a' := ?_) #[true, true, true, true, true, false, true, true, false, false, false, false, false, false, false, false, false, false, false, false] rfl rfl (by kernel_rfl) (fun _ _ _ h => h) (Or.inl ⟨by rfl, ?_⟩) hHeld ?_ ?_
                        rotate_left
                        · rintro w' ⟨s0, s1⟩
                          go_simp
                          with_reducible rfl
                        rotate_left
                        · simp only [Act.put, List.setIfInBounds_toArray, List.set_cons_zero, List.set_cons_succ, i64_w, i32_w]
                          rfl
                        refine pure_ (i := 8) (N := some 139) (v := ?_) (a' := ?_) #[true, true, true, true, true, false, true, true, true, false, false, false, false, false, false, false, false, false, false, false] rfl rfl (by kernel_rfl) (fun _ _ _ h => h) (Or.inl ⟨by rfl, ?_⟩) ?_ ?_
                        rotate_left
                        · intro w'
                          go_simp
                          with_reducible rfl
                        rotate_left
                        · simp only [Act.put, List.setIfInBounds_toArray, List.set_cons_zero, List.set_cons_succ, i64_w, i32_w]
                          rfl
                        refine one_ (i := 5) (N := some 136) #[true, true, true, true, true, true, true, true, true, false, false, false, false, false, false, false, false, false, false, false] rfl rfl (by kernel_rfl) (by decide) (fun K hK => ?_)
                        refine goes_ Try.func26 (by kernel_rfl) rfl #[.pointer (some ⟨g, 0, none⟩), .int .u8 101, .bool on] (by rfl) rfl rfl (by simp only [List.map_toArray, List.map_cons, List.map_nil]; rfl) ?_
                        with_reducible refine (env_SetFlag g m1 m2 S 101 on true _ HFK.out HED.out HFX.out).mono ?_
                        rintro e w5 ⟨rfl, he5, hc5⟩
                        refine ⟨_, rfl, ?_⟩
                        have HE5 := Aside0.mk he5
                        have HN5 := Aside0.mk (HND.out.env2 HED.out hc5)
                        have HB5 := Aside0.mk (below_chg HBD.out hc5 (fun k hk => by rw [hk]; exact HM2.out))
                        have HBK5 := Aside0.mk (hc5.blk HBKD.out (fun e => map_notRow HED.out.flags _ _ (by rw [← e]; exact HBKD.out)))
                        clear he5 hc5
                        refine hK.out _ _ ⟨(blk_cell HBK5.out 4).trans rfl, (blk_cell HBK5.out 5).trans rfl⟩ (fun hHeld => ?_)
                        clear hK K
                        refine norm_ (a' := ?_) ?_ ?_
                        rotate_left
                        · show Act.put _ (some 136) _ = _
                          simp only [Act.put, List.setIfInBounds_toArray, List.set_cons_zero, List.set_cons_succ, i64_w, i32_w]
                          rfl
                        refine pure_ (i := 9) (N := some 140) (v := ?_) (a' := ?_) #[true, true, true, true, true, true, true, true, true, true, false, false, false, false, false, false, false, false, false, false] rfl rfl (by kernel_rfl) (fun _ _ _ h => h) (Or.inl ⟨by rfl, ?_⟩) ?_ ?_
                        rotate_left
                        · intro w'
                          go_simp
                          with_reducible rfl
                        rotate_left
                        · simp only [Act.put, List.setIfInBounds_toArray, List.set_cons_zero, List.set_cons_succ, i64_w, i32_w]
                          rfl
                        refine pure_ (i := 10) (N := some 141) (v := undef) (a' := ?_) #[true, true, true, true, true, true, true, true, true, true, true, false, false, false, false, false, false, false, false, false] rfl rfl (by kernel_rfl) (fun _ _ _ h => h) (Or.inr ⟨by rfl, rfl⟩) ?_ ?_
                        rotate_left
                        · simp only [Act.put, List.setIfInBounds_toArray, List.set_cons_zero, List.set_cons_succ, i64_w, i32_w]
                          rfl
                        refine pure_ (i := 11) (N := some 142) (v := undef) (a' := ?_) #[true, true, true, true, true, true, true, true, true, true, true, true, false, false, false, false, false, false, false, false] rfl rfl (by kernel_rfl) (fun _ _ _ h => h) (Or.inr ⟨by rfl, rfl⟩) ?_ ?_
                        rotate_left
                        · simp only [Act.put, List.setIfInBounds_toArray, List.set_cons_zero, List.set_cons_succ, i64_w, i32_w]
                          rfl
                        refine pure_ (i := 12) (N := some 143) (v := undef) (a' := ?_) #[true, true, true, true, true, true, true, true, true, true, true, true, true, false, false, false, false, false, false, false] rfl rfl (by kernel_rfl) (fun _ _ _ h => h) (Or.inr ⟨by rfl, rfl⟩) ?_ ?_
                        rotate_left
                        · simp only [Act.put, List.setIfInBounds_toArray, List.set_cons_zero, List.set_cons_succ, i64_w, i32_w]
                          rfl
                        refine pure_ (i := 13) (N := some 144) (v := ?_) (a' := ?_) #[true, true, true, true, true, true, true, true, true, true, true, true, true, true, false, false, false, false, false, false] rfl rfl (by kernel_rfl) (fun _ _ _ h => h) (Or.inl ⟨by rfl, ?_⟩) ?_ ?_
                        rotate_left
                        · intro w'
                          go_simp
                          with_reducible rfl
                        rotate_left
                        · simp only [Act.put, List.setIfInBounds_toArray, List.set_cons_zero, List.set_cons_succ, i64_w, i32_w]
                          rfl
                        refine pure_ (i := 14) (N := some 145) (v := ?_) (a' := ?_) #[true, true, true, true, true, true, true, true, true, true, true, true, true, true, true, false, false, false, false, false] rfl rfl (by kernel_rfl) (fun _ _ _ h => h) (Or.inl ⟨by rfl, ?_⟩) ?_ ?_
                        rotate_left
                        · intro w'
                          go_simp
                          with_reducible rfl
                        rotate_left
                        · simp only [Act.put, List.setIfInBounds_toArray, List.set_cons_zero, List.set_cons_succ, i64_w, i32_w]
                          rfl
                        refine pure_ (i := 15) (N := some 146) (v := undef) (a' := ?_) #[true, true, true, true, true, true, true, true, true, true, true, true, true, true, true, true, false, false, false, false] rfl rfl (by kernel_rfl) (fun _ _ _ h => h) (Or.inr ⟨by rfl, rfl⟩) ?_ ?_
                        rotate_left
                        · simp only [Act.put, List.setIfInBounds_toArray, List.set_cons_zero, List.set_cons_succ, i64_w, i32_w]
                          rfl
                        refine pure_ (i := 16) (N := some 147) (v := undef) (a' := ?_) #[true, true, true, true, true, true, true, true, true, true, true, true, true, true, true, true, true, false, false, false] rfl rfl (by kernel_rfl) (fun _ _ _ h => h) (Or.inr ⟨by rfl, rfl⟩) ?_ ?_
                        rotate_left
                        · simp only [Act.put, List.setIfInBounds_toArray, List.set_cons_zero, List.set_cons_succ, i64_w, i32_w]
                          rfl
                        refine pure_ (i := 17) (N := some 148) (v := undef) (a' := ?_) #[true, true, true, true, true, true, true, true, true, true, true, true, true, true, true, true, true, true, false, false] rfl rfl (by kernel_rfl) (fun _ _ _ h => h) (Or.inr ⟨by rfl, rfl⟩) ?_ ?_
                        rotate_left
                        · simp only [Act.put, List.setIfInBounds_toArray, List.set_cons_zero, List.set_cons_succ, i64_w, i32_w]
                          rfl
                        refine pure_ (i := 18) (N := some 149) (v := ?_) (a' := ?_) #[true, true, true, true, true, true, true, true, true, true, true, true, true, true, true, true, true, true, true, false] rfl rfl (by kernel_rfl) (fun _ _ _ h => h) (Or.inl ⟨by rfl, ?_⟩) ?_ ?_
                        rotate_left
                        · intro w'
                          go_simp
                          with_reducible rfl
                        rotate_left
                        · simp only [Act.put, List.setIfInBounds_toArray, List.set_cons_zero, List.set_cons_succ, i64_w, i32_w]
                          rfl
                        refine pure_ (i := 19) (N := some 150) (v := ?_) (a' := ?_) #[true, true, true, true, true, true, true, true, true, true, true, true, true, true, true, true, true, true, true, true] rfl rfl (by kernel_rfl) (fun _ _ _ h => h) (Or.inl ⟨by rfl, ?_⟩) ?_ ?_
                        rotate_left
                        · intro w'
                          go_simp
                          with_reducible rfl
                        rotate_left
                        · simp only [Act.put, List.setIfInBounds_toArray, List.set_cons_zero, List.set_cons_succ, i64_w, i32_w]
                          rfl
                        refine done_ (by kernel_rfl) ?_
                        have hj4 := (blk_cell HBK5.out 4).trans rfl
                        have hj5 := (blk_cell HBK5.out 5).trans rfl
                        clear hk4 hk5 hHeld
                        rw [flagF_on HFX.out] at HE5
                        have hz := HN5.out.frozen 2
                        obtain ⟨u6, hu6⟩ : ∃ u, w5.cell? ⟨g2, 2, none⟩ = some u := ⟨_, HN5.out.cells.1⟩
                        have HN6 := Aside0.mk (HN5.out.storedF 101 2 on (by omega))
                        have HCS := Aside0.mk ((Chg.refl (fun k => k = g2) w5).setCell (p := ⟨g2, 2, none⟩) (.inl rfl) (.bool on))
                        have HE6 := Aside0.mk (HE5.out.ren HN5.out HCS.out)
                        have HB6 := Aside0.mk (below_chg HB5.out HCS.out (fun k hk => by rw [hk]; exact HG2.out))
                        go_wp2_with fail
                        refine (law_Same g m1 m2 g2 ({ S with flag := flagPut S.flag 101 on }) _ HE6.out HN6.out).mono ?_
                        rintro e w9 ⟨rfl, hb9⟩
                        have HE9 := Aside0.mk (HE6.out.below hb9)
                        have HN9 := Aside0.mk (HN6.out.below hb9)
                        have HB9 := Aside0.mk (HB6.out.trans (hb9.mono HB6.out.size))
                        clear hb9
                        go_wp2_with fail
                        go_roundw
                        case rel => exact ⟨k + 1, _, HL1.out, HL2.out, by go_num, HE9, HN9, HB9⟩
                        case measure => have := HL2.out; simp [intOf]; omega
                      · by_cases x2 : x = 102
                        · subst x2
                          have HFX := Aside0.mk (show isFlag 102 = true from rfl)
                          clear x1
                          have hk4 := (blk_cell HBK.out 4).trans rfl
                          have hk5 := (blk_cell HBK.out 5).trans rfl
                          go_wp2_with fail
                          refine start_ (n := 20) (S := fun w' => w'.cell? ⟨bk, 4, none⟩ = some (.int .u8 102) ∧ w'.cell? ⟨bk, 5, none⟩ = some (.bool on)) (ds := []) #[false, false, false, false, false, false, false, false, false, false, false, false, false, false, false, false, false, false, false, false] (by kernel_rfl) rfl rfl ⟨hk4, hk5⟩ (fun hHeld => ?_)
                          have hbd : Below wx.heap.size wx wx.drew := Drawn0.below ⟨1, rfl⟩; have HED := Aside0.mk (HEX.out.below hbd); have HND := Aside0.mk (HNX.out.below hbd); have HBD := Aside0.mk (HBX.out.trans (hbd.mono HBX.out.size)); have HBKD := Aside0.mk (Chg.blk (Chg.of_below hbd none_) HBK.out (fun h => h)); clear hbd; generalize wx.drew = wd at HED HND HBD HBKD hHeld ⊢
                          refine pure_ (i := 0) (N := some 131) (v := ?_) (a' := ?_) #[true, false, false, false, false, false, false, false, false, false, false, false, false, false, false, false, false, false, false, false] rfl rfl (by kernel_rfl) (fun _ _ _ h => h) (Or.inl ⟨by rfl, ?_⟩) ?_ ?_
                          rotate_left
                          · intro w'
                            go_simp
                            with_reducible rfl
                          rotate_left
                          · simp only [Act.put, List.setIfInBounds_toArray, List.set_cons_zero, List.set_cons_succ, i64_w, i32_w]
                            rfl
                          refine pure_ (i := 1) (N := some 132) (v := ?_) (a' := ?_) #[true, true, false, false, false, false, false, false, false, false, false, false, false, false, false, false, false, false, false, false] rfl rfl (by kernel_rfl) (fun _ _ _ h => h) (Or.inl ⟨by rfl, ?_⟩) ?_ ?_
                          rotate_left
                          · intro w'
                            go_simp
                            with_reducible rfl
                          rotate_left
                          · simp only [Act.put, List.setIfInBounds_toArray, List.set_cons_zero, List.set_cons_succ, i64_w, i32_w]
                            rfl
                          refine pure_ (i := 3) (N := some 134) (v := ?_) (a' := ?_) #[true, true, false, true, false, false, false, false, false, false, false, false, false, false, false, false, false, false, false, false] rfl rfl (by kernel_rfl) (fun _ _ _ h => h) (Or.inl ⟨by rfl, ?_⟩) ?_ ?_
                          rotate_left
                          · intro w'
                            go_simp
                            with_reducible rfl
                          rotate_left
                          · simp only [Act.put, List.setIfInBounds_toArray, List.set_cons_zero, List.set_cons_succ, i64_w, i32_w]
                            rfl
                          refine pure_ (i := 6) (N := some 137) (v := ?_) (a' := ?_) #[true, true, false, true, false, false, true, false, false, false, false, false, false, false, false, false, false, false, false, false] rfl rfl (by kernel_rfl) (fun _ _ _ h => h) (Or.inl ⟨by rfl, ?_⟩) ?_ ?_
                          rotate_left
                          · intro w'
                            go_simp
                            with_reducible rfl
                          rotate_left
                          · simp only [Act.put, List.setIfInBounds_toArray, List.set_cons_zero, List.set_cons_succ, i64_w, i32_w]
                            rfl
                          refine take_ (i := 2) (N := some 133) (v := ?_) (a' := ?_) #[true, true, true, true, false, false, true, false, false, false, false, false, false, false, false, false, false, false, false, false] rfl rfl (by kernel_rfl) (fun _ _ _ h => h) (Or.inl ⟨by rfl, ?_⟩) hHeld ?_ ?_
                          rotate_left
                          · rintro w' ⟨s0, s1⟩
                            go_simp
                            with_reducible rfl
                          rotate_left
                          · simp only [Act.put, List.setIfInBounds_toArray, List.set_cons_zero, List.set_cons_succ, i64_w, i32_w]
                            rfl
                          refine take_ (i := 4) (N := some 135) (v := ?_) (a' := ?_) #[true, true, true, true, true, false, true, false, false, false, false, false, false, false, false, false, false, false, false, false] rfl rfl (by kernel_rfl) (fun _ _ _ h => h) (Or.inl ⟨by rfl, ?_⟩) hHeld ?_ ?_
                          rotate_left
                          · rintro w' ⟨s0, s1⟩
                            go_simp
                            with_reducible rfl
                          rotate_left
                          · simp only [Act.put, List.setIfInBounds_toArray, List.set_cons_zero, List.set_cons_succ, i64_w, i32_w]
                            rfl
                          refine take_ (i := 7) (N := some 138) (v := ?_) (a' := ?_) #[true, true, true, true, true, false, true, true, false, false, false, false, false, false, false, false, false, false, false, false] rfl rfl (by kernel_rfl) (fun _ _ _ h => h) (Or.inl ⟨by rfl, ?_⟩) hHeld ?_ ?_
                          rotate_left
                          · rintro w' ⟨s0, s1⟩
                            go_simp
                            with_reducible rfl
                          rotate_left
                          · simp only [Act.put, List.setIfInBounds_toArray, List.set_cons_zero, List.set_cons_succ, i64_w, i32_w]
                            rfl
                          refine pure_ (i := 8) (N := some 139) (v := ?_) (a' := ?_) #[true, true, true, true, true, false, true, true, true, false, false, false, false, false, false, false, false, false, false, false] rfl rfl (by kernel_rfl) (fun _ _ _ h => h) (Or.inl ⟨by rfl, ?_⟩) ?_ ?_
                          rotate_left
                          · intro w'
                            go_simp
                            with_reducible rfl
                          rotate_left
                          · simp only [Act.put, List.setIfInBounds_toArray, List.set_cons_zero, List.set_cons_succ, i64_w, i32_w]
                            rfl
                          refine one_ (i := 5) (N := some 136) #[true, true, true, true, true, true, true, true, true, false, false, false, false, false, false, false, false, false, false, false] rfl rfl (by kernel_rfl) (by decide) (fun K hK => ?_)
                          refine goes_ Try.func26 (by kernel_rfl) rfl #[.pointer (some ⟨g, 0, none⟩), .int .u8 102, .bool on] (by rfl) rfl rfl (by simp only [List.map_toArray, List.map_cons, List.map_nil]; rfl) ?_
                          with_reducible refine (env_SetFlag g m1 m2 S 102 on true _ HFK.out HED.out HFX.out).mono ?_
                          rintro e w5 ⟨rfl, he5, hc5⟩
                          refine ⟨_, rfl, ?_⟩
                          have HE5 := Aside0.mk he5
                          have HN5 := Aside0.mk (HND.out.env2 HED.out hc5)
                          have HB5 := Aside0.mk (below_chg HBD.out hc5 (fun k hk => by rw [hk]; exact HM2.out))
                          have HBK5 := Aside0.mk (hc5.blk HBKD.out (fun e => map_notRow HED.out.flags _ _ (by rw [← e]; exact HBKD.out)))
                          clear he5 hc5
                          refine hK.out _ _ ⟨(blk_cell HBK5.out 4).trans rfl, (blk_cell HBK5.out 5).trans rfl⟩ (fun hHeld => ?_)
                          clear hK K
                          refine norm_ (a' := ?_) ?_ ?_
                          rotate_left
                          · show Act.put _ (some 136) _ = _
                            simp only [Act.put, List.setIfInBounds_toArray, List.set_cons_zero, List.set_cons_succ, i64_w, i32_w]
                            rfl
                          refine pure_ (i := 9) (N := some 140) (v := ?_) (a' := ?_) #[true, true, true, true, true, true, true, true, true, true, false, false, false, false, false, false, false, false, false, false] rfl rfl (by kernel_rfl) (fun _ _ _ h => h) (Or.inl ⟨by rfl, ?_⟩) ?_ ?_
                          rotate_left
                          · intro w'
                            go_simp
                            with_reducible rfl
                          rotate_left
                          · simp only [Act.put, List.setIfInBounds_toArray, List.set_cons_zero, List.set_cons_succ, i64_w, i32_w]
                            rfl
                          refine pure_ (i := 10) (N := some 141) (v := ?_) (a' := ?_) #[true, true, true, true, true, true, true, true, true, true, true, false, false, false, false, false, false, false, false, false] rfl rfl (by kernel_rfl) (fun _ _ _ h => h) (Or.inl ⟨by rfl, ?_⟩) ?_ ?_
                          rotate_left
                          · intro w'
                            go_simp
                            with_reducible rfl
                          rotate_left
                          · simp only [Act.put, List.setIfInBounds_toArray, List.set_cons_zero, List.set_cons_succ, i64_w, i32_w]
                            rfl
                          refine take_ (i := 11) (N := some 142) (v := ?_) (a' := ?_) #[true, true, true, true, true, true, true, true, true, true, true, true, false, false, false, false, false, false, false, false] rfl rfl (by kernel_rfl) (fun _ _ _ h => h) (Or.inl ⟨by rfl, ?_⟩) hHeld ?_ ?_
                          rotate_left
                          · rintro w' ⟨s0, s1⟩
                            go_simp
                            with_reducible rfl
                          rotate_left
                          · simp only [Act.put, List.setIfInBounds_toArray, List.set_cons_zero, List.set_cons_succ, i64_w, i32_w]
                            rfl
                          refine pure_ (i := 12) (N := some 143) (v := ?_) (a' := ?_) #[true, true, true, true, true, true, true, true, true, true, true, true, true, false, false, false, false, false, false, false] rfl rfl (by kernel_rfl) (fun _ _ _ h => h) (Or.inl ⟨by rfl, ?_⟩) ?_ ?_
                          rotate_left
                          · intro w'
                            go_simp
                            with_reducible rfl
                          rotate_left
                          · simp only [Act.put, List.setIfInBounds_toArray, List.set_cons_zero, List.set_cons_succ, i64_w, i32_w]
                            rfl
                          refine pure_ (i := 13) (N := some 144) (v := ?_) (a' := ?_) #[true, true, true, true, true, true, true, true, true, true, true, true, true, true, false, false, false, false, false, false] rfl rfl (by kernel_rfl) (fun _ _ _ h => h) (Or.inl ⟨by rfl, ?_⟩) ?_ ?_
                          rotate_left
                          · intro w'
                            go_simp
                            with_reducible rfl
                          rotate_left
                          · simp only [Act.put, List.setIfInBounds_toArray, List.set_cons_zero, List.set_cons_succ, i64_w, i32_w]
                            rfl
                          refine pure_ (i := 14) (N := some 145) (v := ?_) (a' := ?_) #[true, true, true, true, true, true, true, true, true, true, true, true, true, true, true, false, false, false, false, false] rfl rfl (by kernel_rfl) (fun _ _ _ h => h) (Or.inl ⟨by rfl, ?_⟩) ?_ ?_
                          rotate_left
                          · intro w'
                            go_simp
                            with_reducible rfl
                          rotate_left
                          · simp only [Act.put, List.setIfInBounds_toArray, List.set_cons_zero, List.set_cons_succ, i64_w, i32_w]
                            rfl
                          refine pure_ (i := 15) (N := some 146) (v := undef) (a' := ?_) #[true, true, true, true, true, true, true, true, true, true, true, true, true, true, true, true, false, false, false, false] rfl rfl (by kernel_rfl) (fun _ _ _ h => h) (Or.inr ⟨by rfl, rfl⟩) ?_ ?_
                          rotate_left
                          · simp only [Act.put, List.setIfInBounds_toArray, List.set_cons_zero, List.set_cons_succ, i64_w, i32_w]
                            rfl
                          refine pure_ (i := 16) (N := some 147) (v := undef) (a' := ?_) #[true, true, true, true, true, true, true, true, true, true, true, true, true, true, true, true, true, false, false, false] rfl rfl (by kernel_rfl) (fun _ _ _ h => h) (Or.inr ⟨by rfl, rfl⟩) ?_ ?_
                          rotate_left
                          · simp only [Act.put, List.setIfInBounds_toArray, List.set_cons_zero, List.set_cons_succ, i64_w, i32_w]
                            rfl
                          refine pure_ (i := 17) (N := some 148) (v := undef) (a' := ?_) #[true, true, true, true, true, true, true, true, true, true, true, true, true, true, true, true, true, true, false, false] rfl rfl (by kernel_rfl) (fun _ _ _ h => h) (Or.inr ⟨by rfl, rfl⟩) ?_ ?_
                          rotate_left
                          · simp only [Act.put, List.setIfInBounds_toArray, List.set_cons_zero, List.set_cons_succ, i64_w, i32_w]
                            rfl
                          refine pure_ (i := 18) (N := some 149) (v := ?_) (a' := ?_) #[true, true, true, true, true, true, true, true, true, true, true, true, true, true, true, true, true, true, true, false] rfl rfl (by kernel_rfl) (fun _ _ _ h => h) (Or.inl ⟨by rfl, ?_⟩) ?_ ?_
                          rotate_left
                          · intro w'
                            go_simp
                            with_reducible rfl
                          rotate_left
                          · simp only [Act.put, List.setIfInBounds_toArray, List.set_cons_zero, List.set_cons_succ, i64_w, i32_w]
                            rfl
                          refine pure_ (i := 19) (N := some 150) (v := ?_) (a' := ?_) #[true, true, true, true, true, true, true, true, true, true, true, true, true, true, true, true, true, true, true, true] rfl rfl (by kernel_rfl) (fun _ _ _ h => h) (Or.inl ⟨by rfl, ?_⟩) ?_ ?_
                          rotate_left
                          · intro w'
                            go_simp
                            with_reducible rfl
                          rotate_left
                          · simp only [Act.put, List.setIfInBounds_toArray, List.set_cons_zero, List.set_cons_succ, i64_w, i32_w]
                            rfl
                          refine done_ (by kernel_rfl) ?_
                          have hj4 := (blk_cell HBK5.out 4).trans rfl
                          have hj5 := (blk_cell HBK5.out 5).trans rfl
                          clear hk4 hk5 hHeld
                          rw [flagF_on HFX.out] at HE5
                          have hz := HN5.out.frozen 3
                          obtain ⟨u6, hu6⟩ : ∃ u, w5.cell? ⟨g2, 3, none⟩ = some u := ⟨_, HN5.out.cells.2.1⟩
                          have HN6 := Aside0.mk (HN5.out.storedF 102 3 on (by omega))
                          have HCS := Aside0.mk ((Chg.refl (fun k => k = g2) w5).setCell (p := ⟨g2, 3, none⟩) (.inl rfl) (.bool on))
                          have HE6 := Aside0.mk (HE5.out.ren HN5.out HCS.out)
                          have HB6 := Aside0.mk (below_chg HB5.out HCS.out (fun k hk => by rw [hk]; exact HG2.out))
                          go_wp2_with fail
                          refine (law_Same g m1 m2 g2 ({ S with flag := flagPut S.flag 102 on }) _ HE6.out HN6.out).mono ?_
                          rintro e w9 ⟨rfl, hb9⟩
                          have HE9 := Aside0.mk (HE6.out.below hb9)
                          have HN9 := Aside0.mk (HN6.out.below hb9)
                          have HB9 := Aside0.mk (HB6.out.trans (hb9.mono HB6.out.size))
                          clear hb9
                          go_wp2_with fail
                          go_roundw
                          case rel => exact ⟨k + 1, _, HL1.out, HL2.out, by go_num, HE9, HN9, HB9⟩
                          case measure => have := HL2.out; simp [intOf]; omega
                        · by_cases x3 : x = 117
                          · subst x3
                            have HFX := Aside0.mk (show isFlag 117 = true from rfl)
                            clear x1 x2
                            have hk4 := (blk_cell HBK.out 4).trans rfl
                            have hk5 := (blk_cell HBK.out 5).trans rfl
                            go_wp2_with fail
                            refine start_ (n := 20) (S := fun w' => w'.cell? ⟨bk, 4, none⟩ = some (.int .u8 117) ∧ w'.cell? ⟨bk, 5, none⟩ = some (.bool on)) (ds := []) #[false, false, false, false, false, false, false, false, false, false, false, false, false, false, false, false, false, false, false, false] (by kernel_rfl) rfl rfl ⟨hk4, hk5⟩ (fun hHeld => ?_)
                            have hbd : Below wx.heap.size wx wx.drew := Drawn0.below ⟨1, rfl⟩; have HED := Aside0.mk (HEX.out.below hbd); have HND := Aside0.mk (HNX.out.below hbd); have HBD := Aside0.mk (HBX.out.trans (hbd.mono HBX.out.size)); have HBKD := Aside0.mk (Chg.blk (Chg.of_below hbd none_) HBK.out (fun h => h)); clear hbd; generalize wx.drew = wd at HED HND HBD HBKD hHeld ⊢
                            refine pure_ (i := 0) (N := some 131) (v := ?_) (a' := ?_) #[true, false, false, false, false, false, false, false, false, false, false, false, false, false, false, false, false, false, false, false] rfl rfl (by kernel_rfl) (fun _ _ _ h => h) (Or.inl ⟨by rfl, ?_⟩) ?_ ?_
                            rotate_left
                            · intro w'
                              go_simp
                              with_reducible rfl
                            rotate_left
                            · simp only [Act.put, List.setIfInBounds_toArray, List.set_cons_zero, List.set_cons_succ, i64_w, i32_w]
                              rfl
                            refine pure_ (i := 1) (N := some 132) (v := ?_) (a' := ?_) #[true, true, false, false, false, false, false, false, false, false, false, false, false, false, false, false, false, false, false, false] rfl rfl (by kernel_rfl) (fun _ _ _ h => h) (Or.inl ⟨by rfl, ?_⟩) ?_ ?_
                            rotate_left
                            · intro w'
                              go_simp
                              with_reducible rfl
                            rotate_left
                            · simp only [Act.put, List.setIfInBounds_toArray, List.set_cons_zero, List.set_cons_succ, i64_w, i32_w]
                              rfl
                            refine pure_ (i := 3) (N := some 134) (v := ?_) (a' := ?_) #[true, true, false, true, false, false, false, false, false, false, false, false, false, false, false, false, false, false, false, false] rfl rfl (by kernel_rfl) (fun _ _ _ h => h) (Or.inl ⟨by rfl, ?_⟩) ?_ ?_
                            rotate_left
                            · intro w'
                              go_simp
                              with_reducible rfl
                            rotate_left
                            · simp only [Act.put, List.setIfInBounds_toArray, List.set_cons_zero, List.set_cons_succ, i64_w, i32_w]
                              rfl
                            refine pure_ (i := 6) (N := some 137) (v := ?_) (a' := ?_) #[true, true, false, true, false, false, true, false, false, false, false, false, false, false, false, false, false, false, false, false] rfl rfl (by kernel_rfl) (fun _ _ _ h => h) (Or.inl ⟨by rfl, ?_⟩) ?_ ?_
                            rotate_left
                            · intro w'
                              go_simp
                              with_reducible rfl
                            rotate_left
                            · simp only [Act.put, List.setIfInBounds_toArray, List.set_cons_zero, List.set_cons_succ, i64_w, i32_w]
                              rfl
                            refine take_ (i := 2) (N := some 133) (v := ?_) (a' := ?_) #[true, true, true, true, false, false, true, false, false, false, false, false, false, false, false, false, false, false, false, false] rfl rfl (by kernel_rfl) (fun _ _ _ h => h) (Or.inl ⟨by rfl, ?_⟩) hHeld ?_ ?_
                            rotate_left
                            · rintro w' ⟨s0, s1⟩
                              go_simp
                              with_reducible rfl
                            rotate_left
                            · simp only [Act.put, List.setIfInBounds_toArray, List.set_cons_zero, List.set_cons_succ, i64_w, i32_w]
                              rfl
                            refine take_ (i := 4) (N := some 135) (v := ?_) (a' := ?_) #[true, true, true, true, true, false, true, false, false, false, false, false, false, false, false, false, false, false, false, false] rfl rfl (by kernel_rfl) (fun _ _ _ h => h) (Or.inl ⟨by rfl, ?_⟩) hHeld ?_ ?_
                            rotate_left
                            · rintro w' ⟨s0, s1⟩
                              go_simp
                              with_reducible rfl
                            rotate_left
                            · simp only [Act.put, List.setIfInBounds_toArray, List.set_cons_zero, List.set_cons_succ, i64_w, i32_w]
                              rfl
                            refine take_ (i := 7) (N := some 138) (v := ?_) (a' := ?_) #[true, true, true, true, true, false, true, true, false, false, false, false, false, false, false, false, false, false, false, false] rfl rfl (by kernel_rfl) (fun _ _ _ h => h) (Or.inl ⟨by rfl, ?_⟩) hHeld ?_ ?_
                            rotate_left
                            · rintro w' ⟨s0, s1⟩
                              go_simp
                              with_reducible rfl
                            rotate_left
                            · simp only [Act.put, List.setIfInBounds_toArray, List.set_cons_zero, List.set_cons_succ, i64_w, i32_w]
                              rfl
                            refine pure_ (i := 8) (N := some 139) (v := ?_) (a' := ?_) #[true, true, true, true, true, false, true, true, true, false, false, false, false, false, false, false, false, false, false, false] rfl rfl (by kernel_rfl) (fun _ _ _ h => h) (Or.inl ⟨by rfl, ?_⟩) ?_ ?_
                            rotate_left
                            · intro w'
                              go_simp
                              with_reducible rfl
                            rotate_left
                            · simp only [Act.put, List.setIfInBounds_toArray, List.set_cons_zero, List.set_cons_succ, i64_w, i32_w]
                              rfl
                            refine one_ (i := 5) (N := some 136) #[true, true, true, true, true, true, true, true, true, false, false, false, false, false, false, false, false, false, false, false] rfl rfl (by kernel_rfl) (by decide) (fun K hK => ?_)
                            refine goes_ Try.func26 (by kernel_rfl) rfl #[.pointer (some ⟨g, 0, none⟩), .int .u8 117, .bool on] (by rfl) rfl rfl (by simp only [List.map_toArray, List.map_cons, List.map_nil]; rfl) ?_
                            with_reducible refine (env_SetFlag g m1 m2 S 117 on true _ HFK.out HED.out HFX.out).mono ?_
                            rintro e w5 ⟨rfl, he5, hc5⟩
                            refine ⟨_, rfl, ?_⟩
                            have HE5 := Aside0.mk he5
                            have HN5 := Aside0.mk (HND.out.env2 HED.out hc5)
                            have HB5 := Aside0.mk (below_chg HBD.out hc5 (fun k hk => by rw [hk]; exact HM2.out))
                            have HBK5 := Aside0.mk (hc5.blk HBKD.out (fun e => map_notRow HED.out.flags _ _ (by rw [← e]; exact HBKD.out)))
                            clear he5 hc5
                            refine hK.out _ _ ⟨(blk_cell HBK5.out 4).trans rfl, (blk_cell HBK5.out 5).trans rfl⟩ (fun hHeld => ?_)
                            clear hK K
                            refine norm_ (a' := ?_) ?_ ?_
                            rotate_left
                            · show Act.put _ (some 136) _ = _
                              simp only [Act.put, List.setIfInBounds_toArray, List.set_cons_zero, List.set_cons_succ, i64_w, i32_w]
                              rfl
                            refine pure_ (i := 9) (N := some 140) (v := ?_) (a' := ?_) #[true, true, true, true, true, true, true, true, true, true, false, false, false, false, false, false, false, false, false, false] rfl rfl (by kernel_rfl) (fun _ _ _ h => h) (Or.inl ⟨by rfl, ?_⟩) ?_ ?_
                            rotate_left
                            · intro w'
                              go_simp
                              with_reducible rfl
                            rotate_left
                            · simp only [Act.put, List.setIfInBounds_toArray, List.set_cons_zero, List.set_cons_succ, i64_w, i32_w]
                              rfl
                            refine pure_ (i := 10) (N := some 141) (v := ?_) (a' := ?_) #[true, true, true, true, true, true, true, true, true, true, true, false, false, false, false, false, false, false, false, false] rfl rfl (by kernel_rfl) (fun _ _ _ h => h) (Or.inl ⟨by rfl, ?_⟩) ?_ ?_
                            rotate_left
                            · intro w'
                              go_simp
                              with_reducible rfl
                            rotate_left
                            · simp only [Act.put, List.setIfInBounds_toArray, List.set_cons_zero, List.set_cons_succ, i64_w, i32_w]
                              rfl
                            refine take_ (i := 11) (N := some 142) (v := ?_) (a' := ?_) #[true, true, true, true, true, true, true, true, true, true, true, true, false, false, false, false, false, false, false, false] rfl rfl (by kernel_rfl) (fun _ _ _ h => h) (Or.inl ⟨by rfl, ?_⟩) hHeld ?_ ?_
                            rotate_left
                            · rintro w' ⟨s0, s1⟩
                              go_simp
                              with_reducible rfl
                            rotate_left
                            · simp only [Act.put, List.setIfInBounds_toArray, List.set_cons_zero, List.set_cons_succ, i64_w, i32_w]
                              rfl
                            refine pure_ (i := 12) (N := some 143) (v := ?_) (a' := ?_) #[true, true, true, true, true, true, true, true, true, true, true, true, true, false, false, false, false, false, false, false] rfl rfl (by kernel_rfl) (fun _ _ _ h => h) (Or.inl ⟨by rfl, ?_⟩) ?_ ?_
                            rotate_left
                            · intro w'
                              go_simp
                              with_reducible rfl
                            rotate_left
                            · simp only [Act.put, List.setIfInBounds_toArray, List.set_cons_zero, List.set_cons_succ, i64_w, i32_w]
                              rfl
                            refine pure_ (i := 13) (N := some 144) (v := ?_) (a' := ?_) #[true, true, true, true, true, true, true, true, true, true, true, true, true, true, false, false, false, false, false, false] rfl rfl (by kernel_rfl) (fun _ _ _ h => h) (Or.inl ⟨by rfl, ?_⟩) ?_ ?_
                            rotate_left
                            · intro w'
                              go_simp
                              with_reducible rfl
                            rotate_left
                            · simp only [Act.put, List.setIfInBounds_toArray, List.set_cons_zero, List.set_cons_succ, i64_w, i32_w]
                              rfl
                            refine pure_ (i := 14) (N := some 145) (v := ?_) (a' := ?_) #[true, true, true, true, true, true, true, true, true, true, true, true, true, true, true, false, false, false, false, false] rfl rfl (by kernel_rfl) (fun _ _ _ h => h) (Or.inl ⟨by rfl, ?_⟩) ?_ ?_
                            rotate_left
                            · intro w'
                              go_simp
                              with_reducible rfl
                            rotate_left
                            · simp only [Act.put, List.setIfInBounds_toArray, List.set_cons_zero, List.set_cons_succ, i64_w, i32_w]
                              rfl
                            refine pure_ (i := 15) (N := some 146) (v := ?_) (a' := ?_) #[true, true, true, true, true, true, true, true, true, true, true, true, true, true, true, true, false, false, false, false] rfl rfl (by kernel_rfl) (fun _ _ _ h => h) (Or.inl ⟨by rfl, ?_⟩) ?_ ?_
                            rotate_left
                            · intro w'
                              go_simp
                              with_reducible rfl
                            rotate_left
                            · simp only [Act.put, List.setIfInBounds_toArray, List.set_cons_zero, List.set_cons_succ, i64_w, i32_w]
                              rfl
                            refine take_ (i := 16) (N := some 147) (v := ?_) (a' := ?_) #[true, true, true, true, true, true, true, true, true, true, true, true, true, true, true, true, true, false, false, false] rfl rfl (by kernel_rfl) (fun _ _ _ h => h) (Or.inl ⟨by rfl, ?_⟩) hHeld ?_ ?_
                            rotate_left
                            · rintro w' ⟨s0, s1⟩
                              go_simp
                              with_reducible rfl
                            rotate_left
                            · simp only [Act.put, List.setIfInBounds_toArray, List.set_cons_zero, List.set_cons_succ, i64_w, i32_w]
                              rfl
                            refine pure_ (i := 17) (N := some 148) (v := ?_) (a' := ?_) #[true, true, true, true, true, true, true, true, true, true, true, true, true, true, true, true, true, true, false, false] rfl rfl (by kernel_rfl) (fun _ _ _ h => h) (Or.inl ⟨by rfl, ?_⟩) ?_ ?_
                            rotate_left
                            · intro w'
                              go_simp
                              with_reducible rfl
                            rotate_left
                            · simp only [Act.put, List.setIfInBounds_toArray, List.set_cons_zero, List.set_cons_succ, i64_w, i32_w]
                              rfl
                            refine pure_ (i := 18) (N := some 149) (v := ?_) (a' := ?_) #[true, true, true, true, true, true, true, true, true, true, true, true, true, true, true, true, true, true, true, false] rfl rfl (by kernel_rfl) (fun _ _ _ h => h) (Or.inl ⟨by rfl, ?_⟩) ?_ ?_
                            rotate_left
                            · intro w'
                              go_simp
                              with_reducible rfl
                            rotate_left
                            · simp only [Act.put, List.setIfInBounds_toArray, List.set_cons_zero, List.set_cons_succ, i64_w, i32_w]
                              rfl
                            refine pure_ (i := 19) (N := some 150) (v := ?_) (a' := ?_) #[true, true, true, true, true, true, true, true, true, true, true, true, true, true, true, true, true, true, true, true] rfl rfl (by kernel_rfl) (fun _ _ _ h => h) (Or.inl ⟨by rfl, ?_⟩) ?_ ?_
                            rotate_left
                            · intro w'
                              go_simp
                              with_reducible rfl
                            rotate_left
                            · simp only [Act.put, List.setIfInBounds_toArray, List.set_cons_zero, List.set_cons_succ, i64_w, i32_w]
                              rfl
                            refine done_ (by kernel_rfl) ?_
                            have hj4 := (blk_cell HBK5.out 4).trans rfl
                            have hj5 := (blk_cell HBK5.out 5).trans rfl
                            clear hk4 hk5 hHeld
                            rw [flagF_on HFX.out] at HE5
                            have hz := HN5.out.frozen 4
                            obtain ⟨u6, hu6⟩ : ∃ u, w5.cell? ⟨g2, 4, none⟩ = some u := ⟨_, HN5.out.cells.2.2⟩
                            have HN6 := Aside0.mk (HN5.out.storedF 117 4 on (by omega))
                            have HCS := Aside0.mk ((Chg.refl (fun k => k = g2) w5).setCell (p := ⟨g2, 4, none⟩) (.inl rfl) (.bool on))
                            have HE6 := Aside0.mk (HE5.out.ren HN5.out HCS.out)
                            have HB6 := Aside0.mk (below_chg HB5.out HCS.out (fun k hk => by rw [hk]; exact HG2.out))
                            go_wp2_with fail
                            refine (law_Same g m1 m2 g2 ({ S with flag := flagPut S.flag 117 on }) _ HE6.out HN6.out).mono ?_
                            rintro e w9 ⟨rfl, hb9⟩
                            have HE9 := Aside0.mk (HE6.out.below hb9)
                            have HN9 := Aside0.mk (HN6.out.below hb9)
                            have HB9 := Aside0.mk (HB6.out.trans (hb9.mono HB6.out.size))
                            clear hb9
                            go_wp2_with fail
                            go_roundw
                            case rel => exact ⟨k + 1, _, HL1.out, HL2.out, by go_num, HE9, HN9, HB9⟩
                            case measure => have := HL2.out; simp [intOf]; omega
                          · have HFX := Aside0.mk (show isFlag x = false from by unfold isFlag; simp [x1, x2, x3])
                            have y1 : (x == 101) = false := beq_eq_false_iff_ne.2 x1
                            have y2 : (x == 102) = false := beq_eq_false_iff_ne.2 x2
                            have y3 : (x == 117) = false := beq_eq_false_iff_ne.2 x3
                            clear x1 x2 x3
                            have hk4 := (blk_cell HBK.out 4).trans rfl
                            have hk5 := (blk_cell HBK.out 5).trans rfl
                            go_wp2_with fail
                            refine start_ (n := 20) (S := fun w' => w'.cell? ⟨bk, 4, none⟩ = some (.int .u8 x) ∧ w'.cell? ⟨bk, 5, none⟩ = some (.bool on)) (ds := []) #[false, false, false, false, false, false, false, false, false, false, false, false, false, false, false, false, false, false, false, false] (by kernel_rfl) rfl rfl ⟨hk4, hk5⟩ (fun hHeld => ?_)
                            have hbd : Below wx.heap.size wx wx.drew := Drawn0.below ⟨1, rfl⟩; have HED := Aside0.mk (HEX.out.below hbd); have HND := Aside0.mk (HNX.out.below hbd); have HBD := Aside0.mk (HBX.out.trans (hbd.mono HBX.out.size)); have HBKD := Aside0.mk (Chg.blk (Chg.of_below hbd none_) HBK.out (fun h => h)); clear hbd; generalize wx.drew = wd at HED HND HBD HBKD hHeld ⊢
                            refine pure_ (i := 0) (N := some 131) (v := ?_) (a' := ?_) #[true, false, false, false, false, false, false, false, false, false, false, false, false, false, false, false, false, false, false, false] rfl rfl (by kernel_rfl) (fun _ _ _ h => h) (Or.inl ⟨by rfl, ?_⟩) ?_ ?_
                            rotate_left
                            · intro w'
                              go_simp
                              with_reducible rfl
                            rotate_left
                            · simp only [Act.put, List.setIfInBounds_toArray, List.set_cons_zero, List.set_cons_succ, i64_w, i32_w]
                              rfl
                            refine pure_ (i := 1) (N := some 132) (v := ?_) (a' := ?_) #[true, true, false, false, false, false, false, false, false, false, false, false, false, false, false, false, false, false, false, false] rfl rfl (by kernel_rfl) (fun _ _ _ h => h) (Or.inl ⟨by rfl, ?_⟩) ?_ ?_
                            rotate_left
                            · intro w'
                              go_simp
                              with_reducible rfl
                            rotate_left
                            · simp only [Act.put, List.setIfInBounds_toArray, List.set_cons_zero, List.set_cons_succ, i64_w, i32_w]
                              rfl
                            refine pure_ (i := 3) (N := some 134) (v := ?_) (a' := ?_) #[true, true, false, true, false, false, false, false, false, false, false, false, false, false, false, false, false, false, false, false] rfl rfl (by kernel_rfl) (fun _ _ _ h => h) (Or.inl ⟨by rfl, ?_⟩) ?_ ?_
                            rotate_left
                            · intro w'
                              go_simp
                              with_reducible rfl
                            rotate_left
                            · simp only [Act.put, List.setIfInBounds_toArray, List.set_cons_zero, List.set_cons_succ, i64_w, i32_w]
                              rfl
                            refine pure_ (i := 6) (N := some 137) (v := ?_) (a' := ?_) #[true, true, false, true, false, false, true, false, false, false, false, false, false, false, false, false, false, false, false, false] rfl rfl (by kernel_rfl) (fun _ _ _ h => h) (Or.inl ⟨by rfl, ?_⟩) ?_ ?_
                            rotate_left
                            · intro w'
                              go_simp
                              with_reducible rfl
                            rotate_left
                            · simp only [Act.put, List.setIfInBounds_toArray, List.set_cons_zero, List.set_cons_succ, i64_w, i32_w]
                              rfl
                            refine take_ (i := 2) (N := some 133) (v := ?_) (a' := ?_) #[true, true, true, true, false, false, true, false, false, false, false, false, false, false, false, false, false, false, false, false] rfl rfl (by kernel_rfl) (fun _ _ _ h => h) (Or.inl ⟨by rfl, ?_⟩) hHeld ?_ ?_
                            rotate_left
                            · rintro w' ⟨s0, s1⟩
                              go_simp
                              with_reducible rfl
                            rotate_left
                            · simp only [Act.put, List.setIfInBounds_toArray, List.set_cons_zero, List.set_cons_succ, i64_w, i32_w]
                              rfl
                            refine take_ (i := 4) (N := some 135) (v := ?_) (a' := ?_) #[true, true, true, true, true, false, true, false, false, false, false, false, false, false, false, false, false, false, false, false] rfl rfl (by kernel_rfl) (fun _ _ _ h => h) (Or.inl ⟨by rfl, ?_⟩) hHeld ?_ ?_
                            rotate_left
                            · rintro w' ⟨s0, s1⟩
                              go_simp
                              with_reducible rfl
                            rotate_left
                            · simp only [Act.put, List.setIfInBounds_toArray, List.set_cons_zero, List.set_cons_succ, i64_w, i32_w]
                              rfl
                            refine take_ (i := 7) (N := some 138) (v := ?_) (a' := ?_) #[true, true, true, true, true, false, true, true, false, false, false, false, false, false, false, false, false, false, false, false] rfl rfl (by kernel_rfl) (fun _ _ _ h => h) (Or.inl ⟨by rfl, ?_⟩) hHeld ?_ ?_
                            rotate_left
                            · rintro w' ⟨s0, s1⟩
                              go_simp
                              with_reducible rfl
                            rotate_left
                            · simp only [Act.put, List.setIfInBounds_toArray, List.set_cons_zero, List.set_cons_succ, i64_w, i32_w]
                              rfl
                            refine pure_ (i := 8) (N := some 139) (v := ?_) (a' := ?_) #[true, true, true, true, true, false, true, true, true, false, false, false, false, false, false, false, false, false, false, false] rfl rfl (by kernel_rfl) (fun _ _ _ h => h) (Or.inl ⟨by rfl, ?_⟩) ?_ ?_
                            rotate_left
                            · intro w'
                              go_simp
                              with_reducible rfl
                            rotate_left
                            · simp only [Act.put, List.setIfInBounds_toArray, List.set_cons_zero, List.set_cons_succ, i64_w, i32_w]
                              rfl
                            refine one_ (i := 5) (N := some 136) #[true, true, true, true, true, true, true, true, true, false, false, false, false, false, false, false, false, false, false, false] rfl rfl (by kernel_rfl) (by decide) (fun K hK => ?_)
                            refine goes_ Try.func26 (by kernel_rfl) rfl #[.pointer (some ⟨g, 0, none⟩), .int .u8 x, .bool on] (by rfl) rfl rfl (by simp only [List.map_toArray, List.map_cons, List.map_nil]; rfl) ?_
                            with_reducible refine (env_SetFlag g m1 m2 S x on false _ HFK.out HED.out HFX.out).mono ?_
                            rintro e w5 ⟨rfl, he5, hc5⟩
                            refine ⟨_, rfl, ?_⟩
                            have HE5 := Aside0.mk he5
                            have HN5 := Aside0.mk (HND.out.env2 HED.out hc5)
                            have HB5 := Aside0.mk (below_chg HBD.out hc5 (fun k hk => by rw [hk]; exact HM2.out))
                            have HBK5 := Aside0.mk (hc5.blk HBKD.out (fun e => map_notRow HED.out.flags _ _ (by rw [← e]; exact HBKD.out)))
                            clear he5 hc5
                            refine hK.out _ _ ⟨(blk_cell HBK5.out 4).trans rfl, (blk_cell HBK5.out 5).trans rfl⟩ (fun hHeld => ?_)
                            clear hK K
                            refine norm_ (a' := ?_) ?_ ?_
                            rotate_left
                            · show Act.put _ (some 136) _ = _
                              simp only [Act.put, List.setIfInBounds_toArray, List.set_cons_zero, List.set_cons_succ, i64_w, i32_w]
                              rfl
                            refine pure_ (i := 9) (N := some 140) (v := ?_) (a' := ?_) #[true, true, true, true, true, true, true, true, true, true, false, false, false, false, false, false, false, false, false, false] rfl rfl (by kernel_rfl) (fun _ _ _ h => h) (Or.inl ⟨by rfl, ?_⟩) ?_ ?_
                            rotate_left
                            · intro w'
                              go_simp
                              with_reducible rfl
                            rotate_left
                            · simp only [Act.put, List.setIfInBounds_toArray, List.set_cons_zero, List.set_cons_succ, i64_w, i32_w]
                              rfl
                            refine pure_ (i := 10) (N := some 141) (v := ?_) (a' := ?_) #[true, true, true, true, true, true, true, true, true, true, true, false, false, false, false, false, false, false, false, false] rfl rfl (by kernel_rfl) (fun _ _ _ h => h) (Or.inl ⟨by rfl, ?_⟩) ?_ ?_
                            rotate_left
                            · intro w'
                              go_simp
                              with_reducible rfl
                            rotate_left
                            · simp only [Act.put, List.setIfInBounds_toArray, List.set_cons_zero, List.set_cons_succ, i64_w, i32_w]
                              rfl
                            refine take_ (i := 11) (N := some 142) (v := ?_) (a' := ?_) #[true, true, true, true, true, true, true, true, true, true, true, true, false, false, false, false, false, false, false, false] rfl rfl (by kernel_rfl) (fun _ _ _ h => h) (Or.inl ⟨by rfl, ?_⟩) hHeld ?_ ?_
                            rotate_left
                            · rintro w' ⟨s0, s1⟩
                              go_simp
                              with_reducible rfl
                            rotate_left
                            · simp only [Act.put, List.setIfInBounds_toArray, List.set_cons_zero, List.set_cons_succ, i64_w, i32_w]
                              rfl
                            refine pure_ (i := 12) (N := some 143) (v := ?_) (a' := ?_) #[true, true, true, true, true, true, true, true, true, true, true, true, true, false, false, false, false, false, false, false] rfl rfl (by kernel_rfl) (fun _ _ _ h => h) (Or.inl ⟨by rfl, ?_⟩) ?_ ?_
                            rotate_left
                            · intro w'
                              go_simp
                              with_reducible rfl
                            rotate_left
                            · simp only [Act.put, List.setIfInBounds_toArray, List.set_cons_zero, List.set_cons_succ, i64_w, i32_w]
                              rfl
                            refine pure_ (i := 13) (N := some 144) (v := ?_) (a' := ?_) #[true, true, true, true, true, true, true, true, true, true, true, true, true, true, false, false, false, false, false, false] rfl rfl (by kernel_rfl) (fun _ _ _ h => h) (Or.inl ⟨by rfl, ?_⟩) ?_ ?_
                            rotate_left
                            · intro w'
                              go_simp
                              with_reducible rfl
                            rotate_left
                            · simp only [Act.put, List.setIfInBounds_toArray, List.set_cons_zero, List.set_cons_succ, i64_w, i32_w]
                              rfl
                            refine pure_ (i := 14) (N := some 145) (v := ?_) (a' := ?_) #[true, true, true, true, true, true, true, true, true, true, true, true, true, true, true, false, false, false, false, false] rfl rfl (by kernel_rfl) (fun _ _ _ h => h) (Or.inl ⟨by rfl, ?_⟩) ?_ ?_
                            rotate_left
                            · intro w'
                              go_simp
                              with_reducible rfl
                            rotate_left
                            · simp only [Act.put, List.setIfInBounds_toArray, List.set_cons_zero, List.set_cons_succ, i64_w, i32_w]
                              rfl
                            refine pure_ (i := 15) (N := some 146) (v := ?_) (a' := ?_) #[true, true, true, true, true, true, true, true, true, true, true, true, true, true, true, true, false, false, false, false] rfl rfl (by kernel_rfl) (fun _ _ _ h => h) (Or.inl ⟨by rfl, ?_⟩) ?_ ?_
                            rotate_left
                            · intro w'
                              go_simp
                              with_reducible rfl
                            rotate_left
                            · simp only [Act.put, List.setIfInBounds_toArray, List.set_cons_zero, List.set_cons_succ, i64_w, i32_w]
                              rfl
                            refine take_ (i := 16) (N := some 147) (v := ?_) (a' := ?_) #[true, true, true, true, true, true, true, true, true, true, true, true, true, true, true, true, true, false, false, false] rfl rfl (by kernel_rfl) (fun _ _ _ h => h) (Or.inl ⟨by rfl, ?_⟩) hHeld ?_ ?_
                            rotate_left
                            · rintro w' ⟨s0, s1⟩
                              go_simp
                              with_reducible rfl
                            rotate_left
                            · simp only [Act.put, List.setIfInBounds_toArray, List.set_cons_zero, List.set_cons_succ, i64_w, i32_w]
                              rfl
                            refine pure_ (i := 17) (N := some 148) (v := ?_) (a' := ?_) #[true, true, true, true, true, true, true, true, true, true, true, true, true, true, true, true, true, true, false, false] rfl rfl (by kernel_rfl) (fun _ _ _ h => h) (Or.inl ⟨by rfl, ?_⟩) ?_ ?_
                            rotate_left
                            · intro w'
                              go_simp
                              with_reducible rfl
                            rotate_left
                            · simp only [Act.put, List.setIfInBounds_toArray, List.set_cons_zero, List.set_cons_succ, i64_w, i32_w]
                              rfl
                            refine pure_ (i := 18) (N := some 149) (v := ?_) (a' := ?_) #[true, true, true, true, true, true, true, true, true, true, true, true, true, true, true, true, true, true, true, false] rfl rfl (by kernel_rfl) (fun _ _ _ h => h) (Or.inl ⟨by rfl, ?_⟩) ?_ ?_
                            rotate_left
                            · intro w'
                              go_simp
                              with_reducible rfl
                            rotate_left
                            · simp only [Act.put, List.setIfInBounds_toArray, List.set_cons_zero, List.set_cons_succ, i64_w, i32_w]
                              rfl
                            refine pure_ (i := 19) (N := some 150) (v := ?_) (a' := ?_) #[true, true, true, true, true, true, true, true, true, true, true, true, true, true, true, true, true, true, true, true] rfl rfl (by kernel_rfl) (fun _ _ _ h => h) (Or.inl ⟨by rfl, ?_⟩) ?_ ?_
                            rotate_left
                            · intro w'
                              go_simp
                              with_reducible rfl
                            rotate_left
                            · simp only [Act.put, List.setIfInBounds_toArray, List.set_cons_zero, List.set_cons_succ, i64_w, i32_w]
                              rfl
                            refine done_ (by kernel_rfl) ?_
                            have hj4 := (blk_cell HBK5.out 4).trans rfl
                            have hj5 := (blk_cell HBK5.out 5).trans rfl
                            clear hk4 hk5 hHeld
                            rw [flagF_off HFX.out] at HE5
                            go_wp2_with fail
                            refine (law_Same g m1 m2 g2 (S) _ HE5.out HN5.out).mono ?_
                            rintro e w9 ⟨rfl, hb9⟩
                            have HE9 := Aside0.mk (HE5.out.below hb9)
                            have HN9 := Aside0.mk (HN5.out.below hb9)
                            have HB9 := Aside0.mk (HB5.out.trans (hb9.mono HB5.out.size))
                            clear hb9
                            go_wp2_with fail
                            go_roundw
                            case rel => exact ⟨k + 1, _, HL1.out, HL2.out, by go_num, HE9, HN9, HB9⟩
                            case measure => have := HL2.out; simp [intOf]; omega
                    · have q3 : (kd == 3) = false := beq_eq_false_iff_ne.2 h3
                      clear h3
                      have hk1 := (blk_cell HBK.out 1).trans rfl
                      obtain ⟨⟨vv, bb⟩, hget⟩ : ∃ p, getF S nm = p := ⟨_, rfl⟩
                      have HGET := Aside0.mk hget
                      clear hget
                      go_wp2_with fail
                      refine (env_Get g m1 m2 S nm vv bb _ (by have := HNM.out; omega) HEX.out HGET.out).mono ?_
                      rintro e w5 ⟨rfl, hd⟩
                      have HE5 := Aside0.mk (HEX.out.drawn hd)
                      have HN5 := Aside0.mk (HNX.out.drawn hd)
                      have HB5 := Aside0.mk (HBX.out.trans (hd.below.mono HBX.out.size))
                      have HBK5 := Aside0.mk ((Chg.of_drawn hd none_).blk HBK.out (fun h => h))
                      have hj1 := (blk_cell HBK5.out 1).trans rfl
                      clear hd hk1
                      go_wp2_with fail
                      refine (ren_Get g2 S nm vv bb _ (by have := HNM.out; omega) HN5.out HGET.out).mono ?_
                      rintro e w6 ⟨rfl, hd⟩
                      have HE6 := Aside0.mk (HE5.out.drawn hd)
                      have HN6 := Aside0.mk (HN5.out.drawn hd)
                      have HB6 := Aside0.mk (HB5.out.trans (hd.below.mono HB5.out.size))
                      clear hd
                      go_wp2_with fail
                      refine (law_Same g m1 m2 g2 (S) _ HE6.out HN6.out).mono ?_
                      rintro e w9 ⟨rfl, hb9⟩
                      have HE9 := Aside0.mk (HE6.out.below hb9)
                      have HN9 := Aside0.mk (HN6.out.below hb9)
                      have HB9 := Aside0.mk (HB6.out.trans (hb9.mono HB6.out.size))
                      clear hb9
                      go_wp2_with fail
                      go_roundw
                      case rel => exact ⟨k + 1, _, HL1.out, HL2.out, by go_num, HE9, HN9, HB9⟩
                      case measure => have := HL2.out; simp [intOf]; omega
          · have hv' : (200 : Int) < (v.size : Int) := by omega
            have HBX := Aside0.mk (HBW.out.alloc HBW.out.size (.cells #[.int .i64 kd, .string nm, .string v, .slice A3 ar.length c3, .int .u8 x, .bool on] 46))
            clear hv hcells
            go_wp2_with fail
            go_ret
            exact ⟨rfl, HBX.out⟩
        · have hnm' : (60 : Int) < (nm.size : Int) := by omega
          have HBX := Aside0.mk (HBW.out.alloc HBW.out.size (.cells #[.int .i64 kd, .string nm, .string v, .slice A3 ar.length c3, .int .u8 x, .bool on] 46))
          clear hnm hcells
          go_wp2_with fail
          go_ret
          exact ⟨rfl, HBX.out⟩
      · by_cases hl : k < ol.length
        · have hl1 : (k : Int) < (ol.length : Int) := by omega
          have hl2 : (60 : Int) ≤ (k : Int) := by omega
          have hlo' : (ol.length : Int) ≤ (co : Int) := by omega
          clear hlt hl hk hk60
          go_wp2_with fail
          refine (env_Copy g m1 m2 S _ HE.out).mono ?_
          rintro e w5 ⟨g', n1, n2, rfl, he5, hb5, hg', hn1, hn2⟩
          have HAP := Aside0.mk (show Apart g m1 m2 g' n1 n2 from by have := HE.out.lt; exact ⟨by omega, by omega, by omega, by omega, by omega⟩)
          have HG' := Aside0.mk (Nat.le_trans HBW.out.size hg')
          have HN1' := Aside0.mk (Nat.le_trans HBW.out.size hn1)
          have HN2' := Aside0.mk (Nat.le_trans HBW.out.size hn2)
          have HE5 := Aside0.mk (HE.out.below hb5)
          have HN5 := Aside0.mk (HN.out.below hb5)
          have HB5 := Aside0.mk (HBW.out.trans (hb5.mono HBW.out.size))
          have HC5 := Aside0.mk he5
          clear he5 hb5 hg' hn1 hn2
          go_wp2_with fail
          refine (law_Same g' n1 n2 g2 S _ HC5.out HN5.out).mono ?_
          rintro e w6 ⟨rfl, hb6⟩
          have HE6 := Aside0.mk (HE5.out.below hb6)
          have HN6 := Aside0.mk (HN5.out.below hb6)
          have HC6 := Aside0.mk (HC5.out.below hb6)
          have HB6 := Aside0.mk (HB5.out.trans (hb6.mono HB5.out.size))
          clear hb6
          obtain ⟨⟨r1, S1⟩, hset⟩ : ∃ p, setF S ⟨#[122, 122]⟩ ⟨#[49]⟩ = p := ⟨_, rfl⟩
          have HSET := Aside0.mk hset
          clear hset
          go_wp2_with fail
          refine (env_Set g' n1 n2 S S1 ⟨#[122, 122]⟩ ⟨#[49]⟩ r1 _ (by decide) (by decide) HC6.out HSET.out).mono ?_
          rintro e w7 ⟨rfl, he7, hc7⟩
          have HE7 := Aside0.mk (HE6.out.env1 HC6.out HAP.out hc7)
          have HN7 := Aside0.mk (HN6.out.env1 HC6.out hc7)
          have HC7 := Aside0.mk he7
          have HB7 := Aside0.mk (below_chg HB6.out hc7 (fun k hk => by rw [hk]; exact HN1'.out))
          clear he7 hc7
          go_wp2_with fail
          have hbl : Below w7.heap.size w7 (w7.alloc (.cells ([⟨#[49]⟩, ⟨#[50]⟩, ⟨#[51]⟩].map Value.string).toArray 9)) := (Below.refl _ _).alloc (Nat.le_refl _) _
          have HE8 := Aside0.mk (HE7.out.below hbl)
          have HN8 := Aside0.mk (HN7.out.below hbl)
          have HC8 := Aside0.mk (HC7.out.below hbl)
          have HB8 := Aside0.mk (HB7.out.trans (hbl.mono HB7.out.size))
          have HLT := Aside0.mk HC7.out.lt.1
          clear hbl
          refine (env_SetArgs g' n1 n2 S1 (some ⟨w7.heap.size, 0, none⟩) 3 [⟨#[49]⟩, ⟨#[50]⟩, ⟨#[51]⟩] _ (e_lit_C w7 [⟨#[49]⟩, ⟨#[50]⟩, ⟨#[51]⟩] 9 (by decide)) (by decide) (by decide +kernel) ?_ HC8.out).mono ?_
          · intro ad' he _ hb
            injection he with he
            have := HLT.out
            rw [← he] at hb
            exact absurd hb (by show w7.heap.size ≠ g'; omega)
          rintro e w9 ⟨rfl, he9, hc9⟩
          have HE9 := Aside0.mk (HE8.out.env0 HC8.out HAP.out hc9)
          have HN9 := Aside0.mk (HN8.out.env0 HC8.out hc9)
          have HC9 := Aside0.mk he9
          have HB9 := Aside0.mk (below_chg HB8.out hc9 (fun k hk => by rw [hk]; exact HG'.out))
          clear he9 hc9
          have hcell := HN9.out.cells.1
          generalize onB S.flag.1 = f at hcell
          go_wp2_with fail
          refine (env_SetFlag g' n1 n2 _ 101 (!f) true _ (by decide) HC9.out rfl).mono ?_
          rintro e w10 ⟨rfl, he10, hc10⟩
          have HE10 := Aside0.mk (HE9.out.env2 HC9.out HAP.out hc10)
          have HN10 := Aside0.mk (HN9.out.env2 HC9.out hc10)
          have HB10 := Aside0.mk (below_chg HB9.out hc10 (fun k hk => by rw [hk]; exact HN2'.out))
          clear he10 hc10 hcell
          go_wp2_with fail
          refine (law_Same g m1 m2 g2 S _ HE10.out HN10.out).mono ?_
          rintro e w11 ⟨rfl, hb⟩
          have HB11 := Aside0.mk (HB10.out.trans (hb.mono HB10.out.size))
          clear hb
          go_wp2_with fail
          go_ret
          exact ⟨rfl, HB11.out⟩
        · have hl1 : (ol.length : Int) ≤ (k : Int) := by omega
          clear hlt hl hk hk60
          go_wp2_with fail
          refine (env_Copy g m1 m2 S _ HE.out).mono ?_
          rintro e w5 ⟨g', n1, n2, rfl, he5, hb5, hg', hn1, hn2⟩
          have HAP := Aside0.mk (show Apart g m1 m2 g' n1 n2 from by have := HE.out.lt; exact ⟨by omega, by omega, by omega, by omega, by omega⟩)
          have HG' := Aside0.mk (Nat.le_trans HBW.out.size hg')
          have HN1' := Aside0.mk (Nat.le_trans HBW.out.size hn1)
          have HN2' := Aside0.mk (Nat.le_trans HBW.out.size hn2)
          have HE5 := Aside0.mk (HE.out.below hb5)
          have HN5 := Aside0.mk (HN.out.below hb5)
          have HB5 := Aside0.mk (HBW.out.trans (hb5.mono HBW.out.size))
          have HC5 := Aside0.mk he5
          clear he5 hb5 hg' hn1 hn2
          go_wp2_with fail
          refine (law_Same g' n1 n2 g2 S _ HC5.out HN5.out).mono ?_
          rintro e w6 ⟨rfl, hb6⟩
          have HE6 := Aside0.mk (HE5.out.below hb6)
          have HN6 := Aside0.mk (HN5.out.below hb6)
          have HC6 := Aside0.mk (HC5.out.below hb6)
          have HB6 := Aside0.mk (HB5.out.trans (hb6.mono HB5.out.size))
          clear hb6
          obtain ⟨⟨r1, S1⟩, hset⟩ : ∃ p, setF S ⟨#[122, 122]⟩ ⟨#[49]⟩ = p := ⟨_, rfl⟩
          have HSET := Aside0.mk hset
          clear hset
          go_wp2_with fail
          refine (env_Set g' n1 n2 S S1 ⟨#[122, 122]⟩ ⟨#[49]⟩ r1 _ (by decide) (by decide) HC6.out HSET.out).mono ?_
          rintro e w7 ⟨rfl, he7, hc7⟩
          have HE7 := Aside0.mk (HE6.out.env1 HC6.out HAP.out hc7)
          have HN7 := Aside0.mk (HN6.out.env1 HC6.out hc7)
          have HC7 := Aside0.mk he7
          have HB7 := Aside0.mk (below_chg HB6.out hc7 (fun k hk => by rw [hk]; exact HN1'.out))
          clear he7 hc7
          go_wp2_with fail
          have hbl : Below w7.heap.size w7 (w7.alloc (.cells ([⟨#[49]⟩, ⟨#[50]⟩, ⟨#[51]⟩].map Value.string).toArray 9)) := (Below.refl _ _).alloc (Nat.le_refl _) _
          have HE8 := Aside0.mk (HE7.out.below hbl)
          have HN8 := Aside0.mk (HN7.out.below hbl)
          have HC8 := Aside0.mk (HC7.out.below hbl)
          have HB8 := Aside0.mk (HB7.out.trans (hbl.mono HB7.out.size))
          have HLT := Aside0.mk HC7.out.lt.1
          clear hbl
          refine (env_SetArgs g' n1 n2 S1 (some ⟨w7.heap.size, 0, none⟩) 3 [⟨#[49]⟩, ⟨#[50]⟩, ⟨#[51]⟩] _ (e_lit_C w7 [⟨#[49]⟩, ⟨#[50]⟩, ⟨#[51]⟩] 9 (by decide)) (by decide) (by decide +kernel) ?_ HC8.out).mono ?_
          · intro ad' he _ hb
            injection he with he
            have := HLT.out
            rw [← he] at hb
            exact absurd hb (by show w7.heap.size ≠ g'; omega)
          rintro e w9 ⟨rfl, he9, hc9⟩
          have HE9 := Aside0.mk (HE8.out.env0 HC8.out HAP.out hc9)
          have HN9 := Aside0.mk (HN8.out.env0 HC8.out hc9)
          have HC9 := Aside0.mk he9
          have HB9 := Aside0.mk (below_chg HB8.out hc9 (fun k hk => by rw [hk]; exact HG'.out))
          clear he9 hc9
          have hcell := HN9.out.cells.1
          generalize onB S.flag.1 = f at hcell
          go_wp2_with fail
          refine (env_SetFlag g' n1 n2 _ 101 (!f) true _ (by decide) HC9.out rfl).mono ?_
          rintro e w10 ⟨rfl, he10, hc10⟩
          have HE10 := Aside0.mk (HE9.out.env2 HC9.out HAP.out hc10)
          have HN10 := Aside0.mk (HN9.out.env2 HC9.out hc10)
          have HB10 := Aside0.mk (below_chg HB9.out hc10 (fun k hk => by rw [hk]; exact HN2'.out))
          clear he10 hc10 hcell
          go_wp2_with fail
          refine (law_Same g m1 m2 g2 S _ HE10.out HN10.out).mono ?_
          rintro e w11 ⟨rfl, hb⟩
          have HB11 := Aside0.mk (HB10.out.trans (hb.mono HB10.out.size))
          clear hb
          go_wp2_with fail
          go_ret
          exact ⟨rfl, HB11.out⟩
end Go.Proofs.Ytfdjbjinomfgiaa
