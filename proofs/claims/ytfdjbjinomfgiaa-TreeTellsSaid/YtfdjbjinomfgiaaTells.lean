/- TreeTells: the walk. -/
import Derived.Test.YtfdjbjinomfgiaaRefC
namespace Go.Proofs.Ytfdjbjinomfgiaa
open Go.RowKit Go.Proofs.YtfdjbjinomfgiaaW.PrintWords Go.Proofs.YtfdjbjinomfgiaaW.PrintLast Go.Proofs.YtfdjbjinomfgiaaW.PrintMore GrTree
set_option linter.unusedSimpArgs false
set_option linter.unusedVariables false

set_option maxHeartbeats 4000000 in
set_option maxRecDepth 100000 in
theorem tells_early (A A2 Ap : Option Addr) (c c2 cp np : Nat) (names l : List ByteArray) (pt raw : ByteArray) (w : World) (hn : names.length ≤ 9223372036854775807) (hl : l.length ≤ 9223372036854775807)
    (h : 250 < names.length ∨ names.length ≤ 250 ∧ 60 < l.length ∨ names.length ≤ 250 ∧ l.length ≤ 60 ∧ 60 < pt.size ∨ names.length ≤ 250 ∧ l.length ≤ 60 ∧ pt.size ≤ 60 ∧ 60 < raw.size) :
    Calls Try.prog 7 #[.slice A names.length c, .slice A2 l.length c2, .agg #[.string pt, .slice Ap np cp], .string raw] w fun e w' => e = .returned (.bool true) ∧ Below w.heap.size w w' := by
  have hB0 : Below w.heap.size w (w.alloc (.cells #[.string pt, .slice Ap np cp] 60)) := (Below.refl _ _).alloc (Nat.le_refl _) _
  have HB0 := Aside0.mk hB0
  clear hB0
  have hA : (250 : Int) < (names.length : Int) ∨ (names.length : Int) ≤ 250 ∧ (60 : Int) < (l.length : Int) ∨ (names.length : Int) ≤ 250 ∧ (l.length : Int) ≤ 60 ∧ (60 : Int) < (pt.size : Int) ∨ (names.length : Int) ≤ 250 ∧ (l.length : Int) ≤ 60 ∧ (pt.size : Int) ≤ 60 ∧ (60 : Int) < (raw.size : Int) := by omega
  clear h
  rcases hA with h1 | ⟨h1, h2⟩ | ⟨h1, h2, h3⟩ | ⟨h1, h2, h3, h4⟩ <;> (
    go_enter Try.func7, Try.ntmps7
    go_wp2_with (go_at_call 29; refine (awake12 _).mono ?_; rintro e w1 ⟨rfl, hb⟩; have HB := Aside0.mk hb; clear hb)
    go_ret
    exact ⟨rfl, HB0.out.trans (HB.out.mono HB0.out.size)⟩)

def sOwn : ByteArray := ⟨#[111, 110, 101, 32, 111, 102, 32, 116, 104, 101, 32, 99, 111, 112, 121, 39, 115, 32, 111, 119, 110]⟩
theorem cell_blk {w : World} {b : Nat} {cs : Array Value} {t : TypeId} (h : w.heap[b]? = some (.cells cs t (0, 0))) (j : Nat) {v : Value} (hj : cs[j]? = some v) : w.cell? ⟨b, j, none⟩ = some v := by
  simp [World.cell?, h, hj]
section
variable {ops : Array Oper} {a : Act} {o : Oper} {Kc : Act → World → Prop} {Q : Exit → Act → World → Prop} {W : World}
theorem lits_step (n : Nat) {cs : Array Value} {t : TypeId} (hw : Region.wanted o (yielded ops a.tmps) = true)
    (hrun : (execOp a.eval o).run Try.prog W = .ok (.value (.slice (some ⟨W.heap.size, 0, none⟩) n n)) (W.alloc (.cells cs t (0, 0))))
    (h : ∀ b, b = W.heap.size → ∀ w1, w1.heap[b]? = some (.cells cs t (0, 0)) → Below W.heap.size W w1 → Kc (a.put o.dst (.slice (some ⟨b, 0, none⟩) n n)) w1) :
    if Region.wanted o (yielded ops a.tmps) = true then Oper.wp Try.prog o a W Kc Q else Kc (a.put o.dst undef) W :=
  event_step hw hrun (h _ rfl _ (heap_alloc_new W _) ((Below.refl _ _).alloc (Nat.le_refl _) _))
end
theorem store_pat_row {W : World} {b : Nat} {z0 z1 : Value} {qt : ByteArray} {qv : Value} (hb : W.heap[b]? = some (.cells #[z0, z1] 60 (0, 0))) : (W.setCells b 0 [.string qt, qv]).heap[b]? = some (.cells #[.string qt, qv] 60 (0, 0)) := by
  simp [World.setCells, World.setCell, Array.getElem?_modify, hb]
theorem store_pat {W : World} {b : Nat} {z0 z1 : Value} {qt : ByteArray} {A : Option Addr} {n c : Nat} {a : Act} {o : Oper} (hb : W.heap[b]? = some (.cells #[z0, z1] 60 (0, 0))) (p x : Operand) (ho : o.op = .store 60 p x) (hp : a.eval p = .pointer (some ⟨b, 0, none⟩)) (hx : a.eval x = .agg #[.string qt, .slice A n c]) :
    (execOp a.eval o).run Try.prog W = .ok .skip (W.setCells b 0 [.string qt, .slice A n c]) := by
  have h := run_store_run (P := Try.prog) (o := 0) 60 (.agg #[.string qt, .slice A n c]) [.string qt, .slice A n c] hb rfl (by kernel_rfl) (by simp) (by intro q hq; simp at hq; rcases hq with rfl | rfl <;> rfl)
  simp [execOp, ho, hp, hx, h]
theorem C_chg_typed {S : Nat → Prop} {w W : World} {A : Option Addr} {l : List Bool} (h : Kd.C Kd.bool w A l.length l) (hc : Chg S w W) (hA : ∀ ad, A = some ad → ¬ S ad.block) : Kd.C Kd.bool W A l.length l := by
  have hr := Kd.reads_of_C (d := false) h
  refine Kd.C_of_reads (d := false) ⟨hr.1, hr.2.1, fun h0 => ?_⟩
  obtain ⟨ad, e, hcell⟩ := hr.2.2 h0
  exact ⟨ad, e, fun j hj => hc.cell (hcell j hj) (by have := hA ad e; cases ad; unfold Addr.add; split <;> exact this)⟩
theorem tree_Make2 (g m : Nat) (L : Names) (s : ByteArray) (b : Bool) (L' : Names) (w : World) (hs : s.size ≤ maxLen) (hL : L.length ≤ 100000) (ht : TreeIs w g m L) (hR : makeF L s = (b, L')) :
    Calls Try.prog 37 #[.pointer (some ⟨g, 0, none⟩), .string s] w fun e w' => e = .returned (.bool b) ∧ TreeIs w' g m L' ∧ Chg (fun k => k = m) w w' := by
  have := tree_Make g m L s w hs hL ht
  rw [hR] at this
  exact this

set_option maxHeartbeats 8000000 in
set_option maxRecDepth 100000 in
theorem tree_tells (A A2 Ap : Option Addr) (c c2 cp : Nat) (names l : List ByteArray) (pt raw : ByteArray) (pl : List Bool) (w : World) (hC : Kd.C Kd.string w A names.length names) (hC2 : Kd.C Kd.string w A2 l.length l) (hCp : Kd.C Kd.bool w Ap pl.length pl) (hcp : pl.length ≤ cp) :
    Calls Try.prog 7 #[.slice A names.length c, .slice A2 l.length c2, .agg #[.string pt, .slice Ap pl.length cp], .string raw] w fun e w' => e = .returned (.bool true) ∧ Below w.heap.size w w' := by
  by_cases hearly : 250 < names.length ∨ names.length ≤ 250 ∧ 60 < l.length ∨ names.length ≤ 250 ∧ l.length ≤ 60 ∧ 60 < pt.size ∨ names.length ≤ 250 ∧ l.length ≤ 60 ∧ pt.size ≤ 60 ∧ 60 < raw.size
  · exact tells_early A A2 Ap c c2 cp pl.length names l pt raw w hC.2.1 hC2.2.1 hearly
  · have h1' : (names.length : Int) ≤ 250 := by omega
    have h2' : (l.length : Int) ≤ 60 := by omega
    have h3' : (pt.size : Int) ≤ 60 := by omega
    have h4' : (raw.size : Int) ≤ 60 := by omega
    have HRS := Aside0.mk (show pt.size ≤ 60 ∧ raw.size ≤ 60 by omega)
    have hB0 : Below w.heap.size w (w.alloc (.cells #[.string pt, .slice Ap pl.length cp] 60)) := (Below.refl _ _).alloc (Nat.le_refl _) _
    have HB0 := Aside0.mk hB0
    have HX0 := Aside0.mk (heap_alloc_new w (.cells #[.string pt, .slice Ap pl.length cp] 60))
    have HC := Aside0.mk (Kd.C_below hC hB0)
    have HC2 := Aside0.mk (Kd.C_below hC2 hB0)
    have HCP := Aside0.mk (Kd.C_below hCp hB0)
    have HCPL := Aside0.mk hcp
    have HN0 := Aside0.mk (alloc_size w (.cells #[.string pt, .slice Ap pl.length cp] 60))
    clear hearly hC hC2 hCp hcp hB0
    go_enter Try.func7, Try.ntmps7
    go_wp2
    generalize w.alloc (.cells #[.string pt, .slice Ap pl.length cp] 60) = wa at HB0 HX0 HC HC2 HCP HN0 ⊢
    go_loop [9] (fun i => ∃ k : Nat, k ≤ names.length ∧ i = .int .i64 k ∧ Aside0 (∀ s ∈ names.take k, s.size ≤ 120)) (fun i => names.length - (intOf i).toNat)
    case atStart => exact ⟨0, Nat.zero_le _, rfl, ⟨by simp⟩⟩
    case round =>
      obtain ⟨k, hk, rfl, HN⟩ := hrel
      by_cases hlt : k < names.length
      · obtain ⟨ad, e, hx⟩ := str_at HC.out hlt
        subst e
        have HS := Aside0.mk (take_all (P := fun s : ByteArray => s.size ≤ 120) (d := ByteArray.empty) hlt HN.out)
        have hlt' : (k : Int) < (names.length : Int) := by omega
        have HLT := Aside0.mk hlt
        clear hlt
        by_cases hs : (names.getD k ByteArray.empty).size ≤ 120
        · have hs' : ((names.getD k ByteArray.empty).size : Int) ≤ 120 := by omega
          have HS1 := Aside0.mk (HS.out hs)
          clear hs HS
          generalize names.getD k ByteArray.empty = s at *
          go_wp2
          go_round
          case rel => exact ⟨k + 1, HLT.out, by go_num, HS1⟩
          case measure => have := HLT.out; simp [intOf]; omega
        · have hs' : 120 < ((names.getD k ByteArray.empty).size : Int) := by omega
          clear hs HS
          generalize names.getD k ByteArray.empty = s at *
          go_wp2_with (go_at_call 29; refine (awake12 _).mono ?_; rintro e w1 ⟨rfl, hb⟩; have HB := Aside0.mk hb; clear hb)
          go_ret
          exact ⟨rfl, HB0.out.trans (HB.out.mono HB0.out.size)⟩
      · obtain rfl : k = names.length := by omega
        rw [List.take_length] at HN
        clear hlt hk
        go_wp2_with fail
        refine (tree_New A c names wa HC.out (fun s hs => by have := HN.out s hs; unfold maxLen; omega)).mono ?_
        rintro e w1 ⟨g, m, rfl, ht, hc, hgg, hmm⟩
        have HCN := Aside0.mk (Kd.C_below HC.out hc.toBelow)
        have HT := Aside0.mk ht
        have HCW := Aside0.mk hc
        have HGA := Aside0.mk (show wa.heap.size ≤ g ∧ wa.heap.size ≤ m from ⟨hgg, hmm⟩)
        clear ht hgg hmm hc
        go_wp2_with fail
        refine (ref_New A c names w1 HCN.out (fun s hs => by have := HN.out s hs; omega)).mono ?_
        rintro e w2 ⟨g2, rfl, hr, hc, hg2⟩
        have hm1 := blk_lt' HT.out.box
        have hm2 := HT.out.lt
        have HNE := Aside0.mk (show g ≠ m ∧ g < w1.heap.size ∧ m < w1.heap.size ∧ w1.heap.size ≤ g2 ∧ g2 ≠ m ∧ g ≠ g2 ∧ m ≠ g2 from ⟨HT.out.ne, by omega, by omega, hg2, by omega, by omega, by omega⟩)
        have HT2 := Aside0.mk (HT.out.chg hc (fun h => h) (fun h => h))
        have HR2 := Aside0.mk hr
        have HCW2 := Aside0.mk (HCW.out.then_ hc (fun _ h => h.elim))
        have HRI := Aside0.mk (makeAll_inv names [] (by simp [Rising]) (by simp))
        have HOK := Aside0.mk (makeAll_ok names [] (by simp [NamesOk]))
        have HB1A := Aside0.mk (show wa.heap.size ≤ w1.heap.size from HCW.out.size)
        generalize hb1 : w1.heap.size = b1 at HNE HR2 HB1A
        clear hr hc hg2 hm1 hm2 HT HCW HCN hb1
        generalize makeAll names [] = L0 at *
        go_wp2_with fail
        go_loopw [12] (fun i wr => ∃ n : Nat, n ≤ l.length ∧ i = .int .i64 n ∧ Aside0 (TreeIs wr g m (makeAll (l.take n) L0)) ∧ Aside0 (RefIs wr g2 b1 ((makeAll (l.take n) L0).map Prod.fst)) ∧ Aside0 (Chg none_ wa wr)) (fun i _ => l.length - (intOf i).toNat)
        case atStart => exact ⟨0, Nat.zero_le _, rfl, HT2, HR2, HCW2⟩
        case round =>
          obtain ⟨n, hn, rfl, HT, HR, HCWR⟩ := hrel
          by_cases hlt : n < l.length
          · obtain ⟨ad, e, hxa⟩ := str_at HC2.out hlt
            subst e
            have hx := pw_cell_below HCWR.out.toBelow hxa
            have hlt' : (n : Int) < (l.length : Int) := by omega
            have htk : ∀ P, makeF (makeAll (l.take n) L0) (l.getD n ByteArray.empty) = P → makeAll (l.take (n + 1)) L0 = P.2 := fun P h => by rw [take_snoc' hlt ByteArray.empty, makeAll_snoc, h]
            have HRIS := Aside0.mk (makeAll_inv (l.take n) L0 HRI.out.1 HRI.out.2)
            have HRIS1 := Aside0.mk (makeAll_inv (l.take (n + 1)) L0 HRI.out.1 HRI.out.2)
            generalize l.getD n ByteArray.empty = s at *
            have HXA := Aside0.mk hxa
            have HLT := Aside0.mk hlt
            clear hlt hxa
            by_cases hs : s.size ≤ 120
            · have hs' : (s.size : Int) ≤ 120 := by omega
              have HSM := Aside0.mk (show s.size ≤ maxLen by unfold maxLen; omega)
              have HS120 := Aside0.mk (show s.size ≤ 1000000 by omega)
              generalize makeAll (l.take n) L0 = Ln at *
              obtain ⟨⟨bm, L1⟩, hmk⟩ : ∃ P, makeF Ln s = P := ⟨_, rfl⟩
              have htk1 := htk _ hmk
              rw [htk1] at HRIS1
              have HTK := Aside0.mk htk1
              have HMK := Aside0.mk hmk
              have HLB := Aside0.mk (show Ln.length ≤ 100000 by have := HRIS.out.2; omega)
              have HLM := Aside0.mk (show (Ln.map Prod.fst).length ≤ 200 by have := HRIS.out.2; simpa using this)
              obtain ⟨Z1, hz1⟩ : ∃ Z, Z = L1.map Prod.fst := ⟨_, rfl⟩
              have HZ := Aside0.mk hz1
              clear hz1
              have HL1 := Aside0.mk (show L1.length ≤ 200 from HRIS1.out.2)
              obtain ⟨bh, hbh⟩ : ∃ b, (tget Ln s).isSome = b := ⟨_, rfl⟩
              have HBH := Aside0.mk hbh
              have HIF := Aside0.mk (show s ∈ Ln.map Prod.fst ↔ bh = true by rw [mem_keys, hbh])
              clear hs htk htk1 hmk hbh hn
              go_wp2_with fail
              refine start_ (n := 38) (S := fun w' => w'.cell? (ad.add n) = some (.string s)) (ds := []) #[false, false, false, false, false, false, false, false, false, false, false, false, false, false, false, false, false, false, false, false, false, false, false, false, false, false, false, false, false, false, false, false, false, false, false, false, false, false] (by kernel_rfl) rfl rfl (hx) (fun hHeld => ?_)
              have hbd : Below wr.heap.size wr wr.drew := Drawn0.below ⟨1, rfl⟩; have HTD := Aside0.mk (HT.out.below hbd); have HRD := Aside0.mk (HR.out.below hbd); have HCWD := Aside0.mk (HCWR.out.below hbd); clear hbd; generalize wr.drew = wd at HTD HRD HCWD hHeld ⊢
              refine pure_ (i := 0) (N := some 68) (v := ?_) (a' := ?_) #[true, false, false, false, false, false, false, false, false, false, false, false, false, false, false, false, false, false, false, false, false, false, false, false, false, false, false, false, false, false, false, false, false, false, false, false, false, false] rfl rfl (by kernel_rfl) (fun _ _ _ h => h) (Or.inl ⟨by rfl, ?_⟩) ?_ ?_
              rotate_left
              · intro w'
                go_simp
                with_reducible rfl
              rotate_left
              · simp only [Act.put, List.setIfInBounds_toArray, List.set_cons_zero, List.set_cons_succ, i64_w, i32_w]
                rfl
              refine pure_ (i := 1) (N := some 69) (v := ?_) (a' := ?_) #[true, true, false, false, false, false, false, false, false, false, false, false, false, false, false, false, false, false, false, false, false, false, false, false, false, false, false, false, false, false, false, false, false, false, false, false, false, false] rfl rfl (by kernel_rfl) (fun _ _ _ h => h) (Or.inl ⟨by rfl, ?_⟩) ?_ ?_
              rotate_left
              · intro w'
                go_simp
                with_reducible rfl
              rotate_left
              · simp only [Act.put, List.setIfInBounds_toArray, List.set_cons_zero, List.set_cons_succ, i64_w, i32_w]
                rfl
              refine pure_ (i := 2) (N := some 70) (v := ?_) (a' := ?_) #[true, true, true, false, false, false, false, false, false, false, false, false, false, false, false, false, false, false, false, false, false, false, false, false, false, false, false, false, false, false, false, false, false, false, false, false, false, false] rfl rfl (by kernel_rfl) (fun _ _ _ h => h) (Or.inl ⟨by rfl, ?_⟩) ?_ ?_
              rotate_left
              · intro w'
                go_simp
                with_reducible rfl
              rotate_left
              · simp only [Act.put, List.setIfInBounds_toArray, List.set_cons_zero, List.set_cons_succ, i64_w, i32_w]
                rfl
              refine pure_ (i := 3) (N := some 71) (v := ?_) (a' := ?_) #[true, true, true, true, false, false, false, false, false, false, false, false, false, false, false, false, false, false, false, false, false, false, false, false, false, false, false, false, false, false, false, false, false, false, false, false, false, false] rfl rfl (by kernel_rfl) (fun _ _ _ h => h) (Or.inl ⟨by rfl, ?_⟩) ?_ ?_
              rotate_left
              · intro w'
                go_simp
                with_reducible rfl
              rotate_left
              · simp only [Act.put, List.setIfInBounds_toArray, List.set_cons_zero, List.set_cons_succ, i64_w, i32_w]
                rfl
              refine pure_ (i := 6) (N := some 74) (v := ?_) (a' := ?_) #[true, true, true, true, false, false, true, false, false, false, false, false, false, false, false, false, false, false, false, false, false, false, false, false, false, false, false, false, false, false, false, false, false, false, false, false, false, false] rfl rfl (by kernel_rfl) (fun _ _ _ h => h) (Or.inl ⟨by rfl, ?_⟩) ?_ ?_
              rotate_left
              · intro w'
                go_simp
                with_reducible rfl
              rotate_left
              · simp only [Act.put, List.setIfInBounds_toArray, List.set_cons_zero, List.set_cons_succ, i64_w, i32_w]
                rfl
              refine pure_ (i := 7) (N := some 75) (v := ?_) (a' := ?_) #[true, true, true, true, false, false, true, true, false, false, false, false, false, false, false, false, false, false, false, false, false, false, false, false, false, false, false, false, false, false, false, false, false, false, false, false, false, false] rfl rfl (by kernel_rfl) (fun _ _ _ h => h) (Or.inl ⟨by rfl, ?_⟩) ?_ ?_
              rotate_left
              · intro w'
                go_simp
                with_reducible rfl
              rotate_left
              · simp only [Act.put, List.setIfInBounds_toArray, List.set_cons_zero, List.set_cons_succ, i64_w, i32_w]
                rfl
              refine pure_ (i := 8) (N := some 76) (v := ?_) (a' := ?_) #[true, true, true, true, false, false, true, true, true, false, false, false, false, false, false, false, false, false, false, false, false, false, false, false, false, false, false, false, false, false, false, false, false, false, false, false, false, false] rfl rfl (by kernel_rfl) (fun _ _ _ h => h) (Or.inl ⟨by rfl, ?_⟩) ?_ ?_
              rotate_left
              · intro w'
                go_simp
                with_reducible rfl
              rotate_left
              · simp only [Act.put, List.setIfInBounds_toArray, List.set_cons_zero, List.set_cons_succ, i64_w, i32_w]
                rfl
              refine pure_ (i := 9) (N := some 77) (v := ?_) (a' := ?_) #[true, true, true, true, false, false, true, true, true, true, false, false, false, false, false, false, false, false, false, false, false, false, false, false, false, false, false, false, false, false, false, false, false, false, false, false, false, false] rfl rfl (by kernel_rfl) (fun _ _ _ h => h) (Or.inl ⟨by rfl, ?_⟩) ?_ ?_
              rotate_left
              · intro w'
                go_simp
                with_reducible rfl
              rotate_left
              · simp only [Act.put, List.setIfInBounds_toArray, List.set_cons_zero, List.set_cons_succ, i64_w, i32_w]
                rfl
              refine take_ (i := 4) (N := some 72) (v := ?_) (a' := ?_) #[true, true, true, true, true, false, true, true, true, true, false, false, false, false, false, false, false, false, false, false, false, false, false, false, false, false, false, false, false, false, false, false, false, false, false, false, false, false] rfl rfl (by kernel_rfl) (fun _ _ _ h => h) (Or.inl ⟨by rfl, ?_⟩) hHeld ?_ ?_
              rotate_left
              · intro w' s0
                go_simp
                with_reducible rfl
              rotate_left
              · simp only [Act.put, List.setIfInBounds_toArray, List.set_cons_zero, List.set_cons_succ, i64_w, i32_w]
                rfl
              refine take_ (i := 10) (N := some 78) (v := ?_) (a' := ?_) #[true, true, true, true, true, false, true, true, true, true, true, false, false, false, false, false, false, false, false, false, false, false, false, false, false, false, false, false, false, false, false, false, false, false, false, false, false, false] rfl rfl (by kernel_rfl) (fun _ _ _ h => h) (Or.inl ⟨by rfl, ?_⟩) hHeld ?_ ?_
              rotate_left
              · intro w' s0
                go_simp
                with_reducible rfl
              rotate_left
              · simp only [Act.put, List.setIfInBounds_toArray, List.set_cons_zero, List.set_cons_succ, i64_w, i32_w]
                rfl
              refine one_ (i := 5) (N := some 73) #[true, true, true, true, true, true, true, true, true, true, true, false, false, false, false, false, false, false, false, false, false, false, false, false, false, false, false, false, false, false, false, false, false, false, false, false, false, false] rfl rfl (by kernel_rfl) (by decide) (fun K hK => ?_)
              refine goes_ Try.func35 (by kernel_rfl) rfl #[.pointer (some ⟨g, 0, none⟩), .string s] (by rfl) rfl rfl (by simp only [List.map_toArray, List.map_cons, List.map_nil]; rfl) ?_
              with_reducible refine (tree_Has g m Ln s bh _ HSM.out HTD.out HBH.out).mono ?_
              rintro e w3 ⟨rfl, rfl⟩
              refine ⟨_, rfl, ?_⟩
              refine hK.out _ _ (hHeld) (fun hHeld => ?_)
              clear hK K
              refine norm_ (a' := ?_) ?_ ?_
              rotate_left
              · show Act.put _ (some 73) _ = _
                simp only [Act.put, List.setIfInBounds_toArray, List.set_cons_zero, List.set_cons_succ, i64_w, i32_w]
                rfl
              refine one_ (i := 11) (N := some 79) #[true, true, true, true, true, true, true, true, true, true, true, true, false, false, false, false, false, false, false, false, false, false, false, false, false, false, false, false, false, false, false, false, false, false, false, false, false, false] rfl rfl (by kernel_rfl) (by decide) (fun K hK => ?_)
              refine goes_ Try.func39 (by kernel_rfl) rfl #[.pointer (some ⟨g2, 0, none⟩), .string s] (by rfl) rfl rfl (by simp only [List.map_toArray, List.map_cons, List.map_nil]; rfl) ?_
              with_reducible refine (ref_Has g2 b1 _ s bh _ HRD.out HLM.out HIF.out).mono ?_
              rintro e w3 ⟨rfl, rfl⟩
              refine ⟨_, rfl, ?_⟩
              refine hK.out _ _ (hHeld) (fun hHeld => ?_)
              clear hK K
              refine norm_ (a' := ?_) ?_ ?_
              rotate_left
              · show Act.put _ (some 79) _ = _
                simp only [Act.put, List.setIfInBounds_toArray, List.set_cons_zero, List.set_cons_succ, i64_w, i32_w]
                rfl
              refine pure_ (i := 12) (N := some 80) (v := ?_) (a' := ?_) #[true, true, true, true, true, true, true, true, true, true, true, true, true, false, false, false, false, false, false, false, false, false, false, false, false, false, false, false, false, false, false, false, false, false, false, false, false, false] rfl rfl (by kernel_rfl) (fun _ _ _ h => h) (Or.inl ⟨by rfl, ?_⟩) ?_ ?_
              rotate_left
              · intro w'
                go_simp
                with_reducible rfl
              rotate_left
              · simp only [Act.put, List.setIfInBounds_toArray, List.set_cons_zero, List.set_cons_succ, i64_w, i32_w]
                rfl
              refine pure_ (i := 13) (N := some 81) (v := ?_) (a' := ?_) #[true, true, true, true, true, true, true, true, true, true, true, true, true, true, false, false, false, false, false, false, false, false, false, false, false, false, false, false, false, false, false, false, false, false, false, false, false, false] rfl rfl (by kernel_rfl) (fun _ _ _ h => h) (Or.inl ⟨by rfl, ?_⟩) ?_ ?_
              rotate_left
              · intro w'
                go_simp
                with_reducible rfl
              rotate_left
              · simp only [Act.put, List.setIfInBounds_toArray, List.set_cons_zero, List.set_cons_succ, i64_w, i32_w]
                rfl
              refine pure_ (i := 14) (N := some 82) (v := ?_) (a' := ?_) #[true, true, true, true, true, true, true, true, true, true, true, true, true, true, true, false, false, false, false, false, false, false, false, false, false, false, false, false, false, false, false, false, false, false, false, false, false, false] rfl rfl (by kernel_rfl) (fun _ _ _ h => h) (Or.inl ⟨by rfl, ?_⟩) ?_ ?_
              rotate_left
              · intro w'
                go_simp
                with_reducible rfl
              rotate_left
              · simp only [Act.put, List.setIfInBounds_toArray, List.set_cons_zero, List.set_cons_succ, i64_w, i32_w]
                rfl
              refine pure_ (i := 15) (N := some 83) (v := ?_) (a' := ?_) #[true, true, true, true, true, true, true, true, true, true, true, true, true, true, true, true, false, false, false, false, false, false, false, false, false, false, false, false, false, false, false, false, false, false, false, false, false, false] rfl rfl (by kernel_rfl) (fun _ _ _ h => h) (Or.inl ⟨by rfl, ?_⟩) ?_ ?_
              rotate_left
              · intro w'
                go_simp
                with_reducible rfl
              rotate_left
              · simp only [Act.put, List.setIfInBounds_toArray, List.set_cons_zero, List.set_cons_succ, i64_w, i32_w]
                rfl
              refine pure_ (i := 16) (N := some 84) (v := ?_) (a' := ?_) #[true, true, true, true, true, true, true, true, true, true, true, true, true, true, true, true, true, false, false, false, false, false, false, false, false, false, false, false, false, false, false, false, false, false, false, false, false, false] rfl rfl (by kernel_rfl) (fun _ _ _ h => h) (Or.inl ⟨by rfl, ?_⟩) ?_ ?_
              rotate_left
              · intro w'
                go_simp
                with_reducible rfl
              rotate_left
              · simp only [Act.put, List.setIfInBounds_toArray, List.set_cons_zero, List.set_cons_succ, i64_w, i32_w]
                rfl
              refine pure_ (i := 17) (N := some 85) (v := ?_) (a' := ?_) #[true, true, true, true, true, true, true, true, true, true, true, true, true, true, true, true, true, true, false, false, false, false, false, false, false, false, false, false, false, false, false, false, false, false, false, false, false, false] rfl rfl (by kernel_rfl) (fun _ _ _ h => h) (Or.inl ⟨by rfl, ?_⟩) ?_ ?_
              rotate_left
              · intro w'
                go_simp
                with_reducible rfl
              rotate_left
              · simp only [Act.put, List.setIfInBounds_toArray, List.set_cons_zero, List.set_cons_succ, i64_w, i32_w]
                rfl
              refine pure_ (i := 20) (N := some 88) (v := ?_) (a' := ?_) #[true, true, true, true, true, true, true, true, true, true, true, true, true, true, true, true, true, true, false, false, true, false, false, false, false, false, false, false, false, false, false, false, false, false, false, false, false, false] rfl rfl (by kernel_rfl) (fun _ _ _ h => h) (Or.inl ⟨by rfl, ?_⟩) ?_ ?_
              rotate_left
              · intro w'
                go_simp
                with_reducible rfl
              rotate_left
              · simp only [Act.put, List.setIfInBounds_toArray, List.set_cons_zero, List.set_cons_succ, i64_w, i32_w]
                rfl
              refine pure_ (i := 21) (N := some 89) (v := ?_) (a' := ?_) #[true, true, true, true, true, true, true, true, true, true, true, true, true, true, true, true, true, true, false, false, true, true, false, false, false, false, false, false, false, false, false, false, false, false, false, false, false, false] rfl rfl (by kernel_rfl) (fun _ _ _ h => h) (Or.inl ⟨by rfl, ?_⟩) ?_ ?_
              rotate_left
              · intro w'
                go_simp
                with_reducible rfl
              rotate_left
              · simp only [Act.put, List.setIfInBounds_toArray, List.set_cons_zero, List.set_cons_succ, i64_w, i32_w]
                rfl
              refine pure_ (i := 22) (N := some 90) (v := ?_) (a' := ?_) #[true, true, true, true, true, true, true, true, true, true, true, true, true, true, true, true, true, true, false, false, true, true, true, false, false, false, false, false, false, false, false, false, false, false, false, false, false, false] rfl rfl (by kernel_rfl) (fun _ _ _ h => h) (Or.inl ⟨by rfl, ?_⟩) ?_ ?_
              rotate_left
              · intro w'
                go_simp
                with_reducible rfl
              rotate_left
              · simp only [Act.put, List.setIfInBounds_toArray, List.set_cons_zero, List.set_cons_succ, i64_w, i32_w]
                rfl
              refine pure_ (i := 23) (N := some 91) (v := ?_) (a' := ?_) #[true, true, true, true, true, true, true, true, true, true, true, true, true, true, true, true, true, true, false, false, true, true, true, true, false, false, false, false, false, false, false, false, false, false, false, false, false, false] rfl rfl (by kernel_rfl) (fun _ _ _ h => h) (Or.inl ⟨by rfl, ?_⟩) ?_ ?_
              rotate_left
              · intro w'
                go_simp
                with_reducible rfl
              rotate_left
              · simp only [Act.put, List.setIfInBounds_toArray, List.set_cons_zero, List.set_cons_succ, i64_w, i32_w]
                rfl
              refine take_ (i := 18) (N := some 86) (v := ?_) (a' := ?_) #[true, true, true, true, true, true, true, true, true, true, true, true, true, true, true, true, true, true, true, false, true, true, true, true, false, false, false, false, false, false, false, false, false, false, false, false, false, false] rfl rfl (by kernel_rfl) (fun _ _ _ h => h) (Or.inl ⟨by rfl, ?_⟩) hHeld ?_ ?_
              rotate_left
              · intro w' s0
                go_simp
                with_reducible rfl
              rotate_left
              · simp only [Act.put, List.setIfInBounds_toArray, List.set_cons_zero, List.set_cons_succ, i64_w, i32_w]
                rfl
              refine take_ (i := 24) (N := some 92) (v := ?_) (a' := ?_) #[true, true, true, true, true, true, true, true, true, true, true, true, true, true, true, true, true, true, true, false, true, true, true, true, true, false, false, false, false, false, false, false, false, false, false, false, false, false] rfl rfl (by kernel_rfl) (fun _ _ _ h => h) (Or.inl ⟨by rfl, ?_⟩) hHeld ?_ ?_
              rotate_left
              · intro w' s0
                go_simp
                with_reducible rfl
              rotate_left
              · simp only [Act.put, List.setIfInBounds_toArray, List.set_cons_zero, List.set_cons_succ, i64_w, i32_w]
                rfl
              refine one_ (i := 19) (N := some 87) #[true, true, true, true, true, true, true, true, true, true, true, true, true, true, true, true, true, true, true, true, true, true, true, true, true, false, false, false, false, false, false, false, false, false, false, false, false, false] rfl rfl (by kernel_rfl) (by decide) (fun K hK => ?_)
              refine goes_ Try.func37 (by kernel_rfl) rfl #[.pointer (some ⟨g, 0, none⟩), .string s] (by rfl) rfl rfl (by simp only [List.map_toArray, List.map_cons, List.map_nil]; rfl) ?_
              with_reducible refine (tree_Make2 g m Ln s bm L1 _ HSM.out HLB.out HTD.out HMK.out).mono ?_
              rintro e w4 ⟨rfl, ht4, hc4⟩
              refine ⟨_, rfl, ?_⟩
              have HT4 := Aside0.mk ht4
              have HR4 := Aside0.mk (HRD.out.chg hc4 HNE.out.2.2.2.2.1 (fun k h => by rw [h]; exact HNE.out.2.2.1))
              have HCW4 := Aside0.mk (HCWD.out.then_ hc4 (fun k h => .inr (by rw [h]; exact HGA.out.2)))
              clear ht4 hc4
              refine hK.out _ _ (pw_cell_below (HCW4.out).toBelow HXA.out) (fun hHeld => ?_)
              clear hK K
              refine norm_ (a' := ?_) ?_ ?_
              rotate_left
              · show Act.put _ (some 87) _ = _
                simp only [Act.put, List.setIfInBounds_toArray, List.set_cons_zero, List.set_cons_succ, i64_w, i32_w]
                rfl
              refine one_ (i := 25) (N := some 93) #[true, true, true, true, true, true, true, true, true, true, true, true, true, true, true, true, true, true, true, true, true, true, true, true, true, true, false, false, false, false, false, false, false, false, false, false, false, false] rfl rfl (by kernel_rfl) (by decide) (fun K hK => ?_)
              refine goes_ Try.func40 (by kernel_rfl) rfl #[.pointer (some ⟨g2, 0, none⟩), .string s] (by rfl) rfl rfl (by simp only [List.map_toArray, List.map_cons, List.map_nil]; rfl) ?_
              with_reducible refine (ref_Make g2 b1 Ln L1 s bm _ HR4.out HRIS.out.1 HRIS.out.2 HS120.out HMK.out).mono ?_
              rintro e w5 ⟨rfl, hr5, hc5⟩
              refine ⟨_, rfl, ?_⟩
              have HR5 := Aside0.mk hr5
              have HT5 := Aside0.mk (HT4.out.chg hc5 HNE.out.2.2.2.2.2.1 HNE.out.2.2.2.2.2.2)
              have HCW5 := Aside0.mk (HCW4.out.then_ hc5 (fun k h => .inr (by rw [h]; exact Nat.le_trans HB1A.out HNE.out.2.2.2.1)))
              obtain ⟨AL, cL, _, hcL, _, hCL, hlcL⟩ := hr5.opened
              rw [← HZ.out] at hcL hCL hlcL
              have HcL := Aside0.mk hcL
              have HCL := Aside0.mk hCL
              have HLCL := Aside0.mk hlcL
              clear hr5 hc5 hcL hCL hlcL
              refine hK.out _ _ (pw_cell_below (HCW5.out).toBelow HXA.out) (fun hHeld => ?_)
              clear hK K
              refine norm_ (a' := ?_) ?_ ?_
              rotate_left
              · show Act.put _ (some 93) _ = _
                simp only [Act.put, List.setIfInBounds_toArray, List.set_cons_zero, List.set_cons_succ, i64_w, i32_w]
                rfl
              refine pure_ (i := 26) (N := some 94) (v := ?_) (a' := ?_) #[true, true, true, true, true, true, true, true, true, true, true, true, true, true, true, true, true, true, true, true, true, true, true, true, true, true, true, false, false, false, false, false, false, false, false, false, false, false] rfl rfl (by kernel_rfl) (fun _ _ _ h => h) (Or.inl ⟨by rfl, ?_⟩) ?_ ?_
              rotate_left
              · intro w'
                go_simp
                with_reducible rfl
              rotate_left
              · simp only [Act.put, List.setIfInBounds_toArray, List.set_cons_zero, List.set_cons_succ, i64_w, i32_w]
                rfl
              refine pure_ (i := 27) (N := some 95) (v := ?_) (a' := ?_) #[true, true, true, true, true, true, true, true, true, true, true, true, true, true, true, true, true, true, true, true, true, true, true, true, true, true, true, true, false, false, false, false, false, false, false, false, false, false] rfl rfl (by kernel_rfl) (fun _ _ _ h => h) (Or.inl ⟨by rfl, ?_⟩) ?_ ?_
              rotate_left
              · intro w'
                go_simp
                with_reducible rfl
              rotate_left
              · simp only [Act.put, List.setIfInBounds_toArray, List.set_cons_zero, List.set_cons_succ, i64_w, i32_w]
                rfl
              refine pure_ (i := 28) (N := some 96) (v := ?_) (a' := ?_) #[true, true, true, true, true, true, true, true, true, true, true, true, true, true, true, true, true, true, true, true, true, true, true, true, true, true, true, true, true, false, false, false, false, false, false, false, false, false] rfl rfl (by kernel_rfl) (fun _ _ _ h => h) (Or.inl ⟨by rfl, ?_⟩) ?_ ?_
              rotate_left
              · intro w'
                go_simp
                with_reducible rfl
              rotate_left
              · simp only [Act.put, List.setIfInBounds_toArray, List.set_cons_zero, List.set_cons_succ, i64_w, i32_w]
                rfl
              refine pure_ (i := 29) (N := some 97) (v := ?_) (a' := ?_) #[true, true, true, true, true, true, true, true, true, true, true, true, true, true, true, true, true, true, true, true, true, true, true, true, true, true, true, true, true, true, false, false, false, false, false, false, false, false] rfl rfl (by kernel_rfl) (fun _ _ _ h => h) (Or.inl ⟨by rfl, ?_⟩) ?_ ?_
              rotate_left
              · intro w'
                go_simp
                with_reducible rfl
              rotate_left
              · simp only [Act.put, List.setIfInBounds_toArray, List.set_cons_zero, List.set_cons_succ, i64_w, i32_w]
                rfl
              refine pure_ (i := 31) (N := some 99) (v := ?_) (a' := ?_) #[true, true, true, true, true, true, true, true, true, true, true, true, true, true, true, true, true, true, true, true, true, true, true, true, true, true, true, true, true, true, false, true, false, false, false, false, false, false] rfl rfl (by kernel_rfl) (fun _ _ _ h => h) (Or.inl ⟨by rfl, ?_⟩) ?_ ?_
              rotate_left
              · intro w'
                go_simp
                with_reducible rfl
              rotate_left
              · simp only [Act.put, List.setIfInBounds_toArray, List.set_cons_zero, List.set_cons_succ, i64_w, i32_w]
                rfl
              refine pure_ (i := 32) (N := some 100) (v := ?_) (a' := ?_) #[true, true, true, true, true, true, true, true, true, true, true, true, true, true, true, true, true, true, true, true, true, true, true, true, true, true, true, true, true, true, false, true, true, false, false, false, false, false] rfl rfl (by kernel_rfl) (fun _ _ _ h => h) (Or.inl ⟨by rfl, ?_⟩) ?_ ?_
              rotate_left
              · intro w'
                go_simp
                with_reducible rfl
              rotate_left
              · simp only [Act.put, List.setIfInBounds_toArray, List.set_cons_zero, List.set_cons_succ, i64_w, i32_w]
                rfl
              refine pure_ (i := 33) (N := some 101) (v := ?_) (a' := ?_) #[true, true, true, true, true, true, true, true, true, true, true, true, true, true, true, true, true, true, true, true, true, true, true, true, true, true, true, true, true, true, false, true, true, true, false, false, false, false] rfl rfl (by kernel_rfl) (fun _ _ _ h => h) (Or.inl ⟨by rfl, ?_⟩) ?_ ?_
              rotate_left
              · intro w'
                go_simp
                with_reducible rfl
              rotate_left
              · simp only [Act.put, List.setIfInBounds_toArray, List.set_cons_zero, List.set_cons_succ, i64_w, i32_w]
                rfl
              refine join_ (σ := Value) 3 #[true, true, true, true, true, true, true, true, true, true, true, true, true, true, true, true, true, true, true, true, true, true, true, true, true, true, true, true, true, true, true, true, true, true, true, false, false, false] (fun v => [(98, v), (102, .slice AL Z1.length cL)]) (fun v w' => Kd.R Kd.string 9 w' w5.heap.size (fun _ => True) v Z1 ∧ Below w5.heap.size w5 w') ?_ ?_
              rotate_left
              · intro hCont
                refine two_ (i := 30) (j := 34) (Ni := some 98) (Nj := some 102) #[true, true, true, true, true, true, true, true, true, true, true, true, true, true, true, true, true, true, true, true, true, true, true, true, true, true, true, true, true, true, true, true, true, true, false, false, false, false] #[true, true, true, true, true, true, true, true, true, true, true, true, true, true, true, true, true, true, true, true, true, true, true, true, true, true, true, true, true, true, false, true, true, true, true, false, false, false] rfl rfl rfl rfl (by kernel_rfl) (by decide) (by decide) (fun K hK => ?_) (fun K hK => ?_)
                · skip
                  refine goes_ Try.func33 (by kernel_rfl) rfl #[.pointer (some ⟨g, 0, none⟩)] (by rfl) rfl rfl (by simp only [List.map_toArray, List.map_cons, List.map_nil]; rfl) ?_
                  with_reducible refine (tree_Names g m L1 _ HL1.out HT5.out).mono ?_
                  rintro e w6 ⟨v6, rfl, hR6, hb6⟩
                  refine ⟨_, rfl, ?_⟩
                  rw [← HZ.out] at hR6
                  have HRN6 := Aside0.mk hR6
                  have HBN6 := Aside0.mk hb6
                  clear hR6 hb6
                  refine hK.out _ _ (pw_cell_below (HCW5.out.below HBN6.out).toBelow HXA.out) (fun hHeld => ?_)
                  clear hK K
                  refine norm_ (a' := ?_) ?_ ?_
                  rotate_left
                  · show Act.put _ (some 98) _ = _
                    simp only [Act.put, List.setIfInBounds_toArray, List.set_cons_zero, List.set_cons_succ, i64_w, i32_w]
                    rfl
                  refine one_ (i := 34) (N := some 102) #[true, true, true, true, true, true, true, true, true, true, true, true, true, true, true, true, true, true, true, true, true, true, true, true, true, true, true, true, true, true, true, true, true, true, true, false, false, false] rfl rfl (by kernel_rfl) (by decide) (fun K hK => ?_)
                  have hl6 := pw_cell_below HBN6.out HcL.out
                  refine value_ (w1 := ?_) (v := ?_) (by rfl) rfl ?_ ?_
                  rotate_left 2
                  · go_simp
                    constructor
                    · rfl
                    · rfl
                  refine hK.out _ _ (pw_cell_below (HCW5.out.below HBN6.out).toBelow HXA.out) (fun hHeld => ?_)
                  clear hK K
                  refine norm_ (a' := ?_) ?_ ?_
                  rotate_left
                  · show Act.put _ (some 102) _ = _
                    simp only [Act.put, List.setIfInBounds_toArray, List.set_cons_zero, List.set_cons_succ, i64_w, i32_w]
                    rfl
                  exact norm_ (by simp only [putAll, Act.put, List.setIfInBounds_toArray, List.set_cons_zero, List.set_cons_succ]) (hCont v6 _ ⟨HRN6.out, HBN6.out⟩)
                · skip
                  have hl6 := HcL.out
                  refine value_ (w1 := ?_) (v := ?_) (by rfl) rfl ?_ ?_
                  rotate_left 2
                  · go_simp
                    constructor
                    · rfl
                    · rfl
                  refine hK.out _ _ (pw_cell_below (HCW5.out).toBelow HXA.out) (fun hHeld => ?_)
                  clear hK K
                  refine norm_ (a' := ?_) ?_ ?_
                  rotate_left
                  · show Act.put _ (some 102) _ = _
                    simp only [Act.put, List.setIfInBounds_toArray, List.set_cons_zero, List.set_cons_succ, i64_w, i32_w]
                    rfl
                  refine one_ (i := 30) (N := some 98) #[true, true, true, true, true, true, true, true, true, true, true, true, true, true, true, true, true, true, true, true, true, true, true, true, true, true, true, true, true, true, true, true, true, true, true, false, false, false] rfl rfl (by kernel_rfl) (by decide) (fun K hK => ?_)
                  refine goes_ Try.func33 (by kernel_rfl) rfl #[.pointer (some ⟨g, 0, none⟩)] (by rfl) rfl rfl (by simp only [List.map_toArray, List.map_cons, List.map_nil]; rfl) ?_
                  with_reducible refine (tree_Names g m L1 _ HL1.out HT5.out).mono ?_
                  rintro e w6 ⟨v6, rfl, hR6, hb6⟩
                  refine ⟨_, rfl, ?_⟩
                  rw [← HZ.out] at hR6
                  have HRN6 := Aside0.mk hR6
                  have HBN6 := Aside0.mk hb6
                  clear hR6 hb6
                  refine hK.out _ _ (pw_cell_below (HCW5.out.below HBN6.out).toBelow HXA.out) (fun hHeld => ?_)
                  clear hK K
                  refine norm_ (a' := ?_) ?_ ?_
                  rotate_left
                  · show Act.put _ (some 98) _ = _
                    simp only [Act.put, List.setIfInBounds_toArray, List.set_cons_zero, List.set_cons_succ, i64_w, i32_w]
                    rfl
                  exact norm_ (by simp only [putAll, Act.put, List.setIfInBounds_toArray, List.set_cons_zero, List.set_cons_succ]) (hCont v6 _ ⟨HRN6.out, HBN6.out⟩)
              rintro v6 wf ⟨hf6, hfB⟩
              obtain ⟨A6, c6, rfl, hlc6, hC6⟩ := Kd.R_reads hf6
              have HC6 := Aside0.mk hC6
              have HLC6 := Aside0.mk hlc6
              have HCL6 := Aside0.mk (Kd.C_below HCL.out hfB)
              have HT6 := Aside0.mk (HT5.out.below hfB)
              have HR6 := Aside0.mk (HR5.out.below hfB)
              have HCW6 := Aside0.mk (HCW5.out.below hfB)
              have hHeld := pw_cell_below HCW6.out.toBelow HXA.out
              clear hf6 hfB hlc6 hC6
              refine norm_ (a' := ?_) ?_ ?_
              rotate_left
              · simp only [putAll, Act.put, List.setIfInBounds_toArray, List.set_cons_zero, List.set_cons_succ]
                rfl
              refine one_ (i := 35) (N := some 103) #[true, true, true, true, true, true, true, true, true, true, true, true, true, true, true, true, true, true, true, true, true, true, true, true, true, true, true, true, true, true, true, true, true, true, true, true, false, false] rfl rfl (by kernel_rfl) (by decide) (fun K hK => ?_)
              refine goes_ Try.func41 (by kernel_rfl) rfl #[.slice A6 Z1.length c6, .slice AL Z1.length cL] (by rfl) rfl rfl (by simp only [List.map_toArray, List.map_cons, List.map_nil]; rfl) ?_
              with_reducible refine (same_texts A6 AL c6 cL _ _ true (decide_eq_true rfl) _ HC6.out HLC6.out HCL6.out HLCL.out).mono ?_
              rintro e w7 ⟨rfl, hd7⟩
              refine ⟨_, rfl, ?_⟩
              have HCW7 := Aside0.mk (HCW6.out.drawn hd7)
              have HT7 := Aside0.mk (HT6.out.below hd7.below)
              have HR7 := Aside0.mk (HR6.out.below hd7.below)
              clear hd7
              refine hK.out _ _ (pw_cell_below (HCW7.out).toBelow HXA.out) (fun hHeld => ?_)
              clear hK K
              refine norm_ (a' := ?_) ?_ ?_
              rotate_left
              · show Act.put _ (some 103) _ = _
                simp only [Act.put, List.setIfInBounds_toArray, List.set_cons_zero, List.set_cons_succ, i64_w, i32_w]
                rfl
              refine pure_ (i := 36) (N := some 104) (v := ?_) (a' := ?_) #[true, true, true, true, true, true, true, true, true, true, true, true, true, true, true, true, true, true, true, true, true, true, true, true, true, true, true, true, true, true, true, true, true, true, true, true, true, false] rfl rfl (by kernel_rfl) (fun _ _ _ h => h) (Or.inl ⟨by rfl, ?_⟩) ?_ ?_
              rotate_left
              · intro w'
                go_simp
                with_reducible rfl
              rotate_left
              · simp only [Act.put, List.setIfInBounds_toArray, List.set_cons_zero, List.set_cons_succ, i64_w, i32_w]
                rfl
              refine pure_ (i := 37) (N := some 105) (v := ?_) (a' := ?_) #[true, true, true, true, true, true, true, true, true, true, true, true, true, true, true, true, true, true, true, true, true, true, true, true, true, true, true, true, true, true, true, true, true, true, true, true, true, true] rfl rfl (by kernel_rfl) (fun _ _ _ h => h) (Or.inl ⟨by rfl, ?_⟩) ?_ ?_
              rotate_left
              · intro w'
                go_simp
                with_reducible rfl
              rotate_left
              · simp only [Act.put, List.setIfInBounds_toArray, List.set_cons_zero, List.set_cons_succ, i64_w, i32_w]
                rfl
              refine done_ (by kernel_rfl) ?_
              go_wp2_with fail
              go_roundw
              case rel => exact ⟨n + 1, HLT.out, by go_num, ⟨by rw [HTK.out]; exact HT7.out⟩, ⟨by rw [HTK.out]; exact HR7.out⟩, HCW7⟩
              case measure => have := HLT.out; simp [intOf]; omega
            · have hs' : 120 < (s.size : Int) := by omega
              clear hs
              go_wp2_with (go_at_call 29; refine (awake12 _).mono ?_; rintro e w1 ⟨rfl, hb⟩; have HB := Aside0.mk hb; clear hb)
              go_ret
              exact ⟨rfl, HB0.out.trans ((HCWR.out.below HB.out).toBelow.mono HB0.out.size)⟩
          · obtain rfl : n = l.length := by omega
            rw [List.take_length] at HT HR
            clear hn hlt HT2 HR2 HCW2
            have HLF := Aside0.mk (makeAll_inv l L0 HRI.out.1 HRI.out.2)
            have HOKF := Aside0.mk (makeAll_ok l L0 HOK.out)
            generalize makeAll l L0 = Lf at *
            have HLFM := Aside0.mk (show (Lf.map Prod.fst).length ≤ 200 by have := HLF.out.2; simpa using this)
            have hokm : ∀ s ∈ Lf.map Prod.fst, 1 ≤ s.size ∧ s.size ≤ 100 := by
              intro s hs
              obtain ⟨q, hq, rfl⟩ := List.mem_map.1 hs
              exact HOKF.out q hq
            have HOKM := Aside0.mk hokm
            clear hokm
            go_wp2_with fail
            refine (tree_Copy g m Lf wr HT.out).mono ?_
            rintro e w3 ⟨g3, m3, rfl, ht3, hb3, hg3, hm3⟩
            have HC3 := Aside0.mk ht3
            have HB3 := Aside0.mk hb3
            have HM3 := Aside0.mk (show wr.heap.size ≤ m3 from hm3)
            clear ht3 hb3 hg3 hm3
            go_wp2_with fail
            refine (tree_Make2 g3 m3 Lf sOwn _ _ _ (by decide) (by have := HLF.out.2; omega) HC3.out rfl).mono ?_
            rintro e w4 ⟨rfl, _, hc4⟩
            have hcr : Chg none_ wr w4 := (Chg.of_below HB3.out none_).then_ hc4 (fun k h => .inr (by rw [h]; exact HM3.out))
            have HT4 := Aside0.mk (HT.out.chg hcr (fun h => h) (fun h => h))
            have HR4 := Aside0.mk (HR.out.chg hcr (fun h => h) (fun _ h => h.elim))
            have HCW4 := Aside0.mk (HCWR.out.then_ hcr (fun _ h => h.elim))
            clear hc4 hcr HT HR HCWR HC3 HB3 HM3
            go_wp2_with fail
            go_loopw [14] (fun i wr => ∃ k : Nat, k ≤ 2 ∧ i = .int .i64 k ∧ Aside0 (TreeIs wr g m Lf) ∧ Aside0 (RefIs wr g2 b1 (Lf.map Prod.fst)) ∧ Aside0 (Chg none_ wa wr)) (fun i _ => 2 - (intOf i).toNat)
            case atStart => exact ⟨0, by omega, rfl, HT4, HR4, HCW4⟩
            case round =>
              obtain ⟨k, hk, rfl, HT, HR, HCWR⟩ := hrel
              have HX := Aside0.mk (HCWR.out.blk HX0.out (fun h => h))
              have hp0 := cell_blk HX.out 0 rfl
              have hp1 := cell_blk HX.out 1 rfl
              obtain rfl | rfl | rfl : k = 0 ∨ k = 1 ∨ k = 2 := by omega
              · skip
                obtain ⟨QL, hql⟩ : ∃ q, q = List.replicate raw.size true := ⟨_, rfl⟩
                have HQE := Aside0.mk hql
                clear hql
                go_wp2_with fail
                refine start_ (n := 9) (S := fun w' => w'.cell? ⟨w.heap.size, 0, none⟩ = some (.string pt) ∧ w'.cell? ⟨w.heap.size, 1, none⟩ = some (.slice Ap pl.length cp)) (ds := [8]) #[false, false, false, false, false, false, false, false, false] (by kernel_rfl) rfl rfl ⟨hp0, hp1⟩ (fun hHeld => ?_)
                have hbd : Below wr.heap.size wr wr.drew := Drawn0.below ⟨1, rfl⟩; have HTD := Aside0.mk (HT.out.below hbd); have HRD := Aside0.mk (HR.out.below hbd); have HCWD := Aside0.mk (HCWR.out.below hbd); have HP0 := Aside0.mk hHeld.1; have HP1 := Aside0.mk hHeld.2; clear hbd; generalize wr.drew = wd at HTD HRD HCWD HP0 HP1 hHeld ⊢
                refine pure_ (i := 1) (N := some 117) (v := ?_) (a' := ?_) #[false, true, false, false, false, false, false, false, false] rfl rfl (by kernel_rfl) (fun _ _ _ h => h) (Or.inl ⟨by rfl, ?_⟩) ?_ ?_
                rotate_left
                · intro w'
                  go_simp
                  with_reducible rfl
                rotate_left
                · simp only [Act.put, List.setIfInBounds_toArray, List.set_cons_zero, List.set_cons_succ, i64_w, i32_w]
                  rfl
                refine pure_ (i := 4) (N := some 120) (v := ?_) (a' := ?_) #[false, true, false, false, true, false, false, false, false] rfl rfl (by kernel_rfl) (fun _ _ _ h => h) (Or.inl ⟨by rfl, ?_⟩) ?_ ?_
                rotate_left
                · intro w'
                  go_simp
                  with_reducible rfl
                rotate_left
                · simp only [Act.put, List.setIfInBounds_toArray, List.set_cons_zero, List.set_cons_succ, i64_w, i32_w]
                  rfl
                refine take_ (i := 0) (N := some 116) (v := ?_) (a' := ?_) #[true, true, false, false, true, false, false, false, false] rfl rfl (by kernel_rfl) (fun _ _ _ h => h) (Or.inl ⟨by rfl, ?_⟩) hHeld ?_ ?_
                rotate_left
                · rintro w' ⟨s0, s1⟩
                  go_simp
                  with_reducible rfl
                rotate_left
                · simp only [Act.put, List.setIfInBounds_toArray, List.set_cons_zero, List.set_cons_succ, i64_w, i32_w]
                  rfl
                refine join_ (σ := Option Addr × Nat × Nat × Nat) 1 #[true, true, true, true, true, true, true, true, false] (fun p => [(118, .agg #[.string raw, .slice p.1 QL.length p.2.1]), (119, .slice (some ⟨p.2.2.1, 0, none⟩) 2 2), (121, .pointer (some ⟨p.2.2.1, 0, none⟩)), (122, .agg #[.string pt, .slice Ap pl.length cp]), (15, .pointer (some ⟨p.2.2.2, 0, none⟩))]) (fun p w' => Kd.R Kd.bool 4 w' wd.heap.size (fun _ => True) (.slice p.1 QL.length p.2.1) QL ∧ QL.length ≤ p.2.1 ∧ Below wd.heap.size wd w' ∧ w'.heap[p.2.2.2]? = some (.cells #[.string ⟨#[]⟩, .slice none 0 0] 60 (0, 0)) ∧ wd.heap.size ≤ p.2.2.2) ?_ ?_
                rotate_left
                · intro hCont
                  refine two_ (i := 2) (j := 7) (Ni := some 118) (Nj := some 15) #[true, true, true, false, true, false, false, false, false] #[true, true, false, false, true, false, false, true, false] rfl rfl rfl rfl (by kernel_rfl) (by decide) (by decide) (fun K hK => ?_) (fun K hK => ?_)
                  · skip
                    refine goes_ Try.func31 (by kernel_rfl) rfl #[.string raw] (by rfl) rfl rfl (by simp only [List.map_toArray, List.map_cons, List.map_nil]; rfl) ?_
                    with_reducible refine (live_calls raw (by have := HRS.out; omega) _).mono ?_
                    rintro e w1 ⟨v8, rfl, hR8, hb8⟩
                    refine ⟨_, rfl, ?_⟩
                    have HB_1 := Aside0.mk (hb8)
                    rw [← HQE.out] at hR8
                    obtain ⟨A8, c8, rfl, hlc8, _⟩ := Kd.R_reads hR8
                    have HC8 := Aside0.mk (hR8)
                    have HLC8 := Aside0.mk hlc8
                    clear hR8 hb8 hlc8
                    refine hK.out _ _ ⟨pw_cell_below HB_1.out HP0.out, pw_cell_below HB_1.out HP1.out⟩ (fun hHeld => ?_)
                    clear hK K
                    refine norm_ (a' := ?_) ?_ ?_
                    rotate_left
                    · show Act.put _ (some 118) _ = _
                      simp only [Act.put, List.setIfInBounds_toArray, List.set_cons_zero, List.set_cons_succ, i64_w, i32_w]
                      rfl
                    refine two_ (i := 3) (j := 7) (Ni := some 119) (Nj := some 15) #[true, true, true, true, true, false, false, false, false] #[true, true, true, false, true, false, false, true, false] rfl rfl rfl rfl (by kernel_rfl) (by decide) (by decide) (fun K hK => ?_) (fun K hK => ?_)
                    · skip
                      refine lits_step 2 (cs := #[.string pt, .slice Ap pl.length cp, .string raw, .slice A8 QL.length c8]) (t := 60) (by rfl) (by first | rfl | (go_simp; done) | (go_simp; rfl)) ?_
                      intro b2 hb2 w2 hblk hb
                      have HB_2 := Aside0.mk (HB_1.out.trans (hb.mono HB_1.out.size))
                      have HS2 := Aside0.mk hblk
                      have HC8 := Aside0.mk (Kd.R_below HC8.out hb)
                      clear hblk hb hb2
                      refine hK.out _ _ ⟨pw_cell_below HB_2.out HP0.out, pw_cell_below HB_2.out HP1.out⟩ (fun hHeld => ?_)
                      clear hK K
                      refine norm_ (a' := ?_) ?_ ?_
                      rotate_left
                      · show Act.put _ (some 119) _ = _
                        simp only [Act.put, List.setIfInBounds_toArray, List.set_cons_zero, List.set_cons_succ, i64_w, i32_w]
                        rfl
                      refine pure_ (i := 5) (N := some 121) (v := ?_) (a' := ?_) #[true, true, true, true, true, true, false, false, false] rfl rfl (by kernel_rfl) (fun _ _ _ h => h) (Or.inl ⟨by rfl, ?_⟩) ?_ ?_
                      rotate_left
                      · intro w'
                        go_simp
                        with_reducible rfl
                      rotate_left
                      · simp only [Act.put, List.setIfInBounds_toArray, List.set_cons_zero, List.set_cons_succ, i64_w, i32_w]
                        rfl
                      refine two_ (i := 6) (j := 7) (Ni := some 122) (Nj := some 15) #[true, true, true, true, true, true, true, false, false] #[true, true, true, true, true, true, false, true, false] rfl rfl rfl rfl (by kernel_rfl) (by decide) (by decide) (fun K hK => ?_) (fun K hK => ?_)
                      · skip
                        have hl0 := cell_blk HS2.out 0 rfl
                        have hl1 := cell_blk HS2.out 1 rfl
                        have HB_3 := HB_2
                        refine value_ (w1 := ?_) (v := ?_) (by rfl) rfl ?_ ?_
                        rotate_left 2
                        · go_simp
                          constructor
                          · rfl
                          · rfl
                        refine hK.out _ _ ⟨pw_cell_below HB_2.out HP0.out, pw_cell_below HB_2.out HP1.out⟩ (fun hHeld => ?_)
                        clear hK K
                        refine norm_ (a' := ?_) ?_ ?_
                        rotate_left
                        · show Act.put _ (some 122) _ = _
                          simp only [Act.put, List.setIfInBounds_toArray, List.set_cons_zero, List.set_cons_succ, i64_w, i32_w]
                          rfl
                        refine one_ (i := 7) (N := some 15) #[true, true, true, true, true, true, true, true, false] rfl rfl (by kernel_rfl) (by decide) (fun K hK => ?_)
                        refine box_step (by rfl) rfl (by first | rfl | (go_simp; done) | (go_simp; rfl)) ?_
                        intro b15 hb15 w4 hblk hb
                        have HB_4 := Aside0.mk (HB_3.out.trans (hb.mono HB_3.out.size))
                        have HA15 := Aside0.mk hblk
                        have HN15 := Aside0.mk (show wd.heap.size ≤ b15 from by rw [hb15]; exact HB_3.out.size)
                        have HC8 := Aside0.mk (Kd.R_below HC8.out hb)
                        have HS2 := Aside0.mk ((hb.block _ (blk_lt' HS2.out)).trans HS2.out)
                        clear hblk hb hb15
                        refine hK.out _ _ ⟨pw_cell_below HB_4.out HP0.out, pw_cell_below HB_4.out HP1.out⟩ (fun hHeld => ?_)
                        clear hK K
                        refine norm_ (a' := ?_) ?_ ?_
                        rotate_left
                        · show Act.put _ (some 15) _ = _
                          simp only [Act.put, List.setIfInBounds_toArray, List.set_cons_zero, List.set_cons_succ, i64_w, i32_w]
                          rfl
                        exact norm_ (by simp only [putAll, Act.put, List.setIfInBounds_toArray, List.set_cons_zero, List.set_cons_succ]) (hCont (A8, c8, b2, b15) _ ⟨HC8.out, HLC8.out, HB_4.out, HA15.out, HN15.out⟩)
                      · skip
                        refine box_step (by rfl) rfl (by first | rfl | (go_simp; done) | (go_simp; rfl)) ?_
                        intro b15 hb15 w3 hblk hb
                        have HB_3 := Aside0.mk (HB_2.out.trans (hb.mono HB_2.out.size))
                        have HA15 := Aside0.mk hblk
                        have HN15 := Aside0.mk (show wd.heap.size ≤ b15 from by rw [hb15]; exact HB_2.out.size)
                        have HC8 := Aside0.mk (Kd.R_below HC8.out hb)
                        have HS2 := Aside0.mk ((hb.block _ (blk_lt' HS2.out)).trans HS2.out)
                        clear hblk hb hb15
                        refine hK.out _ _ ⟨pw_cell_below HB_3.out HP0.out, pw_cell_below HB_3.out HP1.out⟩ (fun hHeld => ?_)
                        clear hK K
                        refine norm_ (a' := ?_) ?_ ?_
                        rotate_left
                        · show Act.put _ (some 15) _ = _
                          simp only [Act.put, List.setIfInBounds_toArray, List.set_cons_zero, List.set_cons_succ, i64_w, i32_w]
                          rfl
                        refine one_ (i := 6) (N := some 122) #[true, true, true, true, true, true, true, true, false] rfl rfl (by kernel_rfl) (by decide) (fun K hK => ?_)
                        have hl0 := cell_blk HS2.out 0 rfl
                        have hl1 := cell_blk HS2.out 1 rfl
                        have HB_4 := HB_3
                        refine value_ (w1 := ?_) (v := ?_) (by rfl) rfl ?_ ?_
                        rotate_left 2
                        · go_simp
                          constructor
                          · rfl
                          · rfl
                        refine hK.out _ _ ⟨pw_cell_below HB_3.out HP0.out, pw_cell_below HB_3.out HP1.out⟩ (fun hHeld => ?_)
                        clear hK K
                        refine norm_ (a' := ?_) ?_ ?_
                        rotate_left
                        · show Act.put _ (some 122) _ = _
                          simp only [Act.put, List.setIfInBounds_toArray, List.set_cons_zero, List.set_cons_succ, i64_w, i32_w]
                          rfl
                        exact norm_ (by simp only [putAll, Act.put, List.setIfInBounds_toArray, List.set_cons_zero, List.set_cons_succ]) (hCont (A8, c8, b2, b15) _ ⟨HC8.out, HLC8.out, HB_4.out, HA15.out, HN15.out⟩)
                    · skip
                      refine box_step (by rfl) rfl (by first | rfl | (go_simp; done) | (go_simp; rfl)) ?_
                      intro b15 hb15 w2 hblk hb
                      have HB_2 := Aside0.mk (HB_1.out.trans (hb.mono HB_1.out.size))
                      have HA15 := Aside0.mk hblk
                      have HN15 := Aside0.mk (show wd.heap.size ≤ b15 from by rw [hb15]; exact HB_1.out.size)
                      have HC8 := Aside0.mk (Kd.R_below HC8.out hb)
                      clear hblk hb hb15
                      refine hK.out _ _ ⟨pw_cell_below HB_2.out HP0.out, pw_cell_below HB_2.out HP1.out⟩ (fun hHeld => ?_)
                      clear hK K
                      refine norm_ (a' := ?_) ?_ ?_
                      rotate_left
                      · show Act.put _ (some 15) _ = _
                        simp only [Act.put, List.setIfInBounds_toArray, List.set_cons_zero, List.set_cons_succ, i64_w, i32_w]
                        rfl
                      refine one_ (i := 3) (N := some 119) #[true, true, true, true, true, false, false, true, false] rfl rfl (by kernel_rfl) (by decide) (fun K hK => ?_)
                      refine lits_step 2 (cs := #[.string pt, .slice Ap pl.length cp, .string raw, .slice A8 QL.length c8]) (t := 60) (by rfl) (by first | rfl | (go_simp; done) | (go_simp; rfl)) ?_
                      intro b2 hb2 w3 hblk hb
                      have HB_3 := Aside0.mk (HB_2.out.trans (hb.mono HB_2.out.size))
                      have HS2 := Aside0.mk hblk
                      have HC8 := Aside0.mk (Kd.R_below HC8.out hb)
                      have HA15 := Aside0.mk ((hb.block _ (blk_lt' HA15.out)).trans HA15.out)
                      clear hblk hb hb2
                      refine hK.out _ _ ⟨pw_cell_below HB_3.out HP0.out, pw_cell_below HB_3.out HP1.out⟩ (fun hHeld => ?_)
                      clear hK K
                      refine norm_ (a' := ?_) ?_ ?_
                      rotate_left
                      · show Act.put _ (some 119) _ = _
                        simp only [Act.put, List.setIfInBounds_toArray, List.set_cons_zero, List.set_cons_succ, i64_w, i32_w]
                        rfl
                      refine pure_ (i := 5) (N := some 121) (v := ?_) (a' := ?_) #[true, true, true, true, true, true, false, true, false] rfl rfl (by kernel_rfl) (fun _ _ _ h => h) (Or.inl ⟨by rfl, ?_⟩) ?_ ?_
                      rotate_left
                      · intro w'
                        go_simp
                        with_reducible rfl
                      rotate_left
                      · simp only [Act.put, List.setIfInBounds_toArray, List.set_cons_zero, List.set_cons_succ, i64_w, i32_w]
                        rfl
                      refine one_ (i := 6) (N := some 122) #[true, true, true, true, true, true, true, true, false] rfl rfl (by kernel_rfl) (by decide) (fun K hK => ?_)
                      have hl0 := cell_blk HS2.out 0 rfl
                      have hl1 := cell_blk HS2.out 1 rfl
                      have HB_4 := HB_3
                      refine value_ (w1 := ?_) (v := ?_) (by rfl) rfl ?_ ?_
                      rotate_left 2
                      · go_simp
                        constructor
                        · rfl
                        · rfl
                      refine hK.out _ _ ⟨pw_cell_below HB_3.out HP0.out, pw_cell_below HB_3.out HP1.out⟩ (fun hHeld => ?_)
                      clear hK K
                      refine norm_ (a' := ?_) ?_ ?_
                      rotate_left
                      · show Act.put _ (some 122) _ = _
                        simp only [Act.put, List.setIfInBounds_toArray, List.set_cons_zero, List.set_cons_succ, i64_w, i32_w]
                        rfl
                      exact norm_ (by simp only [putAll, Act.put, List.setIfInBounds_toArray, List.set_cons_zero, List.set_cons_succ]) (hCont (A8, c8, b2, b15) _ ⟨HC8.out, HLC8.out, HB_4.out, HA15.out, HN15.out⟩)
                  · skip
                    refine box_step (by rfl) rfl (by first | rfl | (go_simp; done) | (go_simp; rfl)) ?_
                    intro b15 hb15 w1 hblk hb
                    have HB_1 := Aside0.mk (hb)
                    have HA15 := Aside0.mk hblk
                    have HN15 := Aside0.mk (show wd.heap.size ≤ b15 from by rw [hb15]; exact Nat.le_refl _)
                    clear hblk hb hb15
                    refine hK.out _ _ ⟨pw_cell_below HB_1.out HP0.out, pw_cell_below HB_1.out HP1.out⟩ (fun hHeld => ?_)
                    clear hK K
                    refine norm_ (a' := ?_) ?_ ?_
                    rotate_left
                    · show Act.put _ (some 15) _ = _
                      simp only [Act.put, List.setIfInBounds_toArray, List.set_cons_zero, List.set_cons_succ, i64_w, i32_w]
                      rfl
                    refine one_ (i := 2) (N := some 118) #[true, true, true, false, true, false, false, true, false] rfl rfl (by kernel_rfl) (by decide) (fun K hK => ?_)
                    refine goes_ Try.func31 (by kernel_rfl) rfl #[.string raw] (by rfl) rfl rfl (by simp only [List.map_toArray, List.map_cons, List.map_nil]; rfl) ?_
                    with_reducible refine (live_calls raw (by have := HRS.out; omega) _).mono ?_
                    rintro e w2 ⟨v8, rfl, hR8, hb8⟩
                    refine ⟨_, rfl, ?_⟩
                    have HB_2 := Aside0.mk (HB_1.out.trans (hb8.mono HB_1.out.size))
                    rw [← HQE.out] at hR8
                    obtain ⟨A8, c8, rfl, hlc8, _⟩ := Kd.R_reads hR8
                    have HC8 := Aside0.mk (Kd.R_lower hR8 HB_1.out.size)
                    have HLC8 := Aside0.mk hlc8
                    have HA15 := Aside0.mk ((hb8.block _ (blk_lt' HA15.out)).trans HA15.out)
                    clear hR8 hb8 hlc8
                    refine hK.out _ _ ⟨pw_cell_below HB_2.out HP0.out, pw_cell_below HB_2.out HP1.out⟩ (fun hHeld => ?_)
                    clear hK K
                    refine norm_ (a' := ?_) ?_ ?_
                    rotate_left
                    · show Act.put _ (some 118) _ = _
                      simp only [Act.put, List.setIfInBounds_toArray, List.set_cons_zero, List.set_cons_succ, i64_w, i32_w]
                      rfl
                    refine one_ (i := 3) (N := some 119) #[true, true, true, true, true, false, false, true, false] rfl rfl (by kernel_rfl) (by decide) (fun K hK => ?_)
                    refine lits_step 2 (cs := #[.string pt, .slice Ap pl.length cp, .string raw, .slice A8 QL.length c8]) (t := 60) (by rfl) (by first | rfl | (go_simp; done) | (go_simp; rfl)) ?_
                    intro b2 hb2 w3 hblk hb
                    have HB_3 := Aside0.mk (HB_2.out.trans (hb.mono HB_2.out.size))
                    have HS2 := Aside0.mk hblk
                    have HC8 := Aside0.mk (Kd.R_below HC8.out hb)
                    have HA15 := Aside0.mk ((hb.block _ (blk_lt' HA15.out)).trans HA15.out)
                    clear hblk hb hb2
                    refine hK.out _ _ ⟨pw_cell_below HB_3.out HP0.out, pw_cell_below HB_3.out HP1.out⟩ (fun hHeld => ?_)
                    clear hK K
                    refine norm_ (a' := ?_) ?_ ?_
                    rotate_left
                    · show Act.put _ (some 119) _ = _
                      simp only [Act.put, List.setIfInBounds_toArray, List.set_cons_zero, List.set_cons_succ, i64_w, i32_w]
                      rfl
                    refine pure_ (i := 5) (N := some 121) (v := ?_) (a' := ?_) #[true, true, true, true, true, true, false, true, false] rfl rfl (by kernel_rfl) (fun _ _ _ h => h) (Or.inl ⟨by rfl, ?_⟩) ?_ ?_
                    rotate_left
                    · intro w'
                      go_simp
                      with_reducible rfl
                    rotate_left
                    · simp only [Act.put, List.setIfInBounds_toArray, List.set_cons_zero, List.set_cons_succ, i64_w, i32_w]
                      rfl
                    refine one_ (i := 6) (N := some 122) #[true, true, true, true, true, true, true, true, false] rfl rfl (by kernel_rfl) (by decide) (fun K hK => ?_)
                    have hl0 := cell_blk HS2.out 0 rfl
                    have hl1 := cell_blk HS2.out 1 rfl
                    have HB_4 := HB_3
                    refine value_ (w1 := ?_) (v := ?_) (by rfl) rfl ?_ ?_
                    rotate_left 2
                    · go_simp
                      constructor
                      · rfl
                      · rfl
                    refine hK.out _ _ ⟨pw_cell_below HB_3.out HP0.out, pw_cell_below HB_3.out HP1.out⟩ (fun hHeld => ?_)
                    clear hK K
                    refine norm_ (a' := ?_) ?_ ?_
                    rotate_left
                    · show Act.put _ (some 122) _ = _
                      simp only [Act.put, List.setIfInBounds_toArray, List.set_cons_zero, List.set_cons_succ, i64_w, i32_w]
                      rfl
                    exact norm_ (by simp only [putAll, Act.put, List.setIfInBounds_toArray, List.set_cons_zero, List.set_cons_succ]) (hCont (A8, c8, b2, b15) _ ⟨HC8.out, HLC8.out, HB_4.out, HA15.out, HN15.out⟩)
                rintro ⟨A8, c8, b2, b15⟩ wf ⟨hf1, hf2, hfB, hf3, hf4⟩
                have HQC := Aside0.mk hf1
                have HQL := Aside0.mk hf2
                have HFB := Aside0.mk hfB
                have HA15 := Aside0.mk hf3
                have HN15 := Aside0.mk hf4
                have hHeld : _ ∧ _ := ⟨pw_cell_below hfB HP0.out, pw_cell_below hfB HP1.out⟩
                clear hf1 hf2 hfB hf3 hf4
                refine norm_ (a' := ?_) ?_ ?_
                rotate_left
                · simp only [putAll, Act.put, List.setIfInBounds_toArray, List.set_cons_zero, List.set_cons_succ]
                  rfl
                refine last_ (i := 8) (N := none) #[true, true, true, true, true, true, true, true, true] rfl rfl (by kernel_rfl) (by decide) (fun K hK => ?_)
                refine skip_ (w1 := wf.setCells b15 0 [.string pt, .slice Ap pl.length cp]) (by rfl) rfl (store_pat HA15.out _ _ rfl rfl rfl) ?_
                refine hK.out _ _ ?_
                clear hK K
                refine done_ (by kernel_rfl) ?_
                have HZ15 := Aside0.mk (store_pat_row (qt := pt) (qv := .slice Ap pl.length cp) HA15.out)
                have hcz : Chg (fun k => k = b15) wf (wf.setCells b15 0 [.string pt, .slice Ap pl.length cp]) := Chg.setCells (S := fun k => k = b15) (b := b15) (.inl rfl) _ _ _ (Chg.refl _ _)
                have hcd : Chg none_ wd (wf.setCells b15 0 [.string pt, .slice Ap pl.length cp]) := (Chg.of_below HFB.out none_).then_ hcz (fun k h => .inr (by rw [h]; exact HN15.out))
                have HTZ := Aside0.mk (HTD.out.chg hcd (fun h => h) (fun h => h))
                have HRZ := Aside0.mk (HRD.out.chg hcd (fun h => h) (fun _ h => h.elim))
                have HCWZ := Aside0.mk (HCWD.out.then_ hcd (fun _ h => h.elim))
                have HCQZ := Aside0.mk (Kd.C_below HCP.out HCWZ.out.toBelow)
                have HCQL := Aside0.mk HCPL.out
                have HQS := Aside0.mk (show pt.size ≤ 1000000 by have := HRS.out; omega)
                have hq0 := cell_blk HZ15.out 0 rfl
                have hq1 := cell_blk HZ15.out 1 rfl
                obtain ⟨GG, hgg⟩ : ∃ G, globF Lf pt pl = G := ⟨_, rfl⟩
                have HGG := Aside0.mk hgg
                clear hcz hcd hgg
                generalize wf.setCells b15 0 [.string pt, .slice Ap pl.length cp] = wz at HTZ HRZ HCWZ HCQZ hq0 hq1 HZ15 ⊢
                go_wp2_with fail
                refine start_ (n := 8) (S := fun w' => w'.cell? ⟨b15, 0, none⟩ = some (.string pt) ∧ w'.cell? ⟨b15, 1, none⟩ = some (.slice Ap pl.length cp)) (ds := []) #[false, false, false, false, false, false, false, false] (by kernel_rfl) rfl rfl ⟨hq0, hq1⟩ (fun hHeld => ?_)
                have hbd : Below wz.heap.size wz wz.drew := Drawn0.below ⟨1, rfl⟩; have HT1 := Aside0.mk (HTZ.out.below hbd); have HR1 := Aside0.mk (HRZ.out.below hbd); have HCW1 := Aside0.mk (HCWZ.out.below hbd); have HCQ1 := Aside0.mk (Kd.C_below HCQZ.out hbd); have HQ0 := Aside0.mk hHeld.1; have HQ1 := Aside0.mk hHeld.2; clear hbd; generalize wz.drew = we at HT1 HR1 HCW1 HCQ1 HQ0 HQ1 hHeld ⊢
                refine pure_ (i := 0) (N := some 123) (v := ?_) (a' := ?_) #[true, false, false, false, false, false, false, false] rfl rfl (by kernel_rfl) (fun _ _ _ h => h) (Or.inl ⟨by rfl, ?_⟩) ?_ ?_
                rotate_left
                · intro w'
                  go_simp
                  with_reducible rfl
                rotate_left
                · simp only [Act.put, List.setIfInBounds_toArray, List.set_cons_zero, List.set_cons_succ, i64_w, i32_w]
                  rfl
                refine pure_ (i := 3) (N := some 126) (v := ?_) (a' := ?_) #[true, false, false, true, false, false, false, false] rfl rfl (by kernel_rfl) (fun _ _ _ h => h) (Or.inl ⟨by rfl, ?_⟩) ?_ ?_
                rotate_left
                · intro w'
                  go_simp
                  with_reducible rfl
                rotate_left
                · simp only [Act.put, List.setIfInBounds_toArray, List.set_cons_zero, List.set_cons_succ, i64_w, i32_w]
                  rfl
                refine take_ (i := 1) (N := some 124) (v := ?_) (a' := ?_) #[true, true, false, true, false, false, false, false] rfl rfl (by kernel_rfl) (fun _ _ _ h => h) (Or.inl ⟨by rfl, ?_⟩) hHeld ?_ ?_
                rotate_left
                · rintro w' ⟨s0, s1⟩
                  go_simp
                  with_reducible rfl
                rotate_left
                · simp only [Act.put, List.setIfInBounds_toArray, List.set_cons_zero, List.set_cons_succ, i64_w, i32_w]
                  rfl
                refine take_ (i := 4) (N := some 127) (v := ?_) (a' := ?_) #[true, true, false, true, true, false, false, false] rfl rfl (by kernel_rfl) (fun _ _ _ h => h) (Or.inl ⟨by rfl, ?_⟩) hHeld ?_ ?_
                rotate_left
                · rintro w' ⟨s0, s1⟩
                  go_simp
                  with_reducible rfl
                rotate_left
                · simp only [Act.put, List.setIfInBounds_toArray, List.set_cons_zero, List.set_cons_succ, i64_w, i32_w]
                  rfl
                refine one_ (i := 2) (N := some 125) #[true, true, true, true, true, false, false, false] rfl rfl (by kernel_rfl) (by decide) (fun K hK => ?_)
                refine goes_ Try.func32 (by kernel_rfl) rfl #[.pointer (some ⟨g, 0, none⟩), .agg #[.string pt, .slice Ap pl.length cp]] (by rfl) rfl rfl (by simp only [List.map_toArray, List.map_cons, List.map_nil]; rfl) ?_
                with_reducible refine (tree_Glob g m Lf pt Ap cp pl _ HLF.out.2 HOKF.out HT1.out HCQ1.out HCQL.out HQS.out).mono ?_
                rintro e w5 ⟨v5, rfl, hR5, hb5⟩
                refine ⟨_, rfl, ?_⟩
                rw [HGG.out] at hR5
                obtain ⟨A5, c5, rfl, hlc5, hC5⟩ := Kd.R_reads hR5
                have HBE5 := Aside0.mk hb5
                have HR5 := Aside0.mk (HR1.out.below hb5)
                have HT5 := Aside0.mk (HT1.out.below hb5)
                have HCW5 := Aside0.mk (HCW1.out.below hb5)
                have HCQ5 := Aside0.mk (Kd.C_below HCQ1.out hb5)
                have HC5 := Aside0.mk hC5
                have HLC5 := Aside0.mk hlc5
                clear hR5 hb5 hlc5 hC5
                refine hK.out _ _ ⟨pw_cell_below HBE5.out HQ0.out, pw_cell_below HBE5.out HQ1.out⟩ (fun hHeld => ?_)
                clear hK K
                refine norm_ (a' := ?_) ?_ ?_
                rotate_left
                · show Act.put _ (some 125) _ = _
                  simp only [Act.put, List.setIfInBounds_toArray, List.set_cons_zero, List.set_cons_succ, i64_w, i32_w]
                  rfl
                refine one_ (i := 5) (N := some 128) #[true, true, true, true, true, true, false, false] rfl rfl (by kernel_rfl) (by decide) (fun K hK => ?_)
                refine goes_ Try.func43 (by kernel_rfl) rfl #[.pointer (some ⟨g2, 0, none⟩), .agg #[.string pt, .slice Ap pl.length cp]] (by rfl) rfl rfl (by simp only [List.map_toArray, List.map_cons, List.map_nil]; rfl) ?_
                with_reducible refine (ref_Glob g2 b1 (Lf.map Prod.fst) pt Ap cp pl _ HLFM.out HOKM.out HR5.out HCQ5.out HCQL.out HQS.out).mono ?_
                rintro e w6 ⟨v6, rfl, hR6, hb6⟩
                refine ⟨_, rfl, ?_⟩
                change Kd.R Kd.string _ _ _ _ _ (globF Lf pt pl) at hR6
                rw [HGG.out] at hR6
                obtain ⟨A6, c6, rfl, hlc6, hC6⟩ := Kd.R_reads hR6
                have HBE6 := Aside0.mk (HBE5.out.trans (hb6.mono HBE5.out.size))
                have HR6 := Aside0.mk (HR5.out.below hb6)
                have HT6 := Aside0.mk (HT5.out.below hb6)
                have HCW6 := Aside0.mk (HCW5.out.below hb6)
                have HC56 := Aside0.mk (Kd.C_below HC5.out hb6)
                have HC6 := Aside0.mk hC6
                have HLC6 := Aside0.mk hlc6
                clear hR6 hb6 hlc6 hC6
                refine hK.out _ _ ⟨pw_cell_below HBE6.out HQ0.out, pw_cell_below HBE6.out HQ1.out⟩ (fun hHeld => ?_)
                clear hK K
                refine norm_ (a' := ?_) ?_ ?_
                rotate_left
                · show Act.put _ (some 128) _ = _
                  simp only [Act.put, List.setIfInBounds_toArray, List.set_cons_zero, List.set_cons_succ, i64_w, i32_w]
                  rfl
                refine one_ (i := 6) (N := some 129) #[true, true, true, true, true, true, true, false] rfl rfl (by kernel_rfl) (by decide) (fun K hK => ?_)
                refine goes_ Try.func41 (by kernel_rfl) rfl #[.slice A5 GG.length c5, .slice A6 GG.length c6] (by rfl) rfl rfl (by simp only [List.map_toArray, List.map_cons, List.map_nil]; rfl) ?_
                with_reducible refine (same_texts A5 A6 c5 c6 _ _ true (decide_eq_true rfl) _ HC56.out HLC5.out HC6.out HLC6.out).mono ?_
                rintro e w7 ⟨rfl, hd7⟩
                refine ⟨_, rfl, ?_⟩
                have HBE7 := Aside0.mk (HBE6.out.trans (hd7.below.mono HBE6.out.size))
                have HR7 := Aside0.mk (HR6.out.below hd7.below)
                have HT7 := Aside0.mk (HT6.out.below hd7.below)
                have HCW7 := Aside0.mk (HCW6.out.drawn hd7)
                clear hd7
                refine hK.out _ _ ⟨pw_cell_below HBE7.out HQ0.out, pw_cell_below HBE7.out HQ1.out⟩ (fun hHeld => ?_)
                clear hK K
                refine norm_ (a' := ?_) ?_ ?_
                rotate_left
                · show Act.put _ (some 129) _ = _
                  simp only [Act.put, List.setIfInBounds_toArray, List.set_cons_zero, List.set_cons_succ, i64_w, i32_w]
                  rfl
                refine pure_ (i := 7) (N := some 130) (v := ?_) (a' := ?_) #[true, true, true, true, true, true, true, true] rfl rfl (by kernel_rfl) (fun _ _ _ h => h) (Or.inl ⟨by rfl, ?_⟩) ?_ ?_
                rotate_left
                · intro w'
                  go_simp
                  with_reducible rfl
                rotate_left
                · simp only [Act.put, List.setIfInBounds_toArray, List.set_cons_zero, List.set_cons_succ, i64_w, i32_w]
                  rfl
                refine done_ (by kernel_rfl) ?_
                go_wp2_with fail
                go_roundw
                case rel => exact ⟨1, by omega, by go_num, HT7, HR7, HCW7⟩
                case measure => simp [intOf]
              · skip
                obtain ⟨QL, hql⟩ : ∃ q, q = List.replicate raw.size true := ⟨_, rfl⟩
                have HQE := Aside0.mk hql
                clear hql
                go_wp2_with fail
                refine start_ (n := 9) (S := fun w' => w'.cell? ⟨w.heap.size, 0, none⟩ = some (.string pt) ∧ w'.cell? ⟨w.heap.size, 1, none⟩ = some (.slice Ap pl.length cp)) (ds := [8]) #[false, false, false, false, false, false, false, false, false] (by kernel_rfl) rfl rfl ⟨hp0, hp1⟩ (fun hHeld => ?_)
                have hbd : Below wr.heap.size wr wr.drew := Drawn0.below ⟨1, rfl⟩; have HTD := Aside0.mk (HT.out.below hbd); have HRD := Aside0.mk (HR.out.below hbd); have HCWD := Aside0.mk (HCWR.out.below hbd); have HP0 := Aside0.mk hHeld.1; have HP1 := Aside0.mk hHeld.2; clear hbd; generalize wr.drew = wd at HTD HRD HCWD HP0 HP1 hHeld ⊢
                refine pure_ (i := 1) (N := some 117) (v := ?_) (a' := ?_) #[false, true, false, false, false, false, false, false, false] rfl rfl (by kernel_rfl) (fun _ _ _ h => h) (Or.inl ⟨by rfl, ?_⟩) ?_ ?_
                rotate_left
                · intro w'
                  go_simp
                  with_reducible rfl
                rotate_left
                · simp only [Act.put, List.setIfInBounds_toArray, List.set_cons_zero, List.set_cons_succ, i64_w, i32_w]
                  rfl
                refine pure_ (i := 4) (N := some 120) (v := ?_) (a' := ?_) #[false, true, false, false, true, false, false, false, false] rfl rfl (by kernel_rfl) (fun _ _ _ h => h) (Or.inl ⟨by rfl, ?_⟩) ?_ ?_
                rotate_left
                · intro w'
                  go_simp
                  with_reducible rfl
                rotate_left
                · simp only [Act.put, List.setIfInBounds_toArray, List.set_cons_zero, List.set_cons_succ, i64_w, i32_w]
                  rfl
                refine take_ (i := 0) (N := some 116) (v := ?_) (a' := ?_) #[true, true, false, false, true, false, false, false, false] rfl rfl (by kernel_rfl) (fun _ _ _ h => h) (Or.inl ⟨by rfl, ?_⟩) hHeld ?_ ?_
                rotate_left
                · rintro w' ⟨s0, s1⟩
                  go_simp
                  with_reducible rfl
                rotate_left
                · simp only [Act.put, List.setIfInBounds_toArray, List.set_cons_zero, List.set_cons_succ, i64_w, i32_w]
                  rfl
                refine join_ (σ := Option Addr × Nat × Nat × Nat) 1 #[true, true, true, true, true, true, true, true, false] (fun p => [(118, .agg #[.string raw, .slice p.1 QL.length p.2.1]), (119, .slice (some ⟨p.2.2.1, 0, none⟩) 2 2), (121, .pointer (some ⟨p.2.2.1, 2, none⟩)), (122, .agg #[.string raw, .slice p.1 QL.length p.2.1]), (15, .pointer (some ⟨p.2.2.2, 0, none⟩))]) (fun p w' => Kd.R Kd.bool 4 w' wd.heap.size (fun _ => True) (.slice p.1 QL.length p.2.1) QL ∧ QL.length ≤ p.2.1 ∧ Below wd.heap.size wd w' ∧ w'.heap[p.2.2.2]? = some (.cells #[.string ⟨#[]⟩, .slice none 0 0] 60 (0, 0)) ∧ wd.heap.size ≤ p.2.2.2) ?_ ?_
                rotate_left
                · intro hCont
                  refine two_ (i := 2) (j := 7) (Ni := some 118) (Nj := some 15) #[true, true, true, false, true, false, false, false, false] #[true, true, false, false, true, false, false, true, false] rfl rfl rfl rfl (by kernel_rfl) (by decide) (by decide) (fun K hK => ?_) (fun K hK => ?_)
                  · skip
                    refine goes_ Try.func31 (by kernel_rfl) rfl #[.string raw] (by rfl) rfl rfl (by simp only [List.map_toArray, List.map_cons, List.map_nil]; rfl) ?_
                    with_reducible refine (live_calls raw (by have := HRS.out; omega) _).mono ?_
                    rintro e w1 ⟨v8, rfl, hR8, hb8⟩
                    refine ⟨_, rfl, ?_⟩
                    have HB_1 := Aside0.mk (hb8)
                    rw [← HQE.out] at hR8
                    obtain ⟨A8, c8, rfl, hlc8, _⟩ := Kd.R_reads hR8
                    have HC8 := Aside0.mk (hR8)
                    have HLC8 := Aside0.mk hlc8
                    clear hR8 hb8 hlc8
                    refine hK.out _ _ ⟨pw_cell_below HB_1.out HP0.out, pw_cell_below HB_1.out HP1.out⟩ (fun hHeld => ?_)
                    clear hK K
                    refine norm_ (a' := ?_) ?_ ?_
                    rotate_left
                    · show Act.put _ (some 118) _ = _
                      simp only [Act.put, List.setIfInBounds_toArray, List.set_cons_zero, List.set_cons_succ, i64_w, i32_w]
                      rfl
                    refine two_ (i := 3) (j := 7) (Ni := some 119) (Nj := some 15) #[true, true, true, true, true, false, false, false, false] #[true, true, true, false, true, false, false, true, false] rfl rfl rfl rfl (by kernel_rfl) (by decide) (by decide) (fun K hK => ?_) (fun K hK => ?_)
                    · skip
                      refine lits_step 2 (cs := #[.string pt, .slice Ap pl.length cp, .string raw, .slice A8 QL.length c8]) (t := 60) (by rfl) (by first | rfl | (go_simp; done) | (go_simp; rfl)) ?_
                      intro b2 hb2 w2 hblk hb
                      have HB_2 := Aside0.mk (HB_1.out.trans (hb.mono HB_1.out.size))
                      have HS2 := Aside0.mk hblk
                      have HC8 := Aside0.mk (Kd.R_below HC8.out hb)
                      clear hblk hb hb2
                      refine hK.out _ _ ⟨pw_cell_below HB_2.out HP0.out, pw_cell_below HB_2.out HP1.out⟩ (fun hHeld => ?_)
                      clear hK K
                      refine norm_ (a' := ?_) ?_ ?_
                      rotate_left
                      · show Act.put _ (some 119) _ = _
                        simp only [Act.put, List.setIfInBounds_toArray, List.set_cons_zero, List.set_cons_succ, i64_w, i32_w]
                        rfl
                      refine pure_ (i := 5) (N := some 121) (v := ?_) (a' := ?_) #[true, true, true, true, true, true, false, false, false] rfl rfl (by kernel_rfl) (fun _ _ _ h => h) (Or.inl ⟨by rfl, ?_⟩) ?_ ?_
                      rotate_left
                      · intro w'
                        go_simp
                        with_reducible rfl
                      rotate_left
                      · simp only [Act.put, List.setIfInBounds_toArray, List.set_cons_zero, List.set_cons_succ, i64_w, i32_w]
                        rfl
                      refine two_ (i := 6) (j := 7) (Ni := some 122) (Nj := some 15) #[true, true, true, true, true, true, true, false, false] #[true, true, true, true, true, true, false, true, false] rfl rfl rfl rfl (by kernel_rfl) (by decide) (by decide) (fun K hK => ?_) (fun K hK => ?_)
                      · skip
                        have hl0 := cell_blk HS2.out 2 rfl
                        have hl1 := cell_blk HS2.out 3 rfl
                        have HB_3 := HB_2
                        refine value_ (w1 := ?_) (v := ?_) (by rfl) rfl ?_ ?_
                        rotate_left 2
                        · go_simp
                          constructor
                          · rfl
                          · rfl
                        refine hK.out _ _ ⟨pw_cell_below HB_2.out HP0.out, pw_cell_below HB_2.out HP1.out⟩ (fun hHeld => ?_)
                        clear hK K
                        refine norm_ (a' := ?_) ?_ ?_
                        rotate_left
                        · show Act.put _ (some 122) _ = _
                          simp only [Act.put, List.setIfInBounds_toArray, List.set_cons_zero, List.set_cons_succ, i64_w, i32_w]
                          rfl
                        refine one_ (i := 7) (N := some 15) #[true, true, true, true, true, true, true, true, false] rfl rfl (by kernel_rfl) (by decide) (fun K hK => ?_)
                        refine box_step (by rfl) rfl (by first | rfl | (go_simp; done) | (go_simp; rfl)) ?_
                        intro b15 hb15 w4 hblk hb
                        have HB_4 := Aside0.mk (HB_3.out.trans (hb.mono HB_3.out.size))
                        have HA15 := Aside0.mk hblk
                        have HN15 := Aside0.mk (show wd.heap.size ≤ b15 from by rw [hb15]; exact HB_3.out.size)
                        have HC8 := Aside0.mk (Kd.R_below HC8.out hb)
                        have HS2 := Aside0.mk ((hb.block _ (blk_lt' HS2.out)).trans HS2.out)
                        clear hblk hb hb15
                        refine hK.out _ _ ⟨pw_cell_below HB_4.out HP0.out, pw_cell_below HB_4.out HP1.out⟩ (fun hHeld => ?_)
                        clear hK K
                        refine norm_ (a' := ?_) ?_ ?_
                        rotate_left
                        · show Act.put _ (some 15) _ = _
                          simp only [Act.put, List.setIfInBounds_toArray, List.set_cons_zero, List.set_cons_succ, i64_w, i32_w]
                          rfl
                        exact norm_ (by simp only [putAll, Act.put, List.setIfInBounds_toArray, List.set_cons_zero, List.set_cons_succ]) (hCont (A8, c8, b2, b15) _ ⟨HC8.out, HLC8.out, HB_4.out, HA15.out, HN15.out⟩)
                      · skip
                        refine box_step (by rfl) rfl (by first | rfl | (go_simp; done) | (go_simp; rfl)) ?_
                        intro b15 hb15 w3 hblk hb
                        have HB_3 := Aside0.mk (HB_2.out.trans (hb.mono HB_2.out.size))
                        have HA15 := Aside0.mk hblk
                        have HN15 := Aside0.mk (show wd.heap.size ≤ b15 from by rw [hb15]; exact HB_2.out.size)
                        have HC8 := Aside0.mk (Kd.R_below HC8.out hb)
                        have HS2 := Aside0.mk ((hb.block _ (blk_lt' HS2.out)).trans HS2.out)
                        clear hblk hb hb15
                        refine hK.out _ _ ⟨pw_cell_below HB_3.out HP0.out, pw_cell_below HB_3.out HP1.out⟩ (fun hHeld => ?_)
                        clear hK K
                        refine norm_ (a' := ?_) ?_ ?_
                        rotate_left
                        · show Act.put _ (some 15) _ = _
                          simp only [Act.put, List.setIfInBounds_toArray, List.set_cons_zero, List.set_cons_succ, i64_w, i32_w]
                          rfl
                        refine one_ (i := 6) (N := some 122) #[true, true, true, true, true, true, true, true, false] rfl rfl (by kernel_rfl) (by decide) (fun K hK => ?_)
                        have hl0 := cell_blk HS2.out 2 rfl
                        have hl1 := cell_blk HS2.out 3 rfl
                        have HB_4 := HB_3
                        refine value_ (w1 := ?_) (v := ?_) (by rfl) rfl ?_ ?_
                        rotate_left 2
                        · go_simp
                          constructor
                          · rfl
                          · rfl
                        refine hK.out _ _ ⟨pw_cell_below HB_3.out HP0.out, pw_cell_below HB_3.out HP1.out⟩ (fun hHeld => ?_)
                        clear hK K
                        refine norm_ (a' := ?_) ?_ ?_
                        rotate_left
                        · show Act.put _ (some 122) _ = _
                          simp only [Act.put, List.setIfInBounds_toArray, List.set_cons_zero, List.set_cons_succ, i64_w, i32_w]
                          rfl
                        exact norm_ (by simp only [putAll, Act.put, List.setIfInBounds_toArray, List.set_cons_zero, List.set_cons_succ]) (hCont (A8, c8, b2, b15) _ ⟨HC8.out, HLC8.out, HB_4.out, HA15.out, HN15.out⟩)
                    · skip
                      refine box_step (by rfl) rfl (by first | rfl | (go_simp; done) | (go_simp; rfl)) ?_
                      intro b15 hb15 w2 hblk hb
                      have HB_2 := Aside0.mk (HB_1.out.trans (hb.mono HB_1.out.size))
                      have HA15 := Aside0.mk hblk
                      have HN15 := Aside0.mk (show wd.heap.size ≤ b15 from by rw [hb15]; exact HB_1.out.size)
                      have HC8 := Aside0.mk (Kd.R_below HC8.out hb)
                      clear hblk hb hb15
                      refine hK.out _ _ ⟨pw_cell_below HB_2.out HP0.out, pw_cell_below HB_2.out HP1.out⟩ (fun hHeld => ?_)
                      clear hK K
                      refine norm_ (a' := ?_) ?_ ?_
                      rotate_left
                      · show Act.put _ (some 15) _ = _
                        simp only [Act.put, List.setIfInBounds_toArray, List.set_cons_zero, List.set_cons_succ, i64_w, i32_w]
                        rfl
                      refine one_ (i := 3) (N := some 119) #[true, true, true, true, true, false, false, true, false] rfl rfl (by kernel_rfl) (by decide) (fun K hK => ?_)
                      refine lits_step 2 (cs := #[.string pt, .slice Ap pl.length cp, .string raw, .slice A8 QL.length c8]) (t := 60) (by rfl) (by first | rfl | (go_simp; done) | (go_simp; rfl)) ?_
                      intro b2 hb2 w3 hblk hb
                      have HB_3 := Aside0.mk (HB_2.out.trans (hb.mono HB_2.out.size))
                      have HS2 := Aside0.mk hblk
                      have HC8 := Aside0.mk (Kd.R_below HC8.out hb)
                      have HA15 := Aside0.mk ((hb.block _ (blk_lt' HA15.out)).trans HA15.out)
                      clear hblk hb hb2
                      refine hK.out _ _ ⟨pw_cell_below HB_3.out HP0.out, pw_cell_below HB_3.out HP1.out⟩ (fun hHeld => ?_)
                      clear hK K
                      refine norm_ (a' := ?_) ?_ ?_
                      rotate_left
                      · show Act.put _ (some 119) _ = _
                        simp only [Act.put, List.setIfInBounds_toArray, List.set_cons_zero, List.set_cons_succ, i64_w, i32_w]
                        rfl
                      refine pure_ (i := 5) (N := some 121) (v := ?_) (a' := ?_) #[true, true, true, true, true, true, false, true, false] rfl rfl (by kernel_rfl) (fun _ _ _ h => h) (Or.inl ⟨by rfl, ?_⟩) ?_ ?_
                      rotate_left
                      · intro w'
                        go_simp
                        with_reducible rfl
                      rotate_left
                      · simp only [Act.put, List.setIfInBounds_toArray, List.set_cons_zero, List.set_cons_succ, i64_w, i32_w]
                        rfl
                      refine one_ (i := 6) (N := some 122) #[true, true, true, true, true, true, true, true, false] rfl rfl (by kernel_rfl) (by decide) (fun K hK => ?_)
                      have hl0 := cell_blk HS2.out 2 rfl
                      have hl1 := cell_blk HS2.out 3 rfl
                      have HB_4 := HB_3
                      refine value_ (w1 := ?_) (v := ?_) (by rfl) rfl ?_ ?_
                      rotate_left 2
                      · go_simp
                        constructor
                        · rfl
                        · rfl
                      refine hK.out _ _ ⟨pw_cell_below HB_3.out HP0.out, pw_cell_below HB_3.out HP1.out⟩ (fun hHeld => ?_)
                      clear hK K
                      refine norm_ (a' := ?_) ?_ ?_
                      rotate_left
                      · show Act.put _ (some 122) _ = _
                        simp only [Act.put, List.setIfInBounds_toArray, List.set_cons_zero, List.set_cons_succ, i64_w, i32_w]
                        rfl
                      exact norm_ (by simp only [putAll, Act.put, List.setIfInBounds_toArray, List.set_cons_zero, List.set_cons_succ]) (hCont (A8, c8, b2, b15) _ ⟨HC8.out, HLC8.out, HB_4.out, HA15.out, HN15.out⟩)
                  · skip
                    refine box_step (by rfl) rfl (by first | rfl | (go_simp; done) | (go_simp; rfl)) ?_
                    intro b15 hb15 w1 hblk hb
                    have HB_1 := Aside0.mk (hb)
                    have HA15 := Aside0.mk hblk
                    have HN15 := Aside0.mk (show wd.heap.size ≤ b15 from by rw [hb15]; exact Nat.le_refl _)
                    clear hblk hb hb15
                    refine hK.out _ _ ⟨pw_cell_below HB_1.out HP0.out, pw_cell_below HB_1.out HP1.out⟩ (fun hHeld => ?_)
                    clear hK K
                    refine norm_ (a' := ?_) ?_ ?_
                    rotate_left
                    · show Act.put _ (some 15) _ = _
                      simp only [Act.put, List.setIfInBounds_toArray, List.set_cons_zero, List.set_cons_succ, i64_w, i32_w]
                      rfl
                    refine one_ (i := 2) (N := some 118) #[true, true, true, false, true, false, false, true, false] rfl rfl (by kernel_rfl) (by decide) (fun K hK => ?_)
                    refine goes_ Try.func31 (by kernel_rfl) rfl #[.string raw] (by rfl) rfl rfl (by simp only [List.map_toArray, List.map_cons, List.map_nil]; rfl) ?_
                    with_reducible refine (live_calls raw (by have := HRS.out; omega) _).mono ?_
                    rintro e w2 ⟨v8, rfl, hR8, hb8⟩
                    refine ⟨_, rfl, ?_⟩
                    have HB_2 := Aside0.mk (HB_1.out.trans (hb8.mono HB_1.out.size))
                    rw [← HQE.out] at hR8
                    obtain ⟨A8, c8, rfl, hlc8, _⟩ := Kd.R_reads hR8
                    have HC8 := Aside0.mk (Kd.R_lower hR8 HB_1.out.size)
                    have HLC8 := Aside0.mk hlc8
                    have HA15 := Aside0.mk ((hb8.block _ (blk_lt' HA15.out)).trans HA15.out)
                    clear hR8 hb8 hlc8
                    refine hK.out _ _ ⟨pw_cell_below HB_2.out HP0.out, pw_cell_below HB_2.out HP1.out⟩ (fun hHeld => ?_)
                    clear hK K
                    refine norm_ (a' := ?_) ?_ ?_
                    rotate_left
                    · show Act.put _ (some 118) _ = _
                      simp only [Act.put, List.setIfInBounds_toArray, List.set_cons_zero, List.set_cons_succ, i64_w, i32_w]
                      rfl
                    refine one_ (i := 3) (N := some 119) #[true, true, true, true, true, false, false, true, false] rfl rfl (by kernel_rfl) (by decide) (fun K hK => ?_)
                    refine lits_step 2 (cs := #[.string pt, .slice Ap pl.length cp, .string raw, .slice A8 QL.length c8]) (t := 60) (by rfl) (by first | rfl | (go_simp; done) | (go_simp; rfl)) ?_
                    intro b2 hb2 w3 hblk hb
                    have HB_3 := Aside0.mk (HB_2.out.trans (hb.mono HB_2.out.size))
                    have HS2 := Aside0.mk hblk
                    have HC8 := Aside0.mk (Kd.R_below HC8.out hb)
                    have HA15 := Aside0.mk ((hb.block _ (blk_lt' HA15.out)).trans HA15.out)
                    clear hblk hb hb2
                    refine hK.out _ _ ⟨pw_cell_below HB_3.out HP0.out, pw_cell_below HB_3.out HP1.out⟩ (fun hHeld => ?_)
                    clear hK K
                    refine norm_ (a' := ?_) ?_ ?_
                    rotate_left
                    · show Act.put _ (some 119) _ = _
                      simp only [Act.put, List.setIfInBounds_toArray, List.set_cons_zero, List.set_cons_succ, i64_w, i32_w]
                      rfl
                    refine pure_ (i := 5) (N := some 121) (v := ?_) (a' := ?_) #[true, true, true, true, true, true, false, true, false] rfl rfl (by kernel_rfl) (fun _ _ _ h => h) (Or.inl ⟨by rfl, ?_⟩) ?_ ?_
                    rotate_left
                    · intro w'
                      go_simp
                      with_reducible rfl
                    rotate_left
                    · simp only [Act.put, List.setIfInBounds_toArray, List.set_cons_zero, List.set_cons_succ, i64_w, i32_w]
                      rfl
                    refine one_ (i := 6) (N := some 122) #[true, true, true, true, true, true, true, true, false] rfl rfl (by kernel_rfl) (by decide) (fun K hK => ?_)
                    have hl0 := cell_blk HS2.out 2 rfl
                    have hl1 := cell_blk HS2.out 3 rfl
                    have HB_4 := HB_3
                    refine value_ (w1 := ?_) (v := ?_) (by rfl) rfl ?_ ?_
                    rotate_left 2
                    · go_simp
                      constructor
                      · rfl
                      · rfl
                    refine hK.out _ _ ⟨pw_cell_below HB_3.out HP0.out, pw_cell_below HB_3.out HP1.out⟩ (fun hHeld => ?_)
                    clear hK K
                    refine norm_ (a' := ?_) ?_ ?_
                    rotate_left
                    · show Act.put _ (some 122) _ = _
                      simp only [Act.put, List.setIfInBounds_toArray, List.set_cons_zero, List.set_cons_succ, i64_w, i32_w]
                      rfl
                    exact norm_ (by simp only [putAll, Act.put, List.setIfInBounds_toArray, List.set_cons_zero, List.set_cons_succ]) (hCont (A8, c8, b2, b15) _ ⟨HC8.out, HLC8.out, HB_4.out, HA15.out, HN15.out⟩)
                rintro ⟨A8, c8, b2, b15⟩ wf ⟨hf1, hf2, hfB, hf3, hf4⟩
                have HQC := Aside0.mk hf1
                have HQL := Aside0.mk hf2
                have HFB := Aside0.mk hfB
                have HA15 := Aside0.mk hf3
                have HN15 := Aside0.mk hf4
                have hHeld : _ ∧ _ := ⟨pw_cell_below hfB HP0.out, pw_cell_below hfB HP1.out⟩
                clear hf1 hf2 hfB hf3 hf4
                refine norm_ (a' := ?_) ?_ ?_
                rotate_left
                · simp only [putAll, Act.put, List.setIfInBounds_toArray, List.set_cons_zero, List.set_cons_succ]
                  rfl
                refine last_ (i := 8) (N := none) #[true, true, true, true, true, true, true, true, true] rfl rfl (by kernel_rfl) (by decide) (fun K hK => ?_)
                refine skip_ (w1 := wf.setCells b15 0 [.string raw, .slice A8 QL.length c8]) (by rfl) rfl (store_pat HA15.out _ _ rfl rfl rfl) ?_
                refine hK.out _ _ ?_
                clear hK K
                refine done_ (by kernel_rfl) ?_
                have HZ15 := Aside0.mk (store_pat_row (qt := raw) (qv := .slice A8 QL.length c8) HA15.out)
                have hcz : Chg (fun k => k = b15) wf (wf.setCells b15 0 [.string raw, .slice A8 QL.length c8]) := Chg.setCells (S := fun k => k = b15) (b := b15) (.inl rfl) _ _ _ (Chg.refl _ _)
                have hcd : Chg none_ wd (wf.setCells b15 0 [.string raw, .slice A8 QL.length c8]) := (Chg.of_below HFB.out none_).then_ hcz (fun k h => .inr (by rw [h]; exact HN15.out))
                have HTZ := Aside0.mk (HTD.out.chg hcd (fun h => h) (fun h => h))
                have HRZ := Aside0.mk (HRD.out.chg hcd (fun h => h) (fun _ h => h.elim))
                have HCWZ := Aside0.mk (HCWD.out.then_ hcd (fun _ h => h.elim))
                have hne := Kd.R_ne HQC.out HA15.out (by decide)
                have HCQZ := Aside0.mk (C_chg_typed (Kd.R_reads' HQC.out).2.2 hcz (fun ad he hb => hne (by subst he; simp [Value.ownBlock, hb])))
                have HCQL := Aside0.mk HQL.out
                have HQS := Aside0.mk (show raw.size ≤ 1000000 by have := HRS.out; omega)
                clear hne
                have hq0 := cell_blk HZ15.out 0 rfl
                have hq1 := cell_blk HZ15.out 1 rfl
                obtain ⟨GG, hgg⟩ : ∃ G, globF Lf raw QL = G := ⟨_, rfl⟩
                have HGG := Aside0.mk hgg
                clear hcz hcd hgg
                generalize wf.setCells b15 0 [.string raw, .slice A8 QL.length c8] = wz at HTZ HRZ HCWZ HCQZ hq0 hq1 HZ15 ⊢
                go_wp2_with fail
                refine start_ (n := 8) (S := fun w' => w'.cell? ⟨b15, 0, none⟩ = some (.string raw) ∧ w'.cell? ⟨b15, 1, none⟩ = some (.slice A8 QL.length c8)) (ds := []) #[false, false, false, false, false, false, false, false] (by kernel_rfl) rfl rfl ⟨hq0, hq1⟩ (fun hHeld => ?_)
                have hbd : Below wz.heap.size wz wz.drew := Drawn0.below ⟨1, rfl⟩; have HT1 := Aside0.mk (HTZ.out.below hbd); have HR1 := Aside0.mk (HRZ.out.below hbd); have HCW1 := Aside0.mk (HCWZ.out.below hbd); have HCQ1 := Aside0.mk (Kd.C_below HCQZ.out hbd); have HQ0 := Aside0.mk hHeld.1; have HQ1 := Aside0.mk hHeld.2; clear hbd; generalize wz.drew = we at HT1 HR1 HCW1 HCQ1 HQ0 HQ1 hHeld ⊢
                refine pure_ (i := 0) (N := some 123) (v := ?_) (a' := ?_) #[true, false, false, false, false, false, false, false] rfl rfl (by kernel_rfl) (fun _ _ _ h => h) (Or.inl ⟨by rfl, ?_⟩) ?_ ?_
                rotate_left
                · intro w'
                  go_simp
                  with_reducible rfl
                rotate_left
                · simp only [Act.put, List.setIfInBounds_toArray, List.set_cons_zero, List.set_cons_succ, i64_w, i32_w]
                  rfl
                refine pure_ (i := 3) (N := some 126) (v := ?_) (a' := ?_) #[true, false, false, true, false, false, false, false] rfl rfl (by kernel_rfl) (fun _ _ _ h => h) (Or.inl ⟨by rfl, ?_⟩) ?_ ?_
                rotate_left
                · intro w'
                  go_simp
                  with_reducible rfl
                rotate_left
                · simp only [Act.put, List.setIfInBounds_toArray, List.set_cons_zero, List.set_cons_succ, i64_w, i32_w]
                  rfl
                refine take_ (i := 1) (N := some 124) (v := ?_) (a' := ?_) #[true, true, false, true, false, false, false, false] rfl rfl (by kernel_rfl) (fun _ _ _ h => h) (Or.inl ⟨by rfl, ?_⟩) hHeld ?_ ?_
                rotate_left
                · rintro w' ⟨s0, s1⟩
                  go_simp
                  with_reducible rfl
                rotate_left
                · simp only [Act.put, List.setIfInBounds_toArray, List.set_cons_zero, List.set_cons_succ, i64_w, i32_w]
                  rfl
                refine take_ (i := 4) (N := some 127) (v := ?_) (a' := ?_) #[true, true, false, true, true, false, false, false] rfl rfl (by kernel_rfl) (fun _ _ _ h => h) (Or.inl ⟨by rfl, ?_⟩) hHeld ?_ ?_
                rotate_left
                · rintro w' ⟨s0, s1⟩
                  go_simp
                  with_reducible rfl
                rotate_left
                · simp only [Act.put, List.setIfInBounds_toArray, List.set_cons_zero, List.set_cons_succ, i64_w, i32_w]
                  rfl
                refine one_ (i := 2) (N := some 125) #[true, true, true, true, true, false, false, false] rfl rfl (by kernel_rfl) (by decide) (fun K hK => ?_)
                refine goes_ Try.func32 (by kernel_rfl) rfl #[.pointer (some ⟨g, 0, none⟩), .agg #[.string raw, .slice A8 QL.length c8]] (by rfl) rfl rfl (by simp only [List.map_toArray, List.map_cons, List.map_nil]; rfl) ?_
                with_reducible refine (tree_Glob g m Lf raw A8 c8 QL _ HLF.out.2 HOKF.out HT1.out HCQ1.out HCQL.out HQS.out).mono ?_
                rintro e w5 ⟨v5, rfl, hR5, hb5⟩
                refine ⟨_, rfl, ?_⟩
                rw [HGG.out] at hR5
                obtain ⟨A5, c5, rfl, hlc5, hC5⟩ := Kd.R_reads hR5
                have HBE5 := Aside0.mk hb5
                have HR5 := Aside0.mk (HR1.out.below hb5)
                have HT5 := Aside0.mk (HT1.out.below hb5)
                have HCW5 := Aside0.mk (HCW1.out.below hb5)
                have HCQ5 := Aside0.mk (Kd.C_below HCQ1.out hb5)
                have HC5 := Aside0.mk hC5
                have HLC5 := Aside0.mk hlc5
                clear hR5 hb5 hlc5 hC5
                refine hK.out _ _ ⟨pw_cell_below HBE5.out HQ0.out, pw_cell_below HBE5.out HQ1.out⟩ (fun hHeld => ?_)
                clear hK K
                refine norm_ (a' := ?_) ?_ ?_
                rotate_left
                · show Act.put _ (some 125) _ = _
                  simp only [Act.put, List.setIfInBounds_toArray, List.set_cons_zero, List.set_cons_succ, i64_w, i32_w]
                  rfl
                refine one_ (i := 5) (N := some 128) #[true, true, true, true, true, true, false, false] rfl rfl (by kernel_rfl) (by decide) (fun K hK => ?_)
                refine goes_ Try.func43 (by kernel_rfl) rfl #[.pointer (some ⟨g2, 0, none⟩), .agg #[.string raw, .slice A8 QL.length c8]] (by rfl) rfl rfl (by simp only [List.map_toArray, List.map_cons, List.map_nil]; rfl) ?_
                with_reducible refine (ref_Glob g2 b1 (Lf.map Prod.fst) raw A8 c8 QL _ HLFM.out HOKM.out HR5.out HCQ5.out HCQL.out HQS.out).mono ?_
                rintro e w6 ⟨v6, rfl, hR6, hb6⟩
                refine ⟨_, rfl, ?_⟩
                change Kd.R Kd.string _ _ _ _ _ (globF Lf raw QL) at hR6
                rw [HGG.out] at hR6
                obtain ⟨A6, c6, rfl, hlc6, hC6⟩ := Kd.R_reads hR6
                have HBE6 := Aside0.mk (HBE5.out.trans (hb6.mono HBE5.out.size))
                have HR6 := Aside0.mk (HR5.out.below hb6)
                have HT6 := Aside0.mk (HT5.out.below hb6)
                have HCW6 := Aside0.mk (HCW5.out.below hb6)
                have HC56 := Aside0.mk (Kd.C_below HC5.out hb6)
                have HC6 := Aside0.mk hC6
                have HLC6 := Aside0.mk hlc6
                clear hR6 hb6 hlc6 hC6
                refine hK.out _ _ ⟨pw_cell_below HBE6.out HQ0.out, pw_cell_below HBE6.out HQ1.out⟩ (fun hHeld => ?_)
                clear hK K
                refine norm_ (a' := ?_) ?_ ?_
                rotate_left
                · show Act.put _ (some 128) _ = _
                  simp only [Act.put, List.setIfInBounds_toArray, List.set_cons_zero, List.set_cons_succ, i64_w, i32_w]
                  rfl
                refine one_ (i := 6) (N := some 129) #[true, true, true, true, true, true, true, false] rfl rfl (by kernel_rfl) (by decide) (fun K hK => ?_)
                refine goes_ Try.func41 (by kernel_rfl) rfl #[.slice A5 GG.length c5, .slice A6 GG.length c6] (by rfl) rfl rfl (by simp only [List.map_toArray, List.map_cons, List.map_nil]; rfl) ?_
                with_reducible refine (same_texts A5 A6 c5 c6 _ _ true (decide_eq_true rfl) _ HC56.out HLC5.out HC6.out HLC6.out).mono ?_
                rintro e w7 ⟨rfl, hd7⟩
                refine ⟨_, rfl, ?_⟩
                have HBE7 := Aside0.mk (HBE6.out.trans (hd7.below.mono HBE6.out.size))
                have HR7 := Aside0.mk (HR6.out.below hd7.below)
                have HT7 := Aside0.mk (HT6.out.below hd7.below)
                have HCW7 := Aside0.mk (HCW6.out.drawn hd7)
                clear hd7
                refine hK.out _ _ ⟨pw_cell_below HBE7.out HQ0.out, pw_cell_below HBE7.out HQ1.out⟩ (fun hHeld => ?_)
                clear hK K
                refine norm_ (a' := ?_) ?_ ?_
                rotate_left
                · show Act.put _ (some 129) _ = _
                  simp only [Act.put, List.setIfInBounds_toArray, List.set_cons_zero, List.set_cons_succ, i64_w, i32_w]
                  rfl
                refine pure_ (i := 7) (N := some 130) (v := ?_) (a' := ?_) #[true, true, true, true, true, true, true, true] rfl rfl (by kernel_rfl) (fun _ _ _ h => h) (Or.inl ⟨by rfl, ?_⟩) ?_ ?_
                rotate_left
                · intro w'
                  go_simp
                  with_reducible rfl
                rotate_left
                · simp only [Act.put, List.setIfInBounds_toArray, List.set_cons_zero, List.set_cons_succ, i64_w, i32_w]
                  rfl
                refine done_ (by kernel_rfl) ?_
                go_wp2_with fail
                go_roundw
                case rel => exact ⟨2, by omega, by go_num, HT7, HR7, HCW7⟩
                case measure => simp [intOf]
              · obtain ⟨Zf, hzf⟩ : ∃ Z, Z = Lf.map Prod.fst := ⟨_, rfl⟩
                obtain ⟨AL, cL, _, hcL, _, hCL, hlcL⟩ := HR.out.opened
                rw [← hzf] at hcL hCL hlcL
                have HZF := Aside0.mk hzf
                have HCL := Aside0.mk hCL
                have HLCL := Aside0.mk hlcL
                clear hzf hCL hlcL
                go_wp2_with fail
                refine start_ (n := 11) (S := fun w' => w'.cell? ⟨g2, 0, none⟩ = some (.slice AL Zf.length cL)) (ds := []) #[false, false, false, false, false, false, false, false, false, false, false] (by kernel_rfl) rfl rfl (hcL) (fun hHeld => ?_)
                have hbd : Below wr.heap.size wr wr.drew := Drawn0.below ⟨1, rfl⟩; have HT1 := Aside0.mk (HT.out.below hbd); have HCW1 := Aside0.mk (HCWR.out.below hbd); have HCL1 := Aside0.mk (Kd.C_below HCL.out hbd); have HcL := Aside0.mk hHeld; clear hbd; generalize wr.drew = we at HT1 HCW1 HCL1 HcL hHeld ⊢
                refine pure_ (i := 0) (N := some 131) (v := ?_) (a' := ?_) #[true, false, false, false, false, false, false, false, false, false, false] rfl rfl (by kernel_rfl) (fun _ _ _ h => h) (Or.inl ⟨by rfl, ?_⟩) ?_ ?_
                rotate_left
                · intro w'
                  go_simp
                  with_reducible rfl
                rotate_left
                · simp only [Act.put, List.setIfInBounds_toArray, List.set_cons_zero, List.set_cons_succ, i64_w, i32_w]
                  rfl
                refine pure_ (i := 2) (N := some 133) (v := ?_) (a' := ?_) #[true, false, true, false, false, false, false, false, false, false, false] rfl rfl (by kernel_rfl) (fun _ _ _ h => h) (Or.inl ⟨by rfl, ?_⟩) ?_ ?_
                rotate_left
                · intro w'
                  go_simp
                  with_reducible rfl
                rotate_left
                · simp only [Act.put, List.setIfInBounds_toArray, List.set_cons_zero, List.set_cons_succ, i64_w, i32_w]
                  rfl
                refine pure_ (i := 3) (N := some 134) (v := ?_) (a' := ?_) #[true, false, true, true, false, false, false, false, false, false, false] rfl rfl (by kernel_rfl) (fun _ _ _ h => h) (Or.inl ⟨by rfl, ?_⟩) ?_ ?_
                rotate_left
                · intro w'
                  go_simp
                  with_reducible rfl
                rotate_left
                · simp only [Act.put, List.setIfInBounds_toArray, List.set_cons_zero, List.set_cons_succ, i64_w, i32_w]
                  rfl
                refine pure_ (i := 4) (N := some 135) (v := ?_) (a' := ?_) #[true, false, true, true, true, false, false, false, false, false, false] rfl rfl (by kernel_rfl) (fun _ _ _ h => h) (Or.inl ⟨by rfl, ?_⟩) ?_ ?_
                rotate_left
                · intro w'
                  go_simp
                  with_reducible rfl
                rotate_left
                · simp only [Act.put, List.setIfInBounds_toArray, List.set_cons_zero, List.set_cons_succ, i64_w, i32_w]
                  rfl
                refine take_ (i := 5) (N := some 136) (v := ?_) (a' := ?_) #[true, false, true, true, true, true, false, false, false, false, false] rfl rfl (by kernel_rfl) (fun _ _ _ h => h) (Or.inl ⟨by rfl, ?_⟩) hHeld ?_ ?_
                rotate_left
                · intro w' s0
                  go_simp
                  with_reducible rfl
                rotate_left
                · simp only [Act.put, List.setIfInBounds_toArray, List.set_cons_zero, List.set_cons_succ, i64_w, i32_w]
                  rfl
                refine one_ (i := 1) (N := some 132) #[true, true, true, true, true, true, false, false, false, false, false] rfl rfl (by kernel_rfl) (by decide) (fun K hK => ?_)
                refine goes_ Try.func33 (by kernel_rfl) rfl #[.pointer (some ⟨g, 0, none⟩)] (by rfl) rfl rfl (by simp only [List.map_toArray, List.map_cons, List.map_nil]; rfl) ?_
                with_reducible refine (tree_Names g m Lf _ HLF.out.2 HT1.out).mono ?_
                rintro e w5 ⟨v5, rfl, hR5, hb5⟩
                refine ⟨_, rfl, ?_⟩
                rw [← HZF.out] at hR5
                obtain ⟨A5, c5, rfl, hlc5, hC5⟩ := Kd.R_reads hR5
                have HBE5 := Aside0.mk hb5
                have HCW5 := Aside0.mk (HCW1.out.below hb5)
                have HCL5 := Aside0.mk (Kd.C_below HCL1.out hb5)
                have HC5 := Aside0.mk hC5
                have HLC5 := Aside0.mk hlc5
                clear hR5 hb5 hlc5 hC5
                refine hK.out _ _ (pw_cell_below HBE5.out HcL.out) (fun hHeld => ?_)
                clear hK K
                refine norm_ (a' := ?_) ?_ ?_
                rotate_left
                · show Act.put _ (some 132) _ = _
                  simp only [Act.put, List.setIfInBounds_toArray, List.set_cons_zero, List.set_cons_succ, i64_w, i32_w]
                  rfl
                refine one_ (i := 6) (N := some 137) #[true, true, true, true, true, true, true, false, false, false, false] rfl rfl (by kernel_rfl) (by decide) (fun K hK => ?_)
                refine goes_ Try.func41 (by kernel_rfl) rfl #[.slice A5 Zf.length c5, .slice AL Zf.length cL] (by rfl) rfl rfl (by simp only [List.map_toArray, List.map_cons, List.map_nil]; rfl) ?_
                with_reducible refine (same_texts A5 AL c5 cL _ _ true (decide_eq_true rfl) _ HC5.out HLC5.out HCL5.out HLCL.out).mono ?_
                rintro e w6 ⟨rfl, hd6⟩
                refine ⟨_, rfl, ?_⟩
                have HBE6 := Aside0.mk (HBE5.out.trans (hd6.below.mono HBE5.out.size))
                have HCW6 := Aside0.mk (HCW5.out.drawn hd6)
                clear hd6
                refine hK.out _ _ (pw_cell_below HBE6.out HcL.out) (fun hHeld => ?_)
                clear hK K
                refine norm_ (a' := ?_) ?_ ?_
                rotate_left
                · show Act.put _ (some 137) _ = _
                  simp only [Act.put, List.setIfInBounds_toArray, List.set_cons_zero, List.set_cons_succ, i64_w, i32_w]
                  rfl
                refine pure_ (i := 7) (N := some 138) (v := ?_) (a' := ?_) #[true, true, true, true, true, true, true, true, false, false, false] rfl rfl (by kernel_rfl) (fun _ _ _ h => h) (Or.inl ⟨by rfl, ?_⟩) ?_ ?_
                rotate_left
                · intro w'
                  go_simp
                  with_reducible rfl
                rotate_left
                · simp only [Act.put, List.setIfInBounds_toArray, List.set_cons_zero, List.set_cons_succ, i64_w, i32_w]
                  rfl
                refine one_ (i := 8) (N := some 139) #[true, true, true, true, true, true, true, true, true, false, false] rfl rfl (by kernel_rfl) (by decide) (fun K hK => ?_)
                refine goes_ Try.func29 (by kernel_rfl) rfl #[] (by rfl) rfl rfl (by simp only [List.map_toArray, List.map_cons, List.map_nil]) ?_
                with_reducible refine (awake12 _).mono ?_
                rintro e w7 ⟨rfl, hb7⟩
                refine ⟨_, rfl, ?_⟩
                have HBE7 := Aside0.mk (HBE6.out.trans (hb7.mono HBE6.out.size))
                have HCW7 := Aside0.mk (HCW6.out.below hb7)
                clear hb7
                refine hK.out _ _ (pw_cell_below HBE7.out HcL.out) (fun hHeld => ?_)
                clear hK K
                refine norm_ (a' := ?_) ?_ ?_
                rotate_left
                · show Act.put _ (some 139) _ = _
                  simp only [Act.put, List.setIfInBounds_toArray, List.set_cons_zero, List.set_cons_succ, i64_w, i32_w]
                  rfl
                refine pure_ (i := 9) (N := some 140) (v := ?_) (a' := ?_) #[true, true, true, true, true, true, true, true, true, true, false] rfl rfl (by kernel_rfl) (fun _ _ _ h => h) (Or.inl ⟨by rfl, ?_⟩) ?_ ?_
                rotate_left
                · intro w'
                  go_simp
                  with_reducible rfl
                rotate_left
                · simp only [Act.put, List.setIfInBounds_toArray, List.set_cons_zero, List.set_cons_succ, i64_w, i32_w]
                  rfl
                refine pure_ (i := 10) (N := some 8) (v := ?_) (a' := ?_) #[true, true, true, true, true, true, true, true, true, true, true] rfl rfl (by kernel_rfl) (fun _ _ _ h => h) (Or.inl ⟨by rfl, ?_⟩) ?_ ?_
                rotate_left
                · intro w'
                  go_simp
                  with_reducible rfl
                rotate_left
                · simp only [Act.put, List.setIfInBounds_toArray, List.set_cons_zero, List.set_cons_succ, i64_w, i32_w]
                  rfl
                refine done_ (by kernel_rfl) ?_
                go_wp2_with fail
                go_ret
                exact ⟨rfl, HB0.out.trans (HCW7.out.toBelow.mono HB0.out.size)⟩
end Go.Proofs.Ytfdjbjinomfgiaa
