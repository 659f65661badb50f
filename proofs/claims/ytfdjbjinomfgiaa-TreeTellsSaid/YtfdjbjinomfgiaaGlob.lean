/- Files: Glob. -/
import Derived.Test.YtfdjbjinomfgiaaTreeC
import Derived.Test.YtfdjbjinomfgiaaDel
import Derived.Test.YtfdjbjinomfgiaaMatchD
namespace Go.Proofs.Ytfdjbjinomfgiaa
open Go.RowKit Go.Proofs.YtfdjbjinomfgiaaW.PrintWords Go.Proofs.YtfdjbjinomfgiaaW.PrintLast Go.Proofs.YtfdjbjinomfgiaaW.PrintMore

/-- A pattern does not tell a file. -/
def dotB (s : ByteArray) : Bool := decide (bt s 0 = 46)
def noGlob (p : ByteArray) (l : List Bool) (s : ByteArray) : Bool := dotB s && !dotB p || !matchB p l s
theorem pre_dot (p : ByteArray) : Lib.hasPrefix p.data.toList [46] = dotB p := by
  unfold dotB Lib.hasPrefix
  obtain ⟨⟨l⟩⟩ := p
  cases l with
  | nil => rfl
  | cons a r =>
    have h : bt ⟨⟨a :: r⟩⟩ 0 = (a.toNat : Int) := by
      have := bt_at ⟨⟨a :: r⟩⟩ 0 (by show 0 < (a :: r).length; simp)
      rw [← this]; rfl
    rw [h]
    simp only [List.isPrefixOf, Bool.and_true]
    rw [Bool.eq_iff_iff, beq_iff_eq, decide_eq_true_iff]
    constructor
    · rintro rfl; rfl
    · intro h2
      have : a.toNat = (46 : UInt8).toNat := by have : (46 : UInt8).toNat = 46 := rfl; omega
      exact (UInt8.toNat_inj.1 this).symm
theorem glob_call : CallsFn 88 := enters_of Try.func88 (by kernel_rfl) rfl

theorem has_dot (p : ByteArray) (b : Bool) (hb : dotB p = b) (w : World) : Calls Try.prog 89 #[.string p, .string ⟨#[46]⟩] w fun e w' => e = .returned (.bool b) ∧ w' = w := by
  subst hb
  refine (Try.strings_HasPrefix p ⟨#[46]⟩ w).mono ?_
  rintro e w' ⟨rfl, rfl⟩
  exact ⟨ret_bool (pre_dot p), rfl⟩

set_option maxHeartbeats 1000000 in
set_option maxRecDepth 100000 in
theorem glob_fn (p : ByteArray) (A : Option Addr) (c : Nat) (l : List Bool) (s : ByteArray) (bx : Nat) (w : World) (hbx : w.heap[bx]? = some (.cells #[.string p, .slice A l.length c] 60 (0, 0))) (hC : Kd.C Kd.bool w A l.length l) (hlc : l.length ≤ c)
    (hp : p.size ≤ 1000000) (hs : s.size ≤ 1000000) (hs1 : 0 < s.size) :
    Calls Try.prog 88 #[.string s, .pointer (some ⟨bx, 0, none⟩)] w fun e w' => e = .returned (.bool (noGlob p l s)) ∧ Below w.heap.size w w' := by
  have hc0 : w.cell? ⟨bx, 0, none⟩ = some (.string p) := by simp [World.cell?, hbx]
  have hc1 : w.cell? ⟨bx, 1, none⟩ = some (.slice A l.length c) := by simp [World.cell?, hbx]
  have hx : ((s[0]'hs1).toNat : Int) = bt s 0 := bt_at s 0 hs1
  obtain ⟨q, hq⟩ := own_match p l s hp hs
  have HC := Aside0.mk hC
  have HLC := Aside0.mk hlc
  have HQ := Aside0.mk hq
  have HN := Aside0.mk (show noGlob p l s = (dotB s && !dotB p || !matchB p l s) from rfl)
  have hs1' : (0 : Int) < (s.size : Int) := by omega
  generalize noGlob p l s = R at HN
  generalize matchB p l s = M at HQ HN
  have hds : dotB s = decide (((s[0]'hs1).toNat : Int) = 46) := by unfold dotB; rw [hx]
  have HDS := Aside0.mk hds
  generalize dotB s = d at HN HDS
  obtain ⟨dp, hdp⟩ : ∃ b, dotB p = b := ⟨_, rfl⟩
  rw [hdp] at HN
  have HDP := Aside0.mk hdp
  clear hbx hC hlc hq hp hs hx hds hdp
  by_cases hd : ((s[0]'hs1).toNat : Int) = 46
  · have hd1 : (((s[0]'hs1).toNat : Int) == 46) = true := beq_iff_eq.2 hd
    have HD : Aside0 (d = true) := ⟨by rw [HDS.out]; exact decide_eq_true hd⟩
    clear hd HDS
    cases dp with
    | false =>
      go_enter Try.func88, Try.ntmps88
      go_wp2_with (go_at_call 89; refine (has_dot p false HDP.out _).mono ?_; rintro e w' ⟨rfl, rfl⟩)
      go_ret
      exact ⟨ret_bool (by rw [HN.out, HD.out]; rfl), Below.refl _ _⟩
    | true =>
      go_enter Try.func88, Try.ntmps88
      go_wp2_with (first
        | (go_at_call 89; refine (has_dot p true HDP.out _).mono ?_; rintro e w' ⟨rfl, rfl⟩)
        | (go_at_call 90; refine (GrTree.pat_Match.calls q p A c l s M _ HC.out HLC.out HQ.out).mono ?_; rintro e w1 ⟨rfl, hb⟩; have HB := Aside0.mk hb; clear hb))
      go_ret
      exact ⟨ret_bool (by rw [HN.out, HD.out]; simp), HB.out⟩
  · have hd1 : (((s[0]'hs1).toNat : Int) == 46) = false := beq_eq_false_iff_ne.2 hd
    have HD : Aside0 (d = false) := ⟨by rw [HDS.out]; exact decide_eq_false hd⟩
    clear hd HDS
    go_enter Try.func88, Try.ntmps88
    go_wp2_with (first
      | (go_at_call 90; refine (GrTree.pat_Match.calls q p A c l s M _ HC.out HLC.out HQ.out).mono ?_; rintro e w1 ⟨rfl, hb⟩; have HB := Aside0.mk hb; clear hb))
    go_ret
    exact ⟨ret_bool (by rw [HN.out, HD.out]; simp), HB.out⟩

/-- The names of files are short, and none is empty. -/
def NamesOk (L : Names) : Prop := ∀ q ∈ L, 1 ≤ q.1.size ∧ q.1.size ≤ 100
theorem tput_ok {L : Names} (h : NamesOk L) {s : ByteArray} (h1 : 1 ≤ s.size) (h2 : s.size ≤ 100) : NamesOk (tput L s ()) := by
  intro q hq
  rcases (tins_mem _ _ q).1 hq with rfl | hq
  · exact ⟨h1, h2⟩
  · exact h q (List.mem_filter.1 hq).1
theorem makeF_ok {L : Names} (h : NamesOk L) (s : ByteArray) : NamesOk (makeF L s).2 := by
  unfold makeF
  split
  · exact h
  · rename_i hc
    have hf : fileOkB s = true := by
      cases hf : fileOkB s with
      | true => rfl
      | false => exact absurd (by simp [hf]) hc
    unfold fileOkB at hf
    simp only [Bool.and_eq_true, decide_eq_true_eq] at hf
    exact tput_ok h hf.1.1.1 hf.1.1.2
theorem makeAll_ok : ∀ (names : List ByteArray) (L : Names), NamesOk L → NamesOk (makeAll names L)
  | [], _, h => h
  | s :: r, _, h => makeAll_ok r _ (makeF_ok h s)
theorem alloc_size (w : World) (o : Obj) : (w.alloc o).heap.size = w.heap.size + 1 := by simp
/-- What Glob tells. -/
def globF (L : Names) (p : ByteArray) (l : List Bool) : List ByteArray := (L.map Prod.fst).filter fun s => !noGlob p l s

set_option maxHeartbeats 1000000 in
set_option maxRecDepth 100000 in
theorem tree_Glob (g m : Nat) (L : Names) (p : ByteArray) (A : Option Addr) (c : Nat) (l : List Bool) (w : World) (hL : L.length ≤ 200) (hok : NamesOk L) (ht : TreeIs w g m L) (hC : Kd.C Kd.bool w A l.length l) (hlc : l.length ≤ c) (hp : p.size ≤ 1000000) :
    Calls Try.prog 32 #[.pointer (some ⟨g, 0, none⟩), .agg #[.string p, .slice A l.length c]] w fun e w' => ∃ v, e = .returned v ∧ Kd.R Kd.string 9 w' w.heap.size (fun _ => True) v (globF L p l) ∧ Below w.heap.size w w' := by
  have hB0 : Below w.heap.size w (w.alloc (.cells #[.string p, .slice A l.length c] 60)) := (Below.refl _ _).alloc (Nat.le_refl _) _
  have HT := Aside0.mk (ht.below hB0)
  have HC := Aside0.mk (Kd.C_below hC hB0)
  have HBX := Aside0.mk (heap_alloc_new w (.cells #[.string p, .slice A l.length c] 60))
  have HB0 := Aside0.mk hB0
  have HL := Aside0.mk hL
  have HLC := Aside0.mk hlc
  have HOK := Aside0.mk hok
  have HP := Aside0.mk hp
  clear ht hC hB0 hL hlc hok hp
  go_enter Try.func32, Try.ntmps32
  go_wp2_with fail
  refine (tree_Names g m L _ HL.out HT.out).mono ?_
  rintro e w1 ⟨v, rfl, hR, hb1⟩
  have HR := Aside0.mk hR
  have HB1 := Aside0.mk hb1
  clear hR hb1
  go_wp2_with fail
  refine (delete_func 88 #[.pointer (some ⟨w.heap.size, 0, none⟩)] (noGlob p l) v (L.map Prod.fst) _ w1 glob_call HR.out ?_).mono ?_
  · intro W hW s hs
    obtain ⟨q, hq, rfl⟩ := List.mem_map.1 hs
    have hsz := HOK.out q hq
    have hne : ¬ (v.ownBlock = some w.heap.size) := fun he => by
      have := (Kd.R_bound HR.out).1 _ he
      have h3 := this.2.1
      rw [alloc_size] at h3
      omega
    have hbx1 := hW.blk (Chg.blk (Chg.of_below HB1.out none_) HBX.out (fun h => h)) hne
    have hC1 : Kd.C Kd.bool W A l.length l := by
      have h2 := Kd.C_below HC.out HB1.out
      have hF := Kd.C_F Kd.heap_bool HC.out
      have hF1 := Foot.step hF (fun k _ hlt => HB1.out.block k hlt)
      have hF2 := Foot.step hF1 (W1 := W) (fun k hk hlt => hW.block k hlt (fun he => by
        have h3 := ((Kd.R_bound HR.out).1 _ he).2.1
        omega))
      exact hF2.now
    exact glob_fn p A c l q.1 w.heap.size W hbx1 hC1 HLC.out HP.out (by omega) (by omega)
  · rintro e w2 ⟨v2, rfl, hR2, hc2⟩
    have HR2 := Aside0.mk hR2
    have HC2 := Aside0.mk hc2
    clear hR2 hc2
    go_wp2
    go_ret
    refine ⟨v2, rfl, Kd.R_lower HR2.out (by simp), ?_⟩
    have hB01 : Chg none_ w w1 := (Chg.of_below HB0.out none_).below HB1.out
    exact (hB01.then_ HC2.out (fun k hk => by
      have h3 := ((Kd.R_bound HR.out).1 _ hk).2.1
      rw [alloc_size] at h3
      exact .inr (by omega))).toBelow
end Go.Proofs.Ytfdjbjinomfgiaa
