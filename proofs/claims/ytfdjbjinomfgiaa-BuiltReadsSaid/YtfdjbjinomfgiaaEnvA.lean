/- Variables: what an environment is in memory; fits, Get, Set, Unset, Flag, SetFlag, IFS. -/
import Derived.Test.YtfdjbjinomfgiaaEnvP
import Derived.Test.YtfdjbjinomfgiaaShelf
import Derived.Test.YtfdjbjinomfgiaaKeys
import Derived.Maps.StringElems
namespace Go.Proofs.Ytfdjbjinomfgiaa
open Go.RowKit Go.Maps Go.Proofs.YtfdjbjinomfgiaaW.PrintWords Go.Proofs.YtfdjbjinomfgiaaW.PrintLast Go.Proofs.YtfdjbjinomfgiaaW.PrintMore
set_option linter.unusedSimpArgs false
set_option linter.unusedVariables false

abbrev VTab := List (ByteArray × ByteArray)
def encS {H : Type} : ByteArray → DataW H := fun v => .lit (.string v.data.toList)
def fent {H : Type} (c : Int) : Option Bool → List (Lit × DataW H)
  | none => []
  | some b => [(.int .u8 c, .lit (.int .i64 (if b then 1 else 0)))]
abbrev Flags := Option Bool × Option Bool × Option Bool
def flagsD {H : Type} (f : Flags) : DataW H := .map (fent 101 f.1 ++ fent 102 f.2.1 ++ fent 117 f.2.2)
def onB (o : Option Bool) : Bool := o == some true
def flagAt (f : Flags) (c : Int) : Bool := if c = 101 then onB f.1 else if c = 102 then onB f.2.1 else if c = 117 then onB f.2.2 else false
def flagPut (f : Flags) (c : Int) (b : Bool) : Flags := if c = 101 then (some b, f.2.1, f.2.2) else if c = 102 then (f.1, some b, f.2.2) else (f.1, f.2.1, some b)

theorem e_law9 : Maps.Keyed Try.prog 9 := Maps.string_keyed Try.underlying9
theorem e_law5 : Maps.Keyed Try.prog 5 := Maps.int_keyed Try.underlying5
theorem e_zero_int (w : World) : (zeroValue 3).run Try.prog w = .ok (.int .i64 0) w := by kernel_rfl
theorem e_zero_str (w : World) : (zeroValue 9).run Try.prog w = .ok (.string ⟨#[]⟩) w := by kernel_rfl
theorem same_int8 (a b : Int) : (Lit.int .u8 a).sameKey (.int .u8 b) = (a == b) := by simp [Lit.sameKey]; rfl
theorem e_owns_exact {H : Type} {P : Program} {k : TypeId} {R : Value → Option (DataW H × List MemPlace)} {w : World} {b n : Nat} {D : DataW H} (h : w.ownsMap P k R b n D) : w.ownsMap P k R b (Maps.size D) D := by
  obtain ⟨es, clock, hb, F, _, rfl⟩ := h
  exact ⟨es, clock, hb, F, by simp [Maps.size, length_sorted], rfl⟩
theorem flags_at {H : Type} (f : Flags) (c : Int) : (flagsD (H := H) f).atKey (.int .u8 c) (.lit (.int .i64 0)) = .lit (.int .i64 (if flagAt f c then 1 else 0)) := by
  obtain ⟨a, b, d⟩ := f
  unfold flagsD flagAt
  by_cases h1 : c = 101
  · subst h1
    cases a <;> cases b <;> cases d <;> (first | rfl | (rename_i x; cases x <;> rfl) | (rename_i x y; cases x <;> cases y <;> rfl) | (rename_i x y z; cases x <;> cases y <;> cases z <;> rfl))
  · by_cases h2 : c = 102
    · subst h2
      cases a <;> cases b <;> cases d <;> (first | rfl | (rename_i x; cases x <;> rfl) | (rename_i x y; cases x <;> cases y <;> rfl) | (rename_i x y z; cases x <;> cases y <;> cases z <;> rfl))
    · by_cases h3 : c = 117
      · subst h3
        cases a <;> cases b <;> cases d <;> (first | rfl | (rename_i x; cases x <;> rfl) | (rename_i x y; cases x <;> cases y <;> rfl) | (rename_i x y z; cases x <;> cases y <;> cases z <;> rfl))
      · have e1 : ((101 : Int) == c) = false := beq_eq_false_iff_ne.2 (Ne.symm h1)
        have e2 : ((102 : Int) == c) = false := beq_eq_false_iff_ne.2 (Ne.symm h2)
        have e3 : ((117 : Int) == c) = false := beq_eq_false_iff_ne.2 (Ne.symm h3)
        rw [if_neg h1, if_neg h2, if_neg h3]
        cases a <;> cases b <;> cases d <;> simp [DataW.atKey, fent, List.find?, same_int8, e1, e2, e3]
theorem flags_put {H : Type} (f : Flags) (c : Int) (b : Bool) (hc : c = 101 ∨ c = 102 ∨ c = 117) : (flagsD (H := H) f).put (.int .u8 c) (.lit (.int .i64 (if b then 1 else 0))) = flagsD (flagPut f c b) := by
  obtain ⟨x, y, z⟩ := f
  rcases hc with rfl | rfl | rfl <;> cases x <;> cases y <;> cases z <;> rfl
theorem flags_size {H : Type} (f : Flags) : Maps.size (flagsD (H := H) f) ≤ 3 := by
  obtain ⟨x, y, z⟩ := f
  cases x <;> cases y <;> cases z <;> simp [flagsD, Maps.size, fent]
theorem flagAt_put (f : Flags) (c d : Int) (b : Bool) (hc : c = 101 ∨ c = 102 ∨ c = 117) : flagAt (flagPut f c b) d = if d = c then b else flagAt f d := by
  obtain ⟨x, y, z⟩ := f
  rcases hc with rfl | rfl | rfl <;> unfold flagAt flagPut onB <;> (repeat' split) <;> first | (cases b <;> rfl) | omega | rfl | simp_all

/-- What an environment is. -/
structure EnvS where
  vars : VTab
  args : List ByteArray
  flag : Flags
structure EnvOk (S : EnvS) : Prop where
  rising : Rising S.vars
  len : S.vars.length ≤ 100
  alen : S.args.length ≤ 100
  names : ∀ p ∈ S.vars, nameB p.1 = true ∧ p.1.size ≤ 1000000 ∧ valB p.2 = true
  vals : ∀ s ∈ S.args, valB s = true
structure EnvIs (w : World) (g m1 m2 : Nat) (S : EnvS) : Prop where
  row : ∃ v, w.heap[g]? = some (.cells #[.map (some m1), v, .map (some m2)] 106 (0, 0)) ∧ Kd.R Kd.string 9 w 0 (fun _ => True) v S.args
  vars : w.ownsMap Try.prog 9 (plainElem (H := Unit) Try.prog 9) m1 S.vars.length (tab encS S.vars)
  flags : w.ownsMap Try.prog 5 (plainElem (H := Unit) Try.prog 3) m2 (Maps.size (flagsD (H := Unit) S.flag)) (flagsD S.flag)
  apart : m1 ≠ m2
  ok : EnvOk S

def NotRow (w : World) (e k : Nat) : Prop := ∀ cs, w.heap[k]? ≠ some (.cells cs e (0, 0))
theorem map_notRow {H : Type} {P : Program} {k : TypeId} {R : Value → Option (DataW H × List MemPlace)} {w : World} {b n : Nat} {D : DataW H} (h : w.ownsMap P k R b n D) (e : Nat) : NotRow w e b := by
  obtain ⟨es, clock, hb, _⟩ := h
  intro cs hx
  rw [hb] at hx
  cases hx
theorem cells_notRow {w : World} {g t e : Nat} {cs : Array Value} (h : w.heap[g]? = some (.cells cs t (0, 0))) (hne : t ≠ e) : NotRow w e g := by
  intro cs' hx
  rw [h] at hx
  injection hx with hx
  injection hx with _ hx
  exact hne hx
/-- A row of cells of one type alone stays while no such block changes. -/
theorem R_chg {α : Type} {d : Kd α} {e : Nat} {w W : World} {base : Nat} {v : Value} {xs : List α} {S : Nat → Prop} (h : d.R e w base (fun _ => True) v xs) (hc : Chg S w W) (hS : ∀ k, S k → ∀ q, q ∈ e :: d.E → NotRow w q k) : d.R e W base (fun _ => True) v xs :=
  Kd.R_mono (Kd.R_step (Kd.R_bound h) (fun k hk hlt => hc.block k hlt (fun hs => by
    obtain ⟨_, _, _, q, hq, cs, hx⟩ := hk
    exact hS k hs q hq cs hx))) (fun _ _ => trivial)
theorem EnvIs.chg {T : Nat → Prop} {w W : World} {g m1 m2 : Nat} {S : EnvS} (h : EnvIs w g m1 m2 S) (hc : Chg T w W) (hg : ¬ T g) (h1 : ¬ T m1) (h2 : ¬ T m2) (hT : ∀ k, T k → NotRow w 9 k) : EnvIs W g m1 m2 S := by
  obtain ⟨⟨v, hb, hr⟩, hv, hf, hm, ho⟩ := h
  refine ⟨⟨v, hc.blk hb hg, R_chg hr hc (fun k hk q hq => ?_)⟩, hc.map hv h1, hc.map hf h2, hm, ho⟩
  rcases List.mem_cons.1 hq with rfl | hq
  · exact hT k hk
  · cases hq
theorem EnvIs.below {w W : World} {g m1 m2 : Nat} {S : EnvS} (h : EnvIs w g m1 m2 S) (hb : Below w.heap.size w W) : EnvIs W g m1 m2 S := h.chg (Chg.of_below hb none_) (fun h => h) (fun h => h) (fun h => h) (fun _ h => h.elim)
theorem EnvIs.drawn {w W : World} {g m1 m2 : Nat} {S : EnvS} (h : EnvIs w g m1 m2 S) (hb : Drawn0 w W) : EnvIs W g m1 m2 S := h.below hb.below
theorem EnvIs.opened {w : World} {g m1 m2 : Nat} {S : EnvS} (h : EnvIs w g m1 m2 S) : ∃ A c, w.heap[g]? = some (.cells #[.map (some m1), .slice A S.args.length c, .map (some m2)] 106 (0, 0)) ∧ w.cell? ⟨g, 0, none⟩ = some (.map (some m1)) ∧ w.cell? ⟨g, 1, none⟩ = some (.slice A S.args.length c) ∧ w.cell? ⟨g, 2, none⟩ = some (.map (some m2)) ∧ Kd.R Kd.string 9 w 0 (fun _ => True) (.slice A S.args.length c) S.args ∧ Kd.C Kd.string w A S.args.length S.args ∧ S.args.length ≤ c := by
  obtain ⟨⟨v, hb, hr⟩, _⟩ := h
  obtain ⟨A, c, rfl, hlc, hC⟩ := Kd.R_reads hr
  exact ⟨A, c, hb, by simp [World.cell?, hb], by simp [World.cell?, hb], by simp [World.cell?, hb], hr, hC, hlc⟩
theorem EnvIs.ne {w : World} {g m1 m2 : Nat} {S : EnvS} (h : EnvIs w g m1 m2 S) : g ≠ m1 ∧ g ≠ m2 := by
  obtain ⟨⟨v, hb, _⟩, hv, hf, _⟩ := h
  exact ⟨fun e => by subst e; exact map_notRow hv _ _ hb, fun e => by subst e; exact map_notRow hf _ _ hb⟩

section
variable {ops : Array Oper} {rest : List Oper} {o : Oper} {a : Act} {Q : Exit → Act → World → Prop}
theorem vtab_at (L : VTab) (s : ByteArray) : (tab (H := Unit) encS L).atKey (.string s.data.toList) (.lit (.string [])) = encS ((tget L s).getD ⟨#[]⟩) := by
  rw [tab_atKey]
  cases tget L s <;> rfl
theorem lookup_ok_str (w : World) (hg : o.guard = none) (m x : Operand) (t : TypeId) (hop : o.op = Op.lookup t m x true)
    (ht : Try.prog.underlying t = some (.map 9 9)) (b n : Nat) (L : VTab)
    (hm : a.eval m = .map (some b)) (hown : w.ownsMap Try.prog 9 (plainElem (H := Unit) Try.prog 9) b n (tab encS L)) (s : ByteArray) (hs : s.size ≤ maxLen) (hx : a.eval x = .string s) (v : ByteArray) (c : Bool) (hv : (tget L s).getD ⟨#[]⟩ = v) (hc : (tget L s).isSome = c)
    (hK : wpList Try.prog ops Q rest (a.put o.dst (.tuple #[.string v, .bool c])) w) :
    wpList Try.prog ops Q (o :: rest) a w := by
  subst hv hc
  refine wpList_lookup_own_ok w hg m x t hop 9 9 e_law9 ht (plainElem Try.prog 9) (e_zero_str w) (.lit (.string [])) [] (plainElem_string (s := ⟨#[]⟩) Try.underlying9 (Nat.zero_le _)) b n _ hm hown _ (.string s.data.toList) hx (WideMaps.keyOf_string_mk Try.underlying9 hs) (fun v ps hv => ?_)
  obtain ⟨s', rfl, h1, _⟩ := plainElem_string_inv Try.underlying9 hv
  rw [vtab_at] at h1
  simp only [encS, Prod.mk.injEq, DataW.lit.injEq, Lit.string.injEq, and_true] at h1
  have h2 : (tget L s).getD ⟨#[]⟩ = s' := data_inj h1.1
  rw [tab_has, ← h2] at *
  exact hK
theorem lookup_str (w : World) (hg : o.guard = none) (m x : Operand) (t : TypeId) (hop : o.op = Op.lookup t m x false)
    (ht : Try.prog.underlying t = some (.map 9 9)) (b n : Nat) (L : VTab)
    (hm : a.eval m = .map (some b)) (hown : w.ownsMap Try.prog 9 (plainElem (H := Unit) Try.prog 9) b n (tab encS L)) (s : ByteArray) (hs : s.size ≤ maxLen) (hx : a.eval x = .string s) (v : ByteArray) (hv : (tget L s).getD ⟨#[]⟩ = v)
    (hK : wpList Try.prog ops Q rest (a.put o.dst (.string v)) w) :
    wpList Try.prog ops Q (o :: rest) a w := by
  subst hv
  refine wpList_plain hg fun K' hK' => ?_
  obtain ⟨v, ps, hrun, hv⟩ := hown.lookup e_law9 ht (e_zero_str w) (zd := .lit (.string [])) (zp := []) (plainElem_string (s := ⟨#[]⟩) Try.underlying9 (Nat.zero_le _)) (key := .string s) (kl := .string s.data.toList) (WideMaps.keyOf_string_mk Try.underlying9 hs)
  obtain ⟨s', rfl, h1, _⟩ := plainElem_string_inv Try.underlying9 hv
  rw [vtab_at] at h1
  simp only [encS, Prod.mk.injEq, DataW.lit.injEq, Lit.string.injEq, and_true] at h1
  have h2 : (tget L s).getD ⟨#[]⟩ = s' := data_inj h1.1
  unfold Oper.wp
  simp [execOp, hop, hm, hx, hrun, Result.andThen]
  rw [h2] at hK
  exact hK' _ _ hK
end
theorem e_index_neg (c : UInt8) : ∀ l : List UInt8, decide (Lib.indexByte l c < 0) = !decide (c ∈ l)
  | [] => by simp [Lib.indexByte]
  | b :: l => by
    have ih := e_index_neg c l
    have hge := Lib.indexByte_ge l c
    unfold Lib.indexByte
    by_cases hb : b = c
    · subst hb; simp
    · have hb' : (b == c) = false := by simpa using hb
      rw [hb', if_neg (by simp)]
      have hm : decide (c ∈ b :: l) = decide (c ∈ l) := by simp [Ne.symm hb]
      rw [hm, ← ih]
      by_cases h1 : Lib.indexByte l c = -1
      · rw [h1]; simp
      · rw [if_neg (by simpa using h1)]
        simp; omega
theorem valB_eq (s : ByteArray) : valB s = (decide ((s.size : Int) ≤ 4096) && decide (Lib.indexByte s.data.toList 0 < 0)) := by
  unfold valB ebyteB
  rw [e_index_neg]
  congr 1
  exact decide_eq_decide.2 (by omega)
set_option maxHeartbeats 400000 in
theorem env_fits (s : ByteArray) (b : Bool) (hb : valB s = b) (w : World) : Calls Try.prog 64 #[.string s] w fun e w' => e = .returned (.bool b) ∧ w' = w := by
  subst hb
  have K := Aside0.mk (valB_eq s)
  go_enter Try.func64, Try.ntmps64
  go_wp2_with (go_at_call 83; refine (Try.strings_IndexByte _ _ _).mono ?_; rintro e w' ⟨rfl, rfl⟩)
  all_goals
    go_ret
    refine ⟨e_ret_bool ?_, rfl⟩
    rw [K.out]
    simp [*] <;> omega
end Go.Proofs.Ytfdjbjinomfgiaa
