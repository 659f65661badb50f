-- PRINTED by print.py (a twelfth state) out of the translation. Not trusted: Lean checks it.
import Derived.Test.YtfdjbjinomfgiaaProg
import Derived.Below
import Derived.Deep.Draws
import Derived.Deep.AppendLies
import Derived.Maps.AppendAt
import Derived.OwnWalk
import Derived.Laws.BytesArg
import Derived.Laws.MakeOwn
import Derived.Laws.OwnMore
import Derived.Deep.OwnRows
import Derived.Tactics
import Derived.Lib.ConvBytes
import Derived.Laws.Slices
import Derived.WalkKit
import Derived.KernelRfl
import Derived.RowKit3
import Derived.Deep.LoopGhost
import Derived.Deep.QuietTactic
import Derived.BigQuiet
import Derived.WideLaws
import Derived.Deep.DeepCutAuto
import Derived.Deep.CutBlock
import Derived.Deep.RegionHeld3
import Derived.Laws.Rows
import Derived.Lib.AppendStr
import Derived.ArgAppend
import Derived.Laws.IdiomCopy
import Derived.OrdersHeld
import Derived.Laws.BitsLemmas
import Derived.RowKit
import Derived.Test.YtfdjbjinomfgiaaWWords
import Derived.Test.YtfdjbjinomfgiaaWLast
import Derived.Test.YtfdjbjinomfgiaaWTab
import Derived.Test.YtfdjbjinomfgiaaWFour
import Derived.Test.YtfdjbjinomfgiaaWQPut
import Derived.Test.YtfdjbjinomfgiaaWApart
import Derived.Test.YtfdjbjinomfgiaaWArr
import Derived.Test.YtfdjbjinomfgiaaWZeros
import Derived.Test.YtfdjbjinomfgiaaWFoot
import Derived.Test.YtfdjbjinomfgiaaWKept
import Derived.Test.YtfdjbjinomfgiaaWShare
import Derived.Test.YtfdjbjinomfgiaaWN
import Derived.Test.YtfdjbjinomfgiaaWFootNe
import Derived.Test.YtfdjbjinomfgiaaWAt
import Derived.Test.YtfdjbjinomfgiaaWEqStruct
import Derived.Test.YtfdjbjinomfgiaaWRepsOne
import Derived.Test.YtfdjbjinomfgiaaWInv
import Derived.Test.YtfdjbjinomfgiaaWInvWords
import Derived.Test.YtfdjbjinomfgiaaWGuard
import Derived.Test.YtfdjbjinomfgiaaWNEv
import Derived.Test.YtfdjbjinomfgiaaWMore
namespace Go.Proofs.Ytfdjbjinomfgiaa.GrTree
open Go.RowKit Go.Proofs.YtfdjbjinomfgiaaW.PrintWords Go.Proofs.YtfdjbjinomfgiaaW.PrintLast Go.Proofs.YtfdjbjinomfgiaaW.PrintMore
attribute [local go_sem] max2_int min2_int max_two min_two max_three min_three max_four min_four   -- for this text's walks alone
set_option linter.unusedVariables false
set_option linter.unusedSimpArgs false



def errW : Option Int → Value
  | none => .nilIface
  | some c => .iface 0 (.int .i64 c)
theorem errW_none : errW none = .nilIface := rfl
theorem errW_some (c : Int) : errW (some c) = .iface 0 (.int .i64 c) := rfl

theorem info4 : (Try.prog.info? 4).map (fun i => (i.zero, i.size, i.bytes)) = some (some (.bool false), 1, 1) := by kernel_rfl
theorem info199 : (Try.prog.info? 199).map (fun i => (i.zero, i.size, i.bytes)) = some (some (.agg #[(.int .u8 0), (.int .u8 0), (.string ⟨#[]⟩), (.slice none 0 0), (.bool false), (.bool false)]), 6, 56) := by kernel_rfl
-- the values' own types
def rd_L3 (xs : List (List Bool)) (i : Int) : (List Bool) := xs.getD i.toNat ([] : List Bool)
theorem at_L3 {w : World} {A : Option Addr} {n : Nat} {xs : List (List Bool)} (h : Kd.C (Kd.slice 4 Kd.bool) w A n xs) (i : Int) (h0 : 0 ≤ i) (h1 : i < n) : ∃ ad A0 c0, A = some ad ∧ w.cell? (ad.add i.toNat) = some (.slice A0 (rd_L3 xs i).length c0) ∧ (rd_L3 xs i).length ≤ c0 ∧ Kd.bool.C w A0 (rd_L3 xs i).length (rd_L3 xs i) := by
  obtain ⟨ad, c, e, _, hK, hc0⟩ := Kd.C_get h ([] : List Bool) i h0 h1
  have hc : ∀ j u, c[j]? = some u → w.cell? (ad.add (i.toNat * 1 + j)) = some u := hc0
  obtain ⟨A0, c0, rfl, l0, g0⟩ := hK
  exact ⟨ad, A0, c0, e, by have hq := hc 0 _ rfl; rwa [Nat.mul_one, Nat.add_zero] at hq, l0, g0⟩

/-! #### struct type 199 -/
structure S199 where
  f0 : Int
  f1 : Int
  f2 : ByteArray
  f3 : (List Bool)
  f4 : Bool
  f5 : Bool
def z199 : S199 := ⟨(0 : Int), (0 : Int), (⟨#[]⟩ : ByteArray), ([] : List Bool), false, false⟩
def k199 : Kd S199 := Kd.iso (Kd.pair (Kd.int .u8) (Kd.pair (Kd.int .u8) (Kd.pair Kd.string (Kd.pair (Kd.slice 4 Kd.bool) (Kd.pair Kd.bool Kd.bool))))) (fun x : S199 => (x.f0, x.f1, x.f2, x.f3, x.f4, x.f5))
theorem k199_open {w : World} {x : S199} {cs : List Value} (h : k199.K w x cs) : ∃ A3 c3, cs = [.int .u8 x.f0, .int .u8 x.f1, .string x.f2, .slice A3 x.f3.length c3, .bool x.f4, .bool x.f5] ∧ x.f3.length ≤ c3 ∧ Kd.bool.C w A3 x.f3.length x.f3 := by
  obtain ⟨_, _, rfl, rfl, ⟨_, _, rfl, rfl, ⟨_, _, rfl, rfl, ⟨_, _, rfl, ⟨A3, c3, rfl, l3, g3⟩, ⟨_, _, rfl, rfl, rfl⟩⟩⟩⟩⟩ := h
  exact ⟨A3, c3, rfl, l3, g3⟩
theorem k199_openM {w : World} {base : Nat} {ok : Nat → Prop} {x : S199} {cs : List Value} (h : k199.M w base ok x cs) : ∃ v3, cs = [.int .u8 x.f0, .int .u8 x.f1, .string x.f2, v3, .bool x.f4, .bool x.f5] ∧ Kd.bool.R 4 w base ok v3 x.f3 := by
  obtain ⟨_, _, rfl, rfl, ⟨_, _, rfl, rfl, ⟨_, _, rfl, rfl, ⟨_, _, rfl, ⟨v3, rfl, g3⟩, ⟨_, _, rfl, rfl, rfl⟩⟩⟩⟩⟩ := h
  exact ⟨v3, rfl, g3⟩
theorem k199_mk (w : World) (x : S199) {A3 : Option Addr} {c3 : Nat} (l3 : x.f3.length ≤ c3) (g3 : Kd.bool.C w A3 x.f3.length x.f3) : k199.K w x [.int .u8 x.f0, .int .u8 x.f1, .string x.f2, .slice A3 x.f3.length c3, .bool x.f4, .bool x.f5] := ⟨[.int .u8 x.f0], [.int .u8 x.f1, .string x.f2, .slice A3 x.f3.length c3, .bool x.f4, .bool x.f5], rfl, rfl, ⟨[.int .u8 x.f1], [.string x.f2, .slice A3 x.f3.length c3, .bool x.f4, .bool x.f5], rfl, rfl, ⟨[.string x.f2], [.slice A3 x.f3.length c3, .bool x.f4, .bool x.f5], rfl, rfl, ⟨[.slice A3 x.f3.length c3], [.bool x.f4, .bool x.f5], rfl, ⟨A3, c3, rfl, l3, g3⟩, ⟨[.bool x.f4], [.bool x.f5], rfl, rfl, rfl⟩⟩⟩⟩⟩
theorem k199_mkM (w : World) (base : Nat) (ok : Nat → Prop) (x : S199) {v3 : Value} (g3 : Kd.bool.R 4 w base ok v3 x.f3) : k199.M w base ok x [.int .u8 x.f0, .int .u8 x.f1, .string x.f2, v3, .bool x.f4, .bool x.f5] := ⟨[.int .u8 x.f0], [.int .u8 x.f1, .string x.f2, v3, .bool x.f4, .bool x.f5], rfl, rfl, ⟨[.int .u8 x.f1], [.string x.f2, v3, .bool x.f4, .bool x.f5], rfl, rfl, ⟨[.string x.f2], [v3, .bool x.f4, .bool x.f5], rfl, rfl, ⟨[v3], [.bool x.f4, .bool x.f5], rfl, ⟨v3, rfl, g3⟩, ⟨[.bool x.f4], [.bool x.f5], rfl, rfl, rfl⟩⟩⟩⟩⟩
def rd_T199 (xs : List S199) (i : Int) : S199 := xs.getD i.toNat z199
theorem at_T199 {w : World} {A : Option Addr} {n : Nat} {xs : List S199} (h : Kd.C k199 w A n xs) (i : Int) (h0 : 0 ≤ i) (h1 : i < n) : ∃ ad A3 c3, A = some ad ∧ w.cell? (ad.add (i.toNat * 6)) = some (.int .u8 (rd_T199 xs i).f0) ∧ w.cell? ⟨(ad.add (i.toNat * 6)).block, (ad.add (i.toNat * 6)).off + 1, none⟩ = some (.int .u8 (rd_T199 xs i).f1) ∧ w.cell? ⟨(ad.add (i.toNat * 6)).block, (ad.add (i.toNat * 6)).off + 2, none⟩ = some (.string (rd_T199 xs i).f2) ∧ w.cell? ⟨(ad.add (i.toNat * 6)).block, (ad.add (i.toNat * 6)).off + 3, none⟩ = some (.slice A3 (rd_T199 xs i).f3.length c3) ∧ w.cell? ⟨(ad.add (i.toNat * 6)).block, (ad.add (i.toNat * 6)).off + 4, none⟩ = some (.bool (rd_T199 xs i).f4) ∧ w.cell? ⟨(ad.add (i.toNat * 6)).block, (ad.add (i.toNat * 6)).off + 5, none⟩ = some (.bool (rd_T199 xs i).f5) ∧ (rd_T199 xs i).f3.length ≤ c3 ∧ Kd.bool.C w A3 (rd_T199 xs i).f3.length (rd_T199 xs i).f3 := by
  obtain ⟨ad, c, e, _, hK, hc0⟩ := Kd.C_get h z199 i h0 h1
  have hc : ∀ j u, c[j]? = some u → w.cell? (ad.add (i.toNat * 6 + j)) = some u := hc0
  obtain ⟨A3, c3, rfl, l3, g3⟩ := k199_open hK
  exact ⟨ad, A3, c3, e, hc 0 _ rfl, by rw [← add_field _ _ 1 (by omega)]; exact hc 1 _ rfl, by rw [← add_field _ _ 2 (by omega)]; exact hc 2 _ rfl, by rw [← add_field _ _ 3 (by omega)]; exact hc 3 _ rfl, by rw [← add_field _ _ 4 (by omega)]; exact hc 4 _ rfl, by rw [← add_field _ _ 5 (by omega)]; exact hc 5 _ rfl, l3, g3⟩

end Go.Proofs.Ytfdjbjinomfgiaa.GrTree
