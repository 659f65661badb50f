/- What a call changes: all blocks but those of S, and what is new, are as they were. -/
import Derived.Test.YtfdjbjinomfgiaaRows
import Derived.Test.YtfdjbjinomfgiaaTab
import Derived.Test.YtfdjbjinomfgiaaWMore
import Derived.WalkKit
import Derived.WalkSpells
import Derived.WalkLawsBesides
namespace Go.Proofs.Ytfdjbjinomfgiaa
open Go.RowKit Go.Proofs.YtfdjbjinomfgiaaW.PrintWords

structure Chg (S : Nat → Prop) (w w' : World) : Prop where
  os : w'.os = w.os
  tape : w'.tape = w.tape
  output : w'.output = w.output
  size : w.heap.size ≤ w'.heap.size
  block : ∀ k, k < w.heap.size → ¬ S k → w'.heap[k]? = w.heap[k]?

def none_ : Nat → Prop := fun _ => False

section
variable {S S2 S' : Nat → Prop} {w W W2 : World}
theorem Chg.refl (S : Nat → Prop) (w : World) : Chg S w w := ⟨rfl, rfl, rfl, Nat.le_refl _, fun _ _ _ => rfl⟩
theorem Chg.mono (h : Chg S w W) (hs : ∀ k, S k → S' k) : Chg S' w W := ⟨h.os, h.tape, h.output, h.size, fun k hk hn => h.block k hk (fun h2 => hn (hs k h2))⟩
theorem Chg.then_ (h : Chg S w W) (k : Chg S2 W W2) (hs : ∀ k, S2 k → S k ∨ w.heap.size ≤ k) : Chg S w W2 :=
  ⟨k.os.trans h.os, k.tape.trans h.tape, k.output.trans h.output, Nat.le_trans h.size k.size,
   fun i hi hn => (k.block i (Nat.lt_of_lt_of_le hi h.size) (fun h2 => (hs i h2).elim hn (fun h3 => by omega))).trans (h.block i hi hn)⟩
theorem Chg.trans (h : Chg S w W) (k : Chg S W W2) : Chg S w W2 := h.then_ k (fun _ hk => .inl hk)
theorem Chg.of_below (h : Below w.heap.size w W) (S : Nat → Prop) : Chg S w W := ⟨h.os, h.tape, h.output, h.size, fun k hk _ => h.block k hk⟩
theorem Chg.below (h : Chg S w W) (k : Below W.heap.size W W2) : Chg S w W2 := h.then_ (S2 := none_) (Chg.of_below k _) (fun _ hk => hk.elim)
theorem Chg.toBelow (h : Chg none_ w W) : Below w.heap.size w W := ⟨h.os, h.tape, h.output, h.size, fun k hk => h.block k hk (fun x => x)⟩
theorem Chg.drawn (h : Chg S w W) (k : Drawn0 W W2) : Chg S w W2 := h.below k.below
theorem Chg.of_drawn (h : Drawn0 w W) (S : Nat → Prop) : Chg S w W := Chg.of_below h.below S
theorem Chg.alloc (h : Chg S w W) (o : Obj) : Chg S w (W.alloc o) := h.below ((Below.refl _ _).alloc (Nat.le_refl _) o)
theorem Chg.drew (h : Chg S w W) : Chg S w W.drew := ⟨h.os, h.tape, h.output, h.size, h.block⟩
theorem Chg.drewN (h : Chg S w W) (n : Nat) : Chg S w (W.drewN n) := ⟨h.os, h.tape, h.output, h.size, h.block⟩
theorem Chg.setCell (h : Chg S w W) {p : Addr} (hp : S p.block ∨ w.heap.size ≤ p.block) (u : Value) : Chg S w (W.setCell p u) :=
  h.then_ (S2 := fun k => k = p.block) ⟨rfl, rfl, rfl, by simp [World.setCell], fun i _ hn => Below.heap_setCell W p u i hn⟩ (fun k hk => by rw [hk]; exact hp)
theorem Chg.grown (h : Chg S w W) {row : Option Nat} (hg : W.grownBy W2 row) (hr : ∀ k, row = some k → S k ∨ w.heap.size ≤ k) : Chg S w W2 :=
  h.then_ (S2 := fun k => row = some k) ⟨hg.os, hg.tape, hg.output, hg.size, fun i hi hn => hg.block i hi (fun e => hn e.symm)⟩ hr
theorem Chg.turned (h : Chg S w W) {b : Nat} (hg : W.mapTurned W2 b) (hb : S b ∨ w.heap.size ≤ b) : Chg S w W2 := h.grown hg.grown (fun k hk => by cases hk; exact hb)
theorem Chg.kept (h : Chg S w W) : Kept w W S := ⟨h.size, h.block⟩
theorem Chg.blk (h : Chg S w W) {g : Nat} {o : Obj} (hb : w.heap[g]? = some o) (hg : ¬ S g) : W.heap[g]? = some o :=
  (h.block g (Array.getElem?_eq_some_iff.1 hb).1 hg).trans hb
theorem Chg.cell (h : Chg S w W) {a : Addr} {v : Value} (hc : w.cell? a = some v) (hne : ¬ S a.block) : W.cell? a = some v := cell_kept hc h.kept hne
theorem Chg.map {H : Type} {P : Program} {k : TypeId} {R : Value → Option (DataW H × List MemPlace)} {b n : Nat} {D : DataW H} (h : Chg S w W) (hm : w.ownsMap P k R b n D) (hb : ¬ S b) : W.ownsMap P k R b n D := by
  obtain ⟨es, clock, hb1, r⟩ := hm
  exact ⟨es, clock, h.blk hb1 hb, r⟩
theorem blk_lt' {g : Nat} {o : Obj} (hb : w.heap[g]? = some o) : g < w.heap.size := (Array.getElem?_eq_some_iff.1 hb).1
theorem Chg.foot {P : World → Prop} {ok : Nat → Prop} (h : Chg S w W) (hf : Foot P w ok) (hne : ∀ k, ok k → ¬ S k) : Foot P W ok := hf.step (fun k hk hlt => h.block k hlt (hne k hk))
end
theorem str_at {w : World} {A : Option Addr} {n : Nat} {xs : List ByteArray} (h : Kd.C Kd.string w A n xs) {k : Nat} (hk : k < n) : ∃ ad, A = some ad ∧ w.cell? (ad.add k) = some (.string (xs.getD k ByteArray.empty)) := by
  obtain ⟨ad, e, hx⟩ := Kd.at_string h (k : Int) (by omega) (by omega)
  exact ⟨ad, e, by simpa [rdOf] using hx⟩
theorem getD_mem' {α : Type} {l : List α} {k : Nat} (h : k < l.length) (d : α) : l.getD k d ∈ l := by
  simp [List.getD_eq_getElem?_getD, List.getElem?_eq_getElem h]
theorem take_snoc' {α : Type} {l : List α} {k : Nat} (h : k < l.length) (d : α) : l.take (k + 1) = l.take k ++ [l.getD k d] := by
  rw [List.take_succ_eq_append_getElem h]; simp [List.getD_eq_getElem?_getD, List.getElem?_eq_getElem h]
theorem heap_new1 (w : World) (o o2 : Obj) : ((w.alloc o).alloc o2).heap[w.heap.size + 1]? = some o2 := by
  have := heap_alloc_new (w.alloc o) o2
  simpa using this
end Go.Proofs.Ytfdjbjinomfgiaa
