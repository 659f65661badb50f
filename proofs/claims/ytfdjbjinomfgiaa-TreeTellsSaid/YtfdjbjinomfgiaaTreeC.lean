/- Files: Names, Copy. -/
import Derived.Test.YtfdjbjinomfgiaaTreeB
namespace Go.Proofs.Ytfdjbjinomfgiaa
open Go.RowKit Go.Proofs.YtfdjbjinomfgiaaW.PrintWords Go.Proofs.YtfdjbjinomfgiaaW.PrintLast Go.Proofs.YtfdjbjinomfgiaaW.PrintMore

theorem TreeIs.chg {S : Nat → Prop} {w w' : World} {g m : Nat} {L : Names} (h : TreeIs w g m L) (hc : Chg S w w') (hg : ¬ S g) (hm : ¬ S m) : TreeIs w' g m L :=
  ⟨hc.blk h.box hg, hc.map h.map hm, h.rising⟩
theorem TreeIs.below {w w' : World} {g m : Nat} {L : Names} (h : TreeIs w g m L) (hc : Below w.heap.size w w') : TreeIs w' g m L :=
  h.chg (Chg.of_below hc none_) (fun x => x) (fun x => x)
theorem TreeIs.lt {w : World} {g m : Nat} {L : Names} (h : TreeIs w g m L) : g < w.heap.size ∧ m < w.heap.size := ⟨blk_lt' h.box, h.map.lt⟩
theorem TreeIs.ne {w : World} {g m : Nat} {L : Names} (h : TreeIs w g m L) : g ≠ m := fun e => by
  obtain ⟨es, clock, hx, _⟩ := h.map
  have hb := h.box
  rw [← e, hb] at hx
  cases hx
theorem names_enc (L : List ByteArray) : (L.map fun s => s.data.toList).map encStr = encs Value.string L := by
  simp [encStr, encs]
/-- The sorted keys of a table, as a row of strings of the call's own. -/
theorem keys_row {V H : Type} {enc : V → DataW H} {L : List (ByteArray × V)} (hr : Rising L) {w' : World} {base e : Nat} {v : Value} {ss : List (List UInt8)} (hp : ss.Perm (strKeys (tab enc L)))
    (hrow : w'.ownsRow base e 1 v ss.length ((ss.mergeSort (fun x y => decide (x ≤ y))).map encStr)) : Kd.R Kd.string e w' base (fun _ => True) v (L.map Prod.fst) := by
  rw [tab_keys] at hp
  have hl := hp.length_eq
  have h2 : (ss.mergeSort (fun x y => decide (x ≤ y))) = (L.map Prod.fst).map fun s => s.data.toList := by
    have := sorted_keys hr hp
    rw [List.map_map]; exact this
  rw [h2, names_enc] at hrow
  refine Kd.R_of_own ?_ (fun _ _ => trivial)
  have : ss.length = (L.map Prod.fst).length := by simpa using hl
  rwa [this] at hrow

set_option maxHeartbeats 400000 in
set_option maxRecDepth 100000 in
theorem tree_Names (g m : Nat) (L : Names) (w : World) (hL : L.length ≤ 200) (ht : TreeIs w g m L) :
    Calls Try.prog 33 #[.pointer (some ⟨g, 0, none⟩)] w fun e w' => ∃ v, e = .returned v ∧ Kd.R Kd.string 9 w' w.heap.size (fun _ => True) v (L.map Prod.fst) ∧ Below w.heap.size w w' := by
  obtain ⟨hbox, hm, hr⟩ := ht
  have hg : w.cell? ⟨g, 0, none⟩ = some (.map (some m)) := by simp [World.cell?, hbox]
  have hb := Aside0.mk hbox
  have hr0 := Aside0.mk hr
  have hm0 := Aside0.mk hm
  have hL0 := Aside0.mk hL
  clear hbox hr hm hL
  go_enter Try.func33, Try.ntmps33
  go_wp2_with (first
    | (go_at_call 92; refine (callsIn_wide.1 (Try.maps_Keys_92 _ _)).mono ?_; rintro e w' ⟨rfl, rfl⟩)
    | (go_at_call 91; refine (callsIn_wide.1 (Try.slices_Sorted_keys_91_92 m _ (tab encOne L) _ w hm0.out (by rw [tab_size]; unfold maxLen; have := hL0.out; omega) (by rw [tab_size]; have := hL0.out; omega))).mono ?_; rintro e w' ⟨v, ss, rfl, hp, hrow, _, hbl⟩; have HP := Aside0.mk hp; have HR := Aside0.mk hrow; have HB := Aside0.mk hbl; clear hp hrow hbl))
  go_ret
  refine ⟨_, rfl, Kd.R_lower (keys_row hr0.out HP.out HR.out) (by simp), ?_⟩
  exact ((Below.refl _ _).alloc (Nat.le_refl _) _).trans (HB.out.mono (by simp))

set_option maxHeartbeats 400000 in
set_option maxRecDepth 100000 in
theorem tree_Copy (g m : Nat) (L : Names) (w : World) (ht : TreeIs w g m L) :
    Calls Try.prog 42 #[.pointer (some ⟨g, 0, none⟩)] w fun e w' => ∃ g' m', e = .returned (.pointer (some ⟨g', 0, none⟩)) ∧ TreeIs w' g' m' L ∧ Below w.heap.size w w' ∧ w.heap.size ≤ g' ∧ w.heap.size ≤ m' := by
  obtain ⟨hbox, hm, hr⟩ := ht
  have hg : w.cell? ⟨g, 0, none⟩ = some (.map (some m)) := by simp [World.cell?, hbox]
  have hb := Aside0.mk hbox
  have hr0 := Aside0.mk hr
  have hm0 := Aside0.mk hm
  clear hbox hr hm
  go_enter Try.func42, Try.ntmps42
  go_wp2_with (go_at_call 98; refine (AnyW.maps_Clone_owns Try.clone98 9 _ m _ _ _ hm0.out).mono ?_; rintro e w' ⟨rfl, h1, _, hbl⟩; have H1 := Aside0.mk h1; have HB := Aside0.mk hbl; clear h1 hbl)
  go_ret
  have hs := HB.out.size
  refine ⟨w'.heap.size, w.heap.size, rfl, ⟨heap_alloc_new _ _, H1.out.alloc _, hr0.out⟩, HB.out.alloc hs _, hs, Nat.le_refl _⟩
end Go.Proofs.Ytfdjbjinomfgiaa
