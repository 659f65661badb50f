/- Variables: Vars. -/
import Derived.Test.YtfdjbjinomfgiaaEnvC
namespace Go.Proofs.Ytfdjbjinomfgiaa
open Go.RowKit Go.Maps Go.Proofs.YtfdjbjinomfgiaaW.PrintWords Go.Proofs.YtfdjbjinomfgiaaW.PrintLast Go.Proofs.YtfdjbjinomfgiaaW.PrintMore
set_option linter.unusedSimpArgs false
set_option linter.unusedVariables false

abbrev VarK : Kd (ByteArray × ByteArray) := Kd.pair Kd.string Kd.string
theorem e_names_enc (L : List ByteArray) : (L.map fun s => s.data.toList).map encStr = encs Value.string L := by
  simp [encStr, encs]
theorem e_keys_row {V H : Type} {enc : V → DataW H} {L : List (ByteArray × V)} (hr : Rising L) {w' : World} {base e : Nat} {v : Value} {ss : List (List UInt8)} (hp : ss.Perm (strKeys (tab enc L)))
    (hrow : w'.ownsRow base e 1 v ss.length ((ss.mergeSort (fun x y => decide (x ≤ y))).map encStr)) : Kd.R Kd.string e w' base (fun _ => True) v (L.map Prod.fst) := by
  rw [tab_keys] at hp
  have hl := hp.length_eq
  have h2 : (ss.mergeSort (fun x y => decide (x ≤ y))) = (L.map Prod.fst).map fun s => s.data.toList := by
    have := sorted_keys hr hp
    rw [List.map_map]; exact this
  rw [h2, e_names_enc] at hrow
  refine Kd.R_of_own ?_ (fun _ _ => trivial)
  have : ss.length = (L.map Prod.fst).length := by simpa using hl
  rwa [this] at hrow
theorem tget_mem {V : Type} : ∀ {L : List (ByteArray × V)} {p : ByteArray × V}, Rising L → p ∈ L → tget L p.1 = some p.2
  | y :: r, p, h, hp => by
    obtain ⟨h1, h2⟩ := List.pairwise_cons.1 h
    unfold tget
    rcases List.mem_cons.1 hp with rfl | hp
    · rw [if_pos rfl]
    · rw [if_neg (ltB_ne (h1 p hp)), tget_mem h2 hp]
theorem var_M {w : World} {base : Nat} {ok : Nat → Prop} (n v : ByteArray) : VarK.M w base ok (n, v) [.string n, .string v] := ⟨[.string n], [.string v], rfl, rfl, rfl⟩
theorem e_info_var : (Try.prog.info? 108).map (fun i => (i.zero, i.size, i.bytes)) = some (some (.agg #[.string ⟨#[]⟩, .string ⟨#[]⟩]), 2, 32) := by kernel_rfl

set_option maxHeartbeats 4000000 in
set_option maxRecDepth 100000 in
theorem env_Vars (g m1 m2 : Nat) (S : EnvS) (w : World) (he : EnvIs w g m1 m2 S) :
    Calls Try.prog 59 #[.pointer (some ⟨g, 0, none⟩)] w fun e w' => ∃ v, e = .returned v ∧ Kd.R VarK 108 w' w.heap.size (fun _ => True) v S.vars ∧ Below w.heap.size w w' := by
  obtain ⟨A, c, hbox, hc0, hc1, hc2, hR, hC, hlc⟩ := he.opened
  have HE := Aside0.mk he
  have HLN := Aside0.mk he.ok.len
  clear hbox hc1 hc2 hR hC hlc he
  go_enter Try.func59, Try.ntmps59
  go_wp2_with (first
    | (go_at_call 120; refine (callsIn_wide.1 (Try.maps_Keys_120 _ _)).mono ?_; rintro e w' ⟨rfl, rfl⟩)
    | (go_at_call 91; refine (callsIn_wide.1 (Try.slices_Sorted_keys_91_120 m1 _ (tab encS S.vars) _ w HE.out.vars (by rw [tab_size]; unfold maxLen; have := HLN.out; omega) (by rw [tab_size]; have := HLN.out; omega))).mono ?_; rintro e w' ⟨v, ss, rfl, hp, hrow, _, hbl⟩; obtain ⟨A5, c5, rfl, hlc5, hC5⟩ := Kd.R_reads (e_keys_row HE.out.ok.rising hp hrow); have HKR := Aside0.mk (e_keys_row HE.out.ok.rising hp hrow); have HLC5 := Aside0.mk hlc5; have HB := Aside0.mk (((Below.refl _ _).alloc (Nat.le_refl _) _).trans (hbl.mono (by simp))); clear hp hrow hbl hlc5 hC5))
  go_loopw [3, 13] (fun v i wr => ∃ k : Nat, k ≤ S.vars.length ∧ i = .int .i64 k ∧ Aside0 (Kd.R VarK 108 wr w.heap.size (fun _ => True) v (S.vars.take k)) ∧ Aside0 (Kd.R Kd.string 9 wr (w.heap.size + 1) (fun _ => True) (.slice A5 S.vars.length c5) (S.vars.map Prod.fst)) ∧ Aside0 (Below w.heap.size w wr)) (fun _ i _ => S.vars.length - (intOf i).toNat)
  case atStart =>
    refine ⟨0, Nat.zero_le _, rfl, ⟨Kd.R_nil _ _ _ _ _⟩, ⟨?_⟩, HB⟩
    have := HKR.out
    simpa using this
  case round =>
    obtain ⟨k, hk, rfl, HR, HKR, HBW⟩ := hrel
    by_cases hlt : k < S.vars.length
    · have hlen : (S.vars.map Prod.fst).length = S.vars.length := by simp
      obtain ⟨A6, c6, he6, _, hC6⟩ := Kd.R_reads HKR.out
      injection he6 with e1 e2 e3
      subst e1 e3
      clear e2
      rw [hlen] at hC6
      obtain ⟨ad, e, hx⟩ := str_at hC6 hlt
      subst e
      have hmem := getD_mem' hlt (ByteArray.empty, ByteArray.empty)
      have htk := take_snoc' hlt (ByteArray.empty, ByteArray.empty)
      have hkey : (S.vars.map Prod.fst).getD k ByteArray.empty = (S.vars.getD k (ByteArray.empty, ByteArray.empty)).1 := by simp [List.getD_eq_getElem?_getD, List.getElem?_eq_getElem hlt]
      rw [hkey] at hx
      obtain ⟨⟨n, u⟩, hp⟩ : ∃ p, S.vars.getD k (ByteArray.empty, ByteArray.empty) = p := ⟨_, rfl⟩
      rw [hp] at hx hmem htk
      have HV := Aside0.mk (HE.out.below HBW.out)
      have HNM := Aside0.mk (show n.size ≤ 1000000 from (HE.out.ok.names _ hmem).2.1)
      have HGET := Aside0.mk (show (tget S.vars n).getD ⟨#[]⟩ = u from by rw [tget_mem HE.out.ok.rising hmem]; rfl)
      have HT := Aside0.mk htk
      have hlt' : (k : Int) < (S.vars.length : Int) := by omega
      have HLT := Aside0.mk hlt
      have hmx : (S.vars.length : Int) ≤ 100 := by have := HLN.out; omega
      have hc0 := (HV.out.opened).choose_spec.choose_spec.2.1
      obtain ⟨A7, c7, he7, _, _⟩ := Kd.R_reads HR.out
      have HL7 := Aside0.mk (show (S.vars.take k).length = k from by simp; omega)
      rw [HL7.out] at he7
      subst he7
      clear hC6 hlen hkey hp hmem htk hlt
      go_wp2_with (first
        | (at_lookup; refine lookup_str _ rfl _ _ _ rfl Try.underlying100 m1 _ S.vars rfl HV.out.vars n (by have := HNM.out; unfold maxLen; omega) rfl u HGET.out ?_)
        | (at_builtin; refine Kd.R_append VarK (w0 := wr) w.heap.size rfl (.tmp 17) (.tmp 26) 29 108 (.agg #[.string ⟨#[]⟩, .string ⟨#[]⟩]) 32 rfl Try.underlying29 e_info_var rfl (by decide) (by omega) _ (S.vars.take k) (n, u) [.string n, .string u] (fun _ => True) (fun _ => False) rfl rfl (var_M n u) (fun _ hk => hk.elim) (fun _ _ => trivial) HR.out (Below.refl _ _) HBW.out.size (by rw [HL7.out]; have := HLN.out; have := HLT.out; omega) ?_; intro v2 w2 hR2 _ hG2 _; have HR2 := Aside0.mk hR2; have HG2 := Aside0.mk (show wr.grownBy w2 (Value.slice A7 k c7).ownBlock from hG2); clear hR2 hG2))
      go_roundw
      case rel =>
        have hbk : ∀ k', (Value.slice A7 k c7).ownBlock = some k' → w.heap.size ≤ k' ∧ NotRow wr 9 k' := fun k' hk' => by
          obtain ⟨_, h2, _, q, hq, cs, hx⟩ := (Kd.R_bound HR.out).1 k' hk'
          obtain rfl : q = 108 := by
            rcases List.mem_cons.1 hq with hq | hq
            · exact hq
            · simp [VarK, Kd.pair, Kd.string, Kd.scalar] at hq
          exact ⟨h2, cells_notRow hx (by decide)⟩
        have hch : Chg (fun k' => (Value.slice A7 k c7).ownBlock = some k') wr w2 := (Chg.refl _ _).grown HG2.out (fun k' hk' => .inl hk')
        refine ⟨k + 1, HLT.out, by go_num, ⟨?_⟩, ⟨?_⟩, ⟨?_⟩⟩
        · rw [HT.out]; exact HR2.out
        · exact R_chg HKR.out hch (fun k' hk' q hq => by
            rcases List.mem_cons.1 hq with rfl | hq
            · exact (hbk k' hk').2
            · cases hq)
        · exact HBW.out.grown HG2.out HBW.out.size (fun k' hk' => (hbk k' hk').1)
      case measure => have := HLT.out; simp [intOf]; omega
    · obtain rfl : k = S.vars.length := by omega
      rw [List.take_length] at HR
      obtain ⟨A7, c7, rfl, _, _⟩ := Kd.R_reads HR.out
      go_wp2
      go_ret
      exact ⟨_, rfl, HR.out, HBW.out⟩
end Go.Proofs.Ytfdjbjinomfgiaa
