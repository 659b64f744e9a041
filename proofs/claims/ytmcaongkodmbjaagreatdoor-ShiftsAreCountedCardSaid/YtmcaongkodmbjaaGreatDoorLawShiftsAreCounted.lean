/- The law ShiftsAreCounted holds for every input. -/
-- A program of this session wrote this text.
import Derived.Test.YtmcaongkodmbjaaGreatDoorRows
import Derived.Test.YtmcaongkodmbjaaGreatDoorCards
import Derived.Test.YtmcaongkodmbjaaGreatDoorTie
import Derived.Test.YtmcaongkodmbjaaGreatDoorPureShiftsAreCounted
namespace Go.Proofs.YtmcaongkodmbjaaGreatDoor.shiftsAreCounted
open Go Go.EV
open Go.ChangeShapes Go.WideShapes Go.ChangeAt Go.RowKit
open Go.ChangeMaps (open_string shut_string)
set_option linter.unusedVariables false
theorem own : ownKnob Tryz.prog.godebug = none := by kernel_rfl
theorem laidOut : laidOutB Tryz.prog = true := by kernel_rfl
theorem baseB {W : World} (hL : laidMet Tryz.prog Rows.shiftsAreCountedRow.laid W) (hsh : W.ShapedOpen Tryz.prog) : ∀ g : Go.EV.G, (∀ b, ¬ g.own b) → Go.EV.B.p g W :=
  Go.EV.B_of hsh (by
    obtain ⟨ps, hv, _⟩ := hL
    exact Go.EV.tab_asc (d := Rows.laid_strings_asciiSpace) (by kernel_rfl) hv (List.Mem.tail _ (List.Mem.tail _ (List.Mem.head _))))
set_option maxRecDepth 100000 in
theorem lifted (os : Os) (started : os.Started) (H : Type) (enc : TypeId × Value → H) :
    ReturnsInHanded {} Tryz.checked os 3 .any (fun w args => (Rows.shiftsAreCountedSpec.pre enc Tryz.prog Tryz.f3 [] false w args ∧ laidMetH Tryz.prog Rows.shiftsAreCountedRow.laid w) ∧ sizedMet enc Tryz.prog Tryz.f3 (OpenSpec.ofChange Rows.shiftsAreCountedSpec) false w args) (Rows.shiftsAreCountedSpec.post enc Tryz.prog Tryz.f3 false true false false) := by
  refine returnsInHanded_laid_shaped (C := Tryz.checked) (X := fun w _ => laidMetH Tryz.prog Rows.shiftsAreCountedRow.laid w) (fun _ _ _ hh h => h.of_heap hh) own started (by kernel_rfl) Tryz.func3
    (ChangeSpec.witness_shaped (enc := enc) (C := Tryz.checked) (os := os) (X := fun w _ => laidMetH Tryz.prog Rows.shiftsAreCountedRow.laid w) false (World.laidAll Tryz.prog os Rows.shiftsAreCountedRow.laid) #[.slice none 0 0] 8 (World.laidAll_os _ _ _)
      (World.shaped_of_ZipB (by kernel_rfl) (by kernel_rfl)) (by kernel_rfl) (by kernel_rfl) (by kernel_rfl)
      (by rw [MakeChecks.laidMetH_plain _ _ _ (by kernel_rfl)]; exact laidMet_laidAll _ (by kernel_rfl) (by kernel_rfl))) ?_
  intro W base args ds gs before hval0 hW hcnd hsz0 hL hsh _
  rw [MakeChecks.laidMetH_plain _ _ _ (by kernel_rfl)] at hL
  have hsz : (DataW.weightsEach Tryz.prog (Tryz.f3.params.toList ++ Rows.shiftsAreCountedSpec.plain.varTypes Tryz.prog) (ds ++ gs)).all (· ≤ reachBytes) = true := hsz0
  have hval : ∀ (j : Nat) t v, Tryz.f3.params[j]? = some t → args[j]? = some v → Value.okWide Tryz.prog W .any base t v := hval0
  have hW' := hW
  obtain ⟨p, q, hA0, hV, rfl, hfz, hnd⟩ := hW
  have hA : DataW.TrodAll enc Tryz.prog W 0 (fun _ => true) true Tryz.f3.params.toList args.toList ds p := hA0
  rw [Tryz.params3] at hA hval hsz
  obtain ⟨v0, vs0, d0, ds0, p0, q0, hargs, rfl, rfl, h0, r0⟩ := trodAll_cons hA
  obtain ⟨rfl, rfl, rfl⟩ := trodAll_nil r0
  obtain rfl : args = #[v0] := by cases args; simp_all
  obtain ⟨rfl, rfl⟩ := trodVars_none hV
  obtain ⟨a0, len0, cap0, rfl⟩ := okWide_slice Tryz.underlying22 (hval 0 22 v0 rfl rfl)
  have k0 := h0
  have lt0 : ∀ x ∈ p0, x.block < W.heap.size := by obtain ⟨m, hm⟩ := k0; exact DataW.trod_lt m _ _ _ hm
  obtain ⟨z0, w0⟩ : ∃ zs, Go.EV.IsRow .i64 W a0 len0 cap0 zs := by
    obtain ⟨fuel, hf⟩ := h0
    rcases open_ints Tryz.underlying22 Tryz.underlying3 (by kernel_rfl) hf with ⟨hcs, _⟩ | ⟨x, l, c, zs, hcs, _, hl, hm, hz, _, hcell, hwz⟩
    · simp [Value.cells] at hcs
      obtain ⟨rfl, rfl, rfl⟩ := hcs
      exact ⟨[], .inl ⟨rfl, rfl, rfl, rfl⟩⟩
    · simp [Value.cells] at hcs
      obtain ⟨rfl, rfl, rfl⟩ := hcs
      exact ⟨zs, .inr ⟨_, rfl, hl, hm, by simpa using hz, hcell, hwz⟩⟩
  have y0 : len0 * 8 ≤ 140737488351232 := Go.EV.sized_ints hsz (j := 0) (t := 22) rfl rfl Tryz.underlying22 Tryz.underlying3 (by kernel_rfl) (by kernel_rfl) h0
  clear hA0 hval0 hsz0 hsz
  have hlen : (z0.take len0).length ≤ 140737488351232 := by simp; omega
  obtain ⟨k, hk⟩ := Go.EV.Pure.ShiftsAreCounted (z0.take len0) hlen
  have hB : ∀ g : Go.EV.G, (∀ b, ¬ g.own b) → Go.EV.B.p g W := baseB hL hsh
  refine (Go.EV.Ct.law w0 hB Tryz.call3 (Go.EV.pilekeep1_ShiftsAreCounted.ok k (z0.take len0) true hk)).mono fun e W' ⟨he, bel⟩ => ?_
  subst he
  exact ⟨_, rfl, _, _, _, [], _, [], hW', trodAll_mk1 (shut_bool Tryz.underlying4 _), (trodAll_cons_mk (Below.trod laidOut (by kernel_rfl) (of_decide_eq_true (by kernel_rfl)) k0 bel lt0) trodAll_mk0), rfl, bel.frame _, fun h => by cases h⟩
theorem over : Rows.shiftsAreCountedRow.holds Tryz.pinned (OpenSpec.ofChange Rows.shiftsAreCountedSpec) :=
  OpenClaim.holds_of_wide 3 Tryz.f3 rfl rfl rfl rfl rfl rfl rfl ⟨rfl, rfl, rfl, rfl, rfl⟩ rfl rfl rfl rfl rfl (by kernel_rfl) Tryz.func3 (by kernel_rfl)
    (of_decide_eq_true (by kernel_rfl)) (by unfold Func.isWrapper; first | (rw [if_pos (by decide +kernel)]; kernel_rfl) | (rw [if_neg (by decide +kernel)]; exact ⟨rfl, rfl⟩))
    (fun os started H enc _ => lifted os started H enc)
theorem card_holds : Rows.ShiftsAreCountedCardSaid :=
  Claim7.holds_tied_plain_at .later [] [.data, .listed, .data, .pinned] true (true, "0d4263d8119b8d16a31fb8c85e460d3f164a5cc3a4507ffdd345cde94c6e5399") false
    over (fun _ h => by cases h) (by kernel_rfl) (fun _ h => by cases h) shiftsAreCounted_row_tie rfl ⟨rfl, rfl⟩ (by kernel_rfl) rfl
    (fun f fn hf hfn => by
      obtain rfl : f = 3 := Option.some.inj ((show Tryz.prog.funcNamed "pileup/pilekeep1.ShiftsAreCounted" = some 3 by kernel_rfl).symm.trans hf) |>.symm
      obtain rfl : fn = Tryz.f3 := (Option.some.inj (Tryz.func3.symm.trans hfn)).symm
      exact ⟨by kernel_rfl, fun j t ht => by
        rw [Tryz.params3] at ht
        have hm : t ∈ [22] := by simpa using Array.mem_of_getElem? ht
        obtain rfl : t = 22 := by simpa using hm
        exact (show Tryz.prog.wantsStandIn 22 = false by kernel_rfl)⟩)
    (by kernel_rfl)
theorem proved : Rows.ShiftsAreCountedCardSaid := card_holds
end Go.Proofs.YtmcaongkodmbjaaGreatDoor.shiftsAreCounted
namespace Go.Proofs.YtmcaongkodmbjaaGreatDoor
/-- The row, under a short name, for the claim. -/
theorem shiftsAreCounted_holds : Rows.ShiftsAreCountedCardSaid := shiftsAreCounted.proved
#print axioms shiftsAreCounted_holds
end Go.Proofs.YtmcaongkodmbjaaGreatDoor
