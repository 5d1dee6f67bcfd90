/-
  For every input the law parltop.TopTables returns true and leaves its arguments as they were; the table math/bits.deBruijn32tab starts as the program's text lays it.
-/
import Derived.Test.YtcldmcmclejlhaaGreatDoorTop
import Derived.Test.YtcldmcmclejlhaaGreatDoorFacts
import Derived.Test.YtcldmcmclejlhaaGreatDoorWk5
import Derived.Test.YtcldmcmclejlhaaGreatDoorJoin
import Derived.Stop.Joined
import Derived.Test.YtcldmcmclejlhaaGreatDoorTie
import Derived.Test.YtcldmcmclejlhaaGreatDoorCards
namespace Go.Proofs.YtcldmcmclejlhaaGreatDoor.topTables
open Go Go.Abs Go.Proofs Go.Proofs.D Go.Proofs.YtcldmcmclejlhaaGreatDoor
open Go.ChangeShapes Go.WideShapes Go.ChangeAt Go.RowKit
set_option linter.unusedVariables false
set_option maxRecDepth 100000

theorem own : ownKnob Tryz.prog.godebug = none := by kernel_rfl

theorem Mr (os : Os) (args : Array Value) : laidMetH Tryz.prog yu ((World.doorLaid Tryz.prog 4000 os).forCall (fun _ _ => 0) ⟨#[], args, []⟩).memory :=
  laidMetH_of_parts3 (fuel := 8) (laidMet_of_run' 8 (by kernel_rfl) (by kernel_rfl)) (by kernel_rfl) (by kernel_rfl)

theorem lifted (os : Os) (started : os.Started) (H : Type) (enc : TypeId × Value → H) :
    ReturnsInHanded {} Tryz.checked os 3 .any (fun w args => (Rows.topTablesSpec.pre enc Tryz.prog Tryz.f3 [] false w args ∧ laidMetH Tryz.prog yu w) ∧ sizedMet enc Tryz.prog Tryz.f3 (OpenSpec.ofChange Rows.topTablesSpec) false w args)
      (Rows.topTablesSpec.post enc Tryz.prog Tryz.f3 false true false false) := by
  refine returnsInHanded_of_change_and (C := Tryz.checked) (X := fun w _ => laidMetH Tryz.prog yu w) (fun _ _ _ hh h => h.of_heap hh) own started (by kernel_rfl) Tryz.func3
    (ChangeSpec.witness_shaped (enc := enc) (C := Tryz.checked) (os := os) (X := fun w _ => laidMetH Tryz.prog yu w) false (World.doorLaid Tryz.prog 4000 os) #[.slice none 0 0, .slice none 0 0] 8 rfl (World.shaped_of_RefB (by kernel_rfl) (by kernel_rfl)) (by kernel_rfl) (by kernel_rfl) (by kernel_rfl) (Mr os _)) ?_
  intro W base args ds gs before hval0 hW _ _ hL _
  have hval : ∀ (j : Nat) t v, Tryz.f3.params[j]? = some t → args[j]? = some v → Value.okWide Tryz.prog W .any base t v := hval0
  have hW' := hW
  obtain ⟨p, q, hA0, hV, rfl, hfz, hnd⟩ := hW
  have hA : DataW.TrodAll enc Tryz.prog W 0 (fun _ => true) true Tryz.f3.params.toList args.toList ds p := hA0
  have hval2 : ∀ (j : Nat) (t : TypeId) (v : Value), Tryz.f3.params.toList[j]? = some t → args.toList[j]? = some v → Value.okWide Tryz.prog W .any base t v := fun j t v h1 h2 => hval j t v (by simpa using h1) (by simpa using h2)
  rw [Tryz.params3] at hA hval2
  obtain ⟨rfl, rfl⟩ := trodVars_none hV
  obtain ⟨h1, h2⟩ := Kl okB known (f := 3) hL hA hval2 (by decide) (fun F aa hLd hR => by
    obtain ⟨a1, r1, rfl, e1, hR⟩ := hR
    obtain ⟨a2, r2, rfl, e2, hR⟩ := hR
    rw [if_neg (by decide)] at e1 e2
    obtain ⟨b1, m1, c1, l1, rfl, ha1, hm1⟩ := e1
    obtain ⟨b2, m2, c2, l2, rfl, ha2, hm2⟩ := e2
    rw [show r2 = [] from hR]
    exact Bj F hLd ha1 ha2 hm2)
  obtain ⟨args⟩ := args
  refine h1.mono fun e W' ⟨he, hg⟩ => ?_
  subst he
  have hds : ∃ d1 d2, ds = [d1, d2] := by
    have hl := hA
    obtain ⟨_, _, d1, _, _, _, _, rfl, _, _, hl⟩ := trodAll_cons hl
    obtain ⟨_, _, d2, _, _, _, _, rfl, _, _, hl⟩ := trodAll_cons hl
    obtain ⟨_, rfl, _⟩ := trodAll_nil hl
    exact ⟨d1, d2, rfl⟩
  obtain ⟨d1, d2, rfl⟩ := hds
  exact ⟨_, rfl, Bh (pa := p) (pv := []) hW' (fun _ _ _ => (trodAll_cons_mk (shut_bool Tryz.underlying4 _) trodAll_mk0)) (fun sp hsp => by
      have := h2 W' hg sp (fun x hx => hsp x (by simpa using hx))
      rw [Tryz.params3]
      exact this) (fun _ _ => rfl) (by simp)
    hg (ok_one (by kernel_rfl) rfl (okWide_bool_mk Tryz.underlying4 _))⟩

theorem over : Rows.TopTablesSaid :=
  OpenClaim.holds_of_wide 3 Tryz.f3 Z Z Z Z Z Z Z ⟨rfl, rfl, rfl, rfl, rfl⟩ Z Z Z Z Z (by kernel_rfl) Tryz.func3 PJ
    (of_decide_eq_true (by kernel_rfl)) (by unfold Func.isWrapper; first | (rw [if_pos (by decide +kernel)]; kernel_rfl) | (rw [if_neg (by decide +kernel)]; exact ⟨rfl, rfl⟩))
    (fun os started H enc _ => lifted os started H enc)

/-- THE STATEMENT. -/
theorem proved : Rows.TopTablesCardSaid :=
  Claim7.holds_tied_plain_at .later [] [.data, .data, .data] true (true, "aaa9b0810396f1d70c7ed7fce013db219b8e7777fe55abbe685a7215bdf0f779") true
    over (fun _ h => by cases h) (by kernel_rfl) (fun _ h => by cases h) topTables_row_tie rfl ⟨rfl, rfl⟩ (by kernel_rfl) rfl
    (fun f fn hf hfn => by
      obtain rfl : f = 3 := Option.some.inj ((show Tryz.prog.funcNamed Rows.topTablesRow.func = some 3 by kernel_rfl).symm.trans hf) |>.symm
      obtain rfl : fn = Tryz.f3 := (Option.some.inj (Tryz.func3.symm.trans hfn)).symm
      exact ⟨by kernel_rfl, fun j t ht => by
        rw [Tryz.params3] at ht
        have hm : t ∈ [22, 22] := by simpa using Array.mem_of_getElem? ht
        have hall : ([22, 22].all fun u => !Tryz.prog.wantsStandIn u) = true := by kernel_rfl
        exact (show Tryz.prog.wantsStandIn t = false by simpa using List.all_eq_true.1 hall t hm)⟩)
    (by kernel_rfl)
#print axioms proved
end Go.Proofs.YtcldmcmclejlhaaGreatDoor.topTables

