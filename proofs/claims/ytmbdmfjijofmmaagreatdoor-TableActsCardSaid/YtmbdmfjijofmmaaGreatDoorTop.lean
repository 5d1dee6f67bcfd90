/-
  From a contract over the abstract machine to a row of the seat: the table of the package variable, the arguments.
-/
import Derived.Test.YtmbdmfjijofmmaaGreatDoorWk7
import Derived.Test.YtmbdmfjijofmmaaGreatDoorCtx
import Derived.Test.YtmbdmfjijofmmaaGreatDoorRows
import Derived.WalkKit
import Derived.ProofKit
import Derived.OpenShut
import Derived.LaidMore
import Derived.FnData
set_option linter.unusedVariables false
set_option maxRecDepth 100000
open Go Go.Abs Go.Proofs Go.Proofs.D
namespace Go.Proofs.D
open Go.ChangeShapes Go.WideShapes Go.RowKit Go.Proofs.YtmbdmfjijofmmaaGreatDoor

def laid1 : List (String × DataW Unit) := Rows.tableActsRow.laid
/-- The name of the table. -/
def tabName : String := (laid1.map (·.1)).headD Rows.tableActsRow.spec

theorem gTab : Tryz.prog.globalNamed tabName = some 0 := by kernel_rfl
theorem tTab : (Tryz.prog.globals[0]?).map (·.type) = some 343 := by kernel_rfl
theorem cTab : Tryz.prog.cellsOf 5 = 1 := by kernel_rfl
theorem cInt : Tryz.prog.cellsOf 3 = 1 := by kernel_rfl

theorem tab_cells {H : Type} {enc : TypeId × Value → H} {P : Program} {w : World} {base : Nat} {sp : Nat → Bool} {held : Bool} {n t e : Nat} {cs : List Value} {p : List MemPlace} {fuel : Nat} {k : IntKind} {l : List Nat}
    (ht : P.underlying t = some (.array n e)) (he : P.underlying e = some (.int k)) (hc : P.cellsOf e = 1) (h : DataW.trod enc P w base sp held fuel t cs = some (.agg (l.map fun x : Nat => DataW.lit (.int k (x : Int))), p)) :
    ∀ (j : Nat) (v : Value), (l.map fun x : Nat => Value.int k (x : Int))[j]? = some v → cs[j]? = some v := by
  obtain ⟨xs, m, rfl, hx, hlen, hn, hel⟩ := DataW.trod_array ht h
  simp only [Prod.mk.injEq, DataW.agg.injEq] at hx
  intro j v hj
  rw [List.getElem?_map] at hj
  cases hlj : l[j]? with
  | none => rw [hlj] at hj; cases hj
  | some x =>
    rw [hlj] at hj
    simp only [Option.map_some, Option.some.injEq] at hj
    subst hj
    have hjl : j < xs.length := by
      have h1 : xs.length = l.length := by
        have := congrArg List.length hx.1
        simpa using this.symm
      rw [h1]; exact (gS hlj).1
    have h0 := hel j zo
    rw [hc, Nat.mul_one, gE hjl] at h0
    obtain ⟨k2, e1, e2, _⟩ := DataW.trod_int he h0
    have h3 : (xs.map (·.1))[j]? = some (DataW.lit (.int k (x : Int))) := by rw [← hx.1, List.getElem?_map, hlj]; rfl
    rw [List.getElem?_map, gE hjl, e2] at h3
    simp only [Option.map_some, Option.some.injEq, DataW.lit.injEq, Lit.int.injEq, true_and] at h3
    have h4 : (List.take 1 (List.drop j cs))[0]? = some (Value.int k k2) := by rw [e1]; rfl
    rw [List.getElem?_take, if_pos (by decide), List.getElem?_drop] at h4
    rw [← h3]
    simpa using h4

theorem laid_tab {W : World} (h : laidMetH Tryz.prog laid1 W) : ∀ (j : Nat) (v : Value), (tab32.map fun x : Nat => Value.int .u8 (x : Int))[j]? = some v → W.cell? ⟨0, 0 + j, none⟩ = some v := by
  rw [MakeChecks.laidMetH_plain _ _ _ (by kernel_rfl)] at h
  obtain ⟨ps, ⟨g0, t0, cs0, f0, p0, q0, hg0, ht0, hv0, hd0, _, _⟩, _, _⟩ := h
  obtain rfl := Option.some.inj (gTab.symm.trans hg0)
  obtain rfl := Option.some.inj (tTab.symm.trans ht0)
  intro j v hj
  rw [Nat.zero_add, World.var?_cell gTab hv0 j]
  have := tab_cells (l := tab32) Tryz.underlying343 Tryz.underlying5 cTab hd0 j v hj
  simpa using this

/-- The calls of a law, and its arguments read again. -/
theorem law_calls (ok : CC.Ok Tryz.prog) (fok : FactsOk CC Tryz.prog) {f : FuncId} {ts : List TypeId} {W : World} {base : Nat} {H : Type} {enc : TypeId × Value → H} {vs : List Value} {ds : List (DataW H)} {ps : List MemPlace}
    (hlaid : laidMetH Tryz.prog laid1 W) (hA : DataW.TrodAll enc Tryz.prog W 0 (fun _ => true) true ts vs ds ps)
    (hok : ∀ (j : Nat) (t : TypeId) (v : Value), ts[j]? = some t → vs[j]? = some v → Value.okWide Tryz.prog W .any base t v) (hts : ∀ t ∈ ts, t = 3 ∨ t = 22)
    (spec : ∀ F aa, Laid F → ArgRels 3 F ts aa → Abs.Spec CC f aa F [] fun _ v o => o = [] ∧ v = .bool true) :
    (Calls Tryz.prog f ⟨vs⟩ W fun e w' => e = .returned (.bool true) ∧ Below W.heap.size W w') ∧
      (∀ W', Below W.heap.size W W' → ∀ sp : Nat → Bool, (∀ p ∈ ps, sp p.block = true) → DataW.TrodAll enc Tryz.prog W' 0 sp true ts vs ds ps) := by
  obtain ⟨aa, blks, locs, h1, h2, h3, h4, h5, h6⟩ := args_abs Tryz.underlying3 Tryz.underlying22 cInt (by decide) ts vs ds ps CC.globs hA hok hts
  refine ⟨?_, h6⟩
  obtain ⟨l0, hl1, hl2, _, hl4⟩ := brel_row (W := W) (b := 0) (off := 0) (cs := tab32.map fun x : Nat => Value.int .u8 (x : Int)) (by decide) (laid_tab hlaid) (by decide +kernel)
  let gl : List (Nat × Abs.Loc) := (0, l0) :: (List.range CC.globs).map fun g => (g, ⟨g, 0, 0⟩)
  have hgl : ∀ i, i < CC.globs → ∃ l, locOf gl i = some l ∧ l.blk = i ∧ l.off = 0 := by
    intro i hi
    have hmem : ∀ (L : List Nat), i ∈ L → locOf (L.map fun g => (g, (⟨g, 0, 0⟩ : Abs.Loc))) i = some ⟨i, 0, 0⟩ := by
      intro L
      induction L with
      | nil => intro h; cases h
      | cons a L ih =>
        intro h
        simp only [List.map_cons, locOf]
        by_cases ha : a = i
        · subst ha; simp
        · rw [if_neg ha]
          rcases List.mem_cons.1 h with rfl | h
          · exact absurd rfl ha
          · exact ih h
    by_cases h0 : 0 = i
    · subst h0; exact ⟨l0, by simp [gl, locOf], hl1, hl2⟩
    · exact ⟨⟨i, 0, 0⟩, by simp only [gl, locOf]; rw [if_neg h0]; exact hmem _ (List.mem_range.2 hi), rfl, rfl⟩
  have hgn : ∀ i, CC.globs ≤ i → locOf gl i = none := by
    intro i hi
    have hno : ∀ (L : List Nat), (∀ a ∈ L, a < CC.globs) → locOf (L.map fun g => (g, (⟨g, 0, 0⟩ : Abs.Loc))) i = none := by
      intro L
      induction L with
      | nil => intro _; rfl
      | cons a L ih =>
        intro h
        have ha := h a me
        simp only [List.map_cons, locOf]
        rw [if_neg zo]
        exact ih fun b hb => h b (List.mem_cons_of_mem _ hb)
    have h0 : 0 < CC.globs := by decide
    simp only [gl, locOf]
    rw [if_neg zo]
    exact hno _ fun a ha => List.mem_range.1 ha
  have h0 : 0 < CC.globs := by decide
  refine calls_of_spec ok fok (aa := aa) (blks := (0, .cells true (tab32.map fun x : Nat => Value.int .u8 (x : Int))) :: blks) (locs := gl ++ locs) (nx := CC.globs + ts.length) ?_ ?_ ?_ ?_ ?_ ?_
  · intro p hp
    rcases List.mem_cons.1 hp with rfl | hp
    · refine ⟨by decide +kernel, by simp only; omega, l0, ?_, hl4⟩
      rw [locOf_app]; simp [gl, locOf]
    · obtain ⟨a, b, c, l, d, e⟩ := h1 p hp
      refine ⟨c, b, l, ?_, e⟩
      rw [locOf_app, hgn _ a]; exact d
  · simp only [List.map_cons, List.nodup_cons]
    refine ⟨fun hm => ?_, h3⟩
    obtain ⟨p, hp, e⟩ := List.mem_map.1 hm
    have := (h1 p hp).1
    omega
  · intro g hg
    obtain ⟨l, a, b, c⟩ := hgl g hg
    exact ⟨l, by rw [locOf_app, a], b, c⟩
  · intro i hi
    rw [locOf_app, hgn i zo]
    cases hl : locOf locs i with
    | none => rfl
    | some l => have := h2 i l hl; simp only; omega
  · refine h4 _ fun i l hl => ?_
    rw [locOf_app, hgn i (h2 i l hl).1]; exact hl
  · intro F hF
    refine spec F aa (fun p hp => ?_) (h5 F fun p hp => hF p (List.mem_cons_of_mem _ hp))
    simp only [tabs, List.mem_cons, List.not_mem_nil, or_false] at hp
    subst hp
    exact hF _ me
end Go.Proofs.D

