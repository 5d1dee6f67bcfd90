/-
  The fact parlkeep3.explains: a closed run of the abstract machine returns true; some of its calls are run apart.
-/
import Derived.Test.YtebndojjghnhoaaGreatDoorCtx
import Derived.Test.YtebndojjghnhoaaGreatDoorChecked
set_option linter.unusedVariables false
set_option maxRecDepth 20000
set_option maxHeartbeats 0
open Go Go.Abs Go.Proofs
namespace Go.Proofs.D

/-! ### a run in a small heap is a run in a larger one -/
structure Hle (h k : Heap) : Prop where
  next : h.next = k.next
  get : ∀ i b, h.get i = some b → k.get i = some b
  wf : ∀ i, k.next ≤ i → k.get i = none

section
variable {C : Ctx} {h k : Heap} (hk : Hle h k)
include hk

theorem Hle.alloc (b : Blk) : Hle (h.alloc b) (k.alloc b) := ⟨by rw [Heap.next_alloc, Heap.next_alloc, hk.next], fun i c q => by
  rw [Heap.get_alloc] at q ⊢
  rw [← hk.next]
  split
  · rename_i e; rw [if_pos e] at q; exact q
  · rename_i e; rw [if_neg e] at q; exact hk.get i c q, fun i hi => by
  rw [Heap.next_alloc] at hi
  rw [Heap.get_alloc, if_neg zo]
  exact hk.wf i zo⟩
theorem Hle.put (i : Nat) (b : Option Blk) (hb : ∃ c, h.get i = some c) : Hle (h.put i b) (k.put i b) := ⟨by rw [Heap.next_put, Heap.next_put, hk.next], fun j c q => by
  rw [Heap.get_put] at q ⊢
  split
  · rename_i e; rw [if_pos e] at q; exact q
  · rename_i e; rw [if_neg e] at q; exact hk.get j c q, fun j hj => by
  rw [Heap.next_put] at hj
  rw [Heap.get_put]
  split
  · rename_i e
    obtain ⟨c, hc⟩ := hb
    have := hk.get i c hc
    rw [hk.wf i zo] at this
    cases this
  · exact hk.wf j hj⟩

theorem cells_le {b : Nat} {cs : List Value} (q : cellsAt h b = some cs) : cellsAt k b = some cs := by
  unfold cellsAt at q ⊢
  cases hb : h.get b with
  | none => rw [hb] at q; cases q
  | some c => rw [hk.get b c hb]; rw [hb] at q; exact q

theorem load_le {t : TypeId} {x v : Value} (q : loadA C h t x = some v) : loadA C k t x = some v := by
  unfold loadA at q ⊢
  split at q
  · cases hc : cellsAt h _ with
    | none => rw [hc] at q; cases q
    | some cs => rw [hc] at q; simp only [cells_le hk hc]; exact q
  · cases q

theorem store_le {t : TypeId} {p v : Value} {h' : Heap} (q : storeA C h t p v = some h') : ∃ k', storeA C k t p v = some k' ∧ Hle h' k' := by
  unfold storeA at q ⊢
  split at q
  · split at q
    · rename_i hg hs
      simp only [hk.get _ _ hg, hs]
      simp only [cond_eq_ite] at q ⊢
      split at q
      · rename_i hc
        cases q
        rw [if_pos hc]
        exact ⟨_, rfl, hk.put _ _ ⟨_, hg⟩⟩
      · cases q
    · cases q
  · cases q

theorem len_le {t : TypeId} {x v : Value} (q : lenA C h t x = some v) : lenA C k t x = some v := by
  unfold lenA at q ⊢
  split at q
  · exact q
  · exact q
  · exact q
  · exact q
  · rename_i r _
    cases hg : h.get r with
    | none => rw [hg] at q; cases q
    | some b => rw [hg] at q; simp only [hk.get _ _ hg]; exact q
  · cases q

theorem first_le {s n : Nat} {x : Value} {l : List Value} (q : firstA h s n x = some l) : firstA k s n x = some l := by
  unfold firstA at q ⊢
  split at q
  · exact q
  · simp only [cond_eq_ite] at q ⊢
    split at q
    · rename_i hc; rw [if_pos hc]; exact q
    · rename_i hc
      rw [if_neg hc]
      cases hg : cellsAt h _ with
      | none => rw [hg] at q; cases q
      | some cs => rw [hg] at q; simp only [cells_le hk hg]; exact q
  · exact q
  · cases q

theorem plainNews_le {s : Nat} {x : Value} {r : Nat × List Value} (q : plainNewsA h s x = some r) : plainNewsA k s x = some r := by
  unfold plainNewsA at q ⊢
  split at q
  · cases hf : firstA h s _ x with
    | none => rw [hf] at q; cases q
    | some l => rw [hf] at q; rw [first_le hk hf]; exact q
  · cases q

theorem news_le {e : TypeId} {s : Nat} {xt : Option TypeId} {x : Value} {r : Nat × List Value} (q : newsA C h e s xt x = some r) : newsA C k e s xt x = some r := by
  cases xt with
  | none => exact plainNews_le hk q
  | some t =>
    simp only [newsA] at q ⊢
    cases hu : C.und t with
    | none => rw [hu] at q; cases q
    | some d =>
      simp only [hu] at q ⊢
      cases d <;> first | exact plainNews_le hk q | exact q

theorem append_le {t : TypeId} {xt : Option TypeId} {s x v : Value} {h' : Heap} (q : appendA C h t xt s x = some (v, h')) : ∃ k', appendA C k t xt s x = some (v, k') ∧ Hle h' k' := by
  unfold appendA at q ⊢
  cases hu : C.und t with
  | none => simp only [hu] at q; cases q
  | some d =>
  cases d with
  | slice e =>
    cases s with
    | slice base len c =>
      simp only [hu] at q ⊢
      cases hs : C.size e with
      | none => simp only [hs] at q; cases q
      | some sz =>
      cases hz : C.zero e with
      | none => simp only [hs, hz] at q; cases q
      | some z =>
      cases hb : C.bytes e with
      | none => simp only [hs, hz, hb] at q; cases q
      | some by_ =>
      simp only [hs, hz, hb] at q ⊢
      cases hn : newsA C h e sz xt x with
      | none => simp only [hn] at q; cases q
      | some r =>
        obtain ⟨n, new⟩ := r
        simp only [hn, news_le hk hn, cond_eq_ite] at q ⊢
        split at q
        · cases q
        · rename_i h1
          rw [if_neg h1]
          split at q
          · rename_i h2
            rw [if_pos h2]
            cases q
            exact ⟨_, rfl, hk⟩
          · rename_i h2
            rw [if_neg h2]
            cases base with
            | none =>
              cases q
              exact ⟨_, by rw [hk.next], hk.alloc _⟩
            | some a =>
              obtain ⟨b, off, sp⟩ := a
              cases sp with
              | some sp => cases q
              | none =>
                dsimp only at q ⊢
                split at q
                · rename_i h3
                  rw [if_pos h3]
                  split at q
                  · rename_i h4
                    rw [if_pos h4]
                    cases q
                    exact ⟨_, by rw [hk.next], hk.alloc _⟩
                  · cases q
                · rename_i h3
                  rw [if_neg h3]
                  split at q
                  · cases q
                  · rename_i h4
                    rw [if_neg h4]
                    cases hg : h.get b with
                    | none => simp only [hg] at q; cases q
                    | some bl =>
                      simp only [hg, hk.get _ _ hg] at q ⊢
                      cases bl with
                      | cells ro cs =>
                        cases ro with
                        | true => cases q
                        | false =>
                          dsimp only at q ⊢
                          cases ho : partL cs off (len * sz) with
                          | none => simp only [ho] at q; cases q
                          | some old =>
                            simp only [ho] at q ⊢
                            cases q
                            exact ⟨_, by rw [hk.next], (hk.put _ none ⟨_, hg⟩).alloc _⟩
                      | _ => cases q
    | _ => simp only [hu] at q; cases q
  | _ => simp only [hu] at q; cases q

theorem copy_le {t : TypeId} {d x v : Value} {h' : Heap} (q : copyA C h t d x = some (v, h')) : ∃ k', copyA C k t d x = some (v, k') ∧ Hle h' k' := by
  unfold copyA at q ⊢
  cases hu : C.und t with
  | none => simp only [hu] at q; cases q
  | some ty =>
  cases ty with
  | slice e =>
    cases d with
    | slice base dl c =>
      cases hl : lenOfA x with
      | none => simp only [hu, hl] at q; cases q
      | some n =>
      simp only [hu, hl] at q ⊢
      cases hs : C.size e with
      | none => simp only [hs] at q; cases q
      | some s =>
      simp only [hs] at q ⊢
      cases hf : firstA h s (Nat.min n dl) x with
      | none => simp only [hf] at q; cases q
      | some new =>
        simp only [hf, first_le hk hf, cond_eq_ite] at q ⊢
        split at q
        · cases q
        · rename_i h1
          rw [if_neg h1]
          cases base with
          | none => cases q; exact ⟨_, rfl, hk⟩
          | some a =>
            obtain ⟨b, off, sp⟩ := a
            cases sp with
            | some sp => cases q
            | none =>
              dsimp only at q ⊢
              split at q
              · rename_i h2
                rw [if_pos h2]
                cases q; exact ⟨_, rfl, hk⟩
              · rename_i h2
                rw [if_neg h2]
                cases hg : h.get b with
                | none => simp only [hg] at q; cases q
                | some bl =>
                  simp only [hg, hk.get _ _ hg] at q ⊢
                  cases bl with
                  | cells ro cs =>
                    cases ro with
                    | true => cases q
                    | false =>
                      dsimp only at q ⊢
                      split at q
                      · rename_i h3
                        rw [if_pos h3]
                        cases q; exact ⟨_, rfl, hk.put _ _ ⟨_, hg⟩⟩
                      · cases q
                  | _ => cases q
    | _ => simp only [hu] at q; cases q
  | _ => simp only [hu] at q; cases q

theorem clear_le {t : TypeId} {x : Value} {h' : Heap} (q : clearA C h t x = some h') : ∃ k', clearA C k t x = some k' ∧ Hle h' k' := by
  unfold clearA at q ⊢
  split at q
  · cases q; exact ⟨_, rfl, hk⟩
  · cases q; exact ⟨_, rfl, hk⟩
  · split at q
    · rename_i hz hg
      simp only [hz, hk.get _ _ hg, cond_eq_ite] at q ⊢
      split at q
      · rename_i h3
        rw [if_pos h3]
        cases q; exact ⟨_, rfl, hk.put _ _ ⟨_, hg⟩⟩
      · cases q
    · cases q
  · cases q

theorem makeSlice_le {t : TypeId} {l c v : Value} {h' : Heap} (q : makeSliceA C h t l c = some (v, h')) : ∃ k', makeSliceA C k t l c = some (v, k') ∧ Hle h' k' := by
  unfold makeSliceA at q ⊢
  split at q
  · split at q
    · split at q
      · rename_i h3
        simp only [if_pos h3] at q ⊢
        cases q
        exact ⟨_, by rw [hk.next], hk.alloc _⟩
      · cases q
    · cases q
  · cases q

theorem buildSlice_le {t : TypeId} {n : Nat} {ps : List (Nat × Value)} {v : Value} {h' : Heap} (q : buildSliceA C h t n ps = some (v, h')) : ∃ k', buildSliceA C k t n ps = some (v, k') ∧ Hle h' k' := by
  unfold buildSliceA at q ⊢
  split at q
  · split at q
    · simp only [cond_eq_ite] at q ⊢
      split at q
      · rename_i h3
        rw [if_pos h3]
        split at q
        · cases q
          exact ⟨_, by rw [hk.next], hk.alloc _⟩
        · cases q
      · cases q
    · cases q
  · cases q

theorem entries_le {x : Value} {l : List (Value × Value)} (q : entriesA h x = some l) : entriesA k x = some l := by
  unfold entriesA at q ⊢
  split at q
  · exact q
  · rename_i r
    cases hg : h.get r with
    | none => rw [hg] at q; cases q
    | some b => rw [hg] at q; simp only [hk.get _ _ hg]; exact q
  · cases q

theorem lookup_le {t : TypeId} {x y v : Value} {ok : Bool} (q : lookupA C h t x y ok = some v) : lookupA C k t x y ok = some v := by
  unfold lookupA at q ⊢
  cases he : entriesA h x with
  | none => simp only [he] at q; split at q <;> first | (rename_i e; cases e; done) | cases q
  | some es => simp only [he, entries_le hk he] at q ⊢; exact q

theorem mapUpdate_le {t : TypeId} {m y v : Value} {h' : Heap} (q : mapUpdateA C h t m y v = some h') : ∃ k', mapUpdateA C k t m y v = some k' ∧ Hle h' k' := by
  unfold mapUpdateA at q ⊢
  split at q
  · rename_i r _
    cases hg : h.get r with
    | none => simp only [hg] at q; cases q
    | some b =>
      simp only [hg, hk.get _ _ hg] at q ⊢
      cases b with
      | map es =>
        simp only [cond_eq_ite] at q ⊢
        split at q
        · cases q
        · rename_i h1
          rw [if_neg h1]
          split at q
          · split at q
            · split at q
              · rename_i h2
                rw [if_pos h2]
                cases q; exact ⟨_, rfl, hk.put _ _ ⟨_, hg⟩⟩
              · cases q
            · cases q
          · cases q; exact ⟨_, rfl, hk.put _ _ ⟨_, hg⟩⟩
          · cases q
      | _ => cases q
  · cases q

theorem delete_le {t : TypeId} {m y : Value} {h' : Heap} (q : deleteA C h t m y = some h') : ∃ k', deleteA C k t m y = some k' ∧ Hle h' k' := by
  unfold deleteA at q ⊢
  split at q
  · rename_i r _
    cases hg : h.get r with
    | none => simp only [hg] at q; cases q
    | some b =>
      simp only [hg, hk.get _ _ hg] at q ⊢
      cases b with
      | map es =>
        simp only [cond_eq_ite] at q ⊢
        split at q
        · cases q
        · rename_i h1
          rw [if_neg h1]
          split at q
          · cases q; exact ⟨_, rfl, hk.put _ _ ⟨_, hg⟩⟩
          · cases q; exact ⟨_, rfl, hk.put _ _ ⟨_, hg⟩⟩
          · cases q
      | _ => cases q
  · cases q

theorem mapEntry_le {t : TypeId} {m y v : Value} {h' : Heap} (q : mapEntryA C h t m y = some (v, h')) : ∃ k', mapEntryA C k t m y = some (v, k') ∧ Hle h' k' := by
  unfold mapEntryA at q ⊢
  split at q
  · rename_i r _
    cases hg : h.get r with
    | none => simp only [hg] at q; cases q
    | some b =>
      simp only [hg, hk.get _ _ hg] at q ⊢
      cases b with
      | map es =>
        simp only [cond_eq_ite] at q ⊢
        split at q
        · cases q
        · rename_i h1
          rw [if_neg h1]
          split at q
          · split at q
            · split at q
              · rename_i h2
                rw [if_pos h2]
                cases q; exact ⟨_, rfl, hk⟩
              · cases q
            · cases q
          · split at q
            · cases q; exact ⟨_, rfl, hk.put _ _ ⟨_, hg⟩⟩
            · cases q
          · cases q
      | _ => cases q
  · cases q

theorem entryStore_le {m s v : Value} {h' : Heap} (q : entryStoreA h m s v = some h') : ∃ k', entryStoreA k m s v = some k' ∧ Hle h' k' := by
  unfold entryStoreA at q ⊢
  split at q
  · rename_i r _ n
    cases hg : h.get r with
    | none => simp only [hg] at q; cases q
    | some b =>
      simp only [hg, hk.get _ _ hg] at q ⊢
      cases b with
      | map es =>
        dsimp only at q ⊢
        split at q
        · split at q
          · cases q; exact ⟨_, rfl, hk.put _ _ ⟨_, hg⟩⟩
          · cases q
        · cases q
      | _ => cases q
  · cases q

theorem method_le {x : Value} {n : String} {r : FuncId × Value} (q : methodA C h x n = some r) : methodA C k x n = some r := by
  unfold methodA at q ⊢
  split at q
  · split at q
    · split at q
      · simp only [cond_eq_ite] at q ⊢
        split at q
        · rename_i h1
          rw [if_pos h1]
          split at q
          · exact q
          · obtain ⟨y, hy, rfl⟩ := Option.map_eq_some_iff.1 q
            rw [load_le hk hy]; rfl
          · cases q
        · cases q
      · cases q
    · cases q
  · cases q

theorem equal_le {t : TypeId} {x y : Value} {b : Bool} (q : equalA C h t x y = some b) : equalA C k t x y = some b := by
  have hlive : ∀ i, live h i = true → live k i = true := fun i hi => by
    unfold live at hi ⊢
    cases hg : h.get i with
    | none => rw [hg] at hi; cases hi
    | some b => rw [hg] at hi; simp only [hk.get _ _ hg]; exact hi
  unfold equalA at q ⊢
  split at q
  any_goals exact q
  split at q
  · simp only [cond_eq_ite] at q ⊢
    split at q
    · cases q
    · rename_i h1
      rw [if_neg h1]
      split at q
      · rename_i h2; rw [if_pos h2]; exact q
      · rename_i h2
        rw [if_neg h2]
        split at q
        · rename_i h3
          rw [Bool.and_eq_true] at h3
          rw [if_pos (by rw [hlive _ h3.1, hlive _ h3.2]; rfl)]; exact q
        · cases q
  · cases q

theorem slice_le {t : TypeId} {x v : Value} {lo hi mx : Option Value} (q : sliceA C h t x lo hi mx = some v) : sliceA C k t x lo hi mx = some v := by
  unfold sliceA at q ⊢
  split at q
  · exact q
  · exact q
  · rename_i n e b off hu
    cases hc : cellsAt h b with
    | none => simp only [hc] at q; split at q <;> first | (rename_i e; cases e; done) | cases q
    | some cs => simp only [hc, cells_le hk hc] at q ⊢; exact q
  · exact q
  · cases q

theorem bin_le {op : BinOp} {t : TypeId} {xo yo : Operand} {x y v : Value} (q : binA C h op t xo yo x y = some v) : binA C k op t xo yo x y = some v := by
  have key : ∀ f : Bool → Value, ((equalA C h t x y).map fun b => f b) = some v → ((equalA C k t x y).map fun b => f b) = some v := fun f hq => by
    obtain ⟨b, hb, hv⟩ := Option.map_eq_some_iff.1 hq
    rw [equal_le hk hb]; exact congrArg some hv
  unfold binA at q ⊢
  split at q
  any_goals exact q
  · simp only [cond_eq_ite] at q ⊢
    split at q
    · rename_i h1; rw [if_pos h1]; exact key (fun b => .bool b) q
    · cases q
  · simp only [cond_eq_ite] at q ⊢
    split at q
    · rename_i h1; rw [if_pos h1]; exact key (fun b => .bool !b) q
    · cases q

theorem builtin_le {b : Builtin} {ts : List TypeId} {as_ : List Value} {v : Value} {h' : Heap} (q : builtinA C h b ts as_ = some (v, h')) : ∃ k', builtinA C k b ts as_ = some (v, k') ∧ Hle h' k' := by
  unfold builtinA at q ⊢
  split at q
  · obtain ⟨y, hy, e⟩ := Option.map_eq_some_iff.1 q
    cases e
    exact ⟨k, by rw [len_le hk hy]; rfl, hk⟩
  · obtain ⟨y, hy, e⟩ := Option.map_eq_some_iff.1 q
    cases e
    exact ⟨k, by rw [hy]; rfl, hk⟩
  · exact append_le hk q
  · exact copy_le hk q
  · obtain ⟨y, hy, e⟩ := Option.map_eq_some_iff.1 q
    cases e
    obtain ⟨k', h1, h2⟩ := clear_le hk hy
    exact ⟨k', by rw [h1]; rfl, h2⟩
  · obtain ⟨y, hy, e⟩ := Option.map_eq_some_iff.1 q
    cases e
    obtain ⟨k', h1, h2⟩ := delete_le hk hy
    exact ⟨k', by rw [h1]; rfl, h2⟩
  · cases q; exact ⟨k, rfl, hk⟩
  · cases q; exact ⟨k, rfl, hk⟩
  · cases q; exact ⟨k, rfl, hk⟩
  · cases q

/-- An operation gives the same, in a heap that holds more. -/
def OpLe (h k : Heap) (r : OpR) (q : Option OpR) : Prop := match r with
  | .val v h' => ∃ k', q = some (.val v k') ∧ Hle h' k'
  | .call f as_ => q = some (.call f as_)

theorem vmap_le {x y : Option Value} {r : OpR} (e : ∀ v, x = some v → y = some v) (q : (x.map fun v => OpR.val v h) = some r) : OpLe h k r (y.map fun v => OpR.val v k) := by
  obtain ⟨v, hv, rfl⟩ := Option.map_eq_some_iff.1 q
  exact ⟨k, by rw [e v hv]; rfl, hk⟩
omit hk in
theorem wmap_le {x y : Option (Value × Heap)} {r : OpR} (e : ∀ v h', x = some (v, h') → ∃ k', y = some (v, k') ∧ Hle h' k') (q : (x.map fun r => OpR.val r.1 r.2) = some r) : OpLe h k r (y.map fun r => OpR.val r.1 r.2) := by
  obtain ⟨⟨v, h'⟩, hv, rfl⟩ := Option.map_eq_some_iff.1 q
  obtain ⟨k', h1, h2⟩ := e v h' hv
  exact ⟨k', by rw [h1]; rfl, h2⟩
omit hk in
theorem umap_le {x y : Option Heap} {r : OpR} (e : ∀ h', x = some h' → ∃ k', y = some k' ∧ Hle h' k') (q : (x.map fun h => OpR.val undefA h) = some r) : OpLe h k r (y.map fun h => OpR.val undefA h) := by
  obtain ⟨h', hv, rfl⟩ := Option.map_eq_some_iff.1 q
  obtain ⟨k', h1, h2⟩ := e h' hv
  exact ⟨k', by rw [h1]; rfl, h2⟩

theorem op_le {ρ : Operand → Option Value} {op : Op} {r : OpR} (q : opA C ρ h op = some r) : OpLe h k r (opA C ρ k op) := by
  cases op <;> simp only [opA] at q ⊢
  case move x => exact vmap_le hk (fun _ e => e) q
  case assign x => exact vmap_le hk (fun _ e => e) q
  case pick c a b => split at q <;> first | exact vmap_le hk (fun _ e => e) q | cases q
  case alloc e =>
    split at q
    · cases q; exact ⟨_, by rw [hk.next], hk.alloc _⟩
    · cases q
  case box t x =>
    split at q
    · cases q; exact ⟨_, by rw [hk.next], hk.alloc _⟩
    · cases q
  case build t ps => split at q <;> first | exact vmap_le hk (fun _ e => e) q | cases q
  case buildSlice t n ps => split at q <;> first | exact wmap_le (fun _ _ e => buildSlice_le hk e) q | cases q
  case load t a => split at q <;> first | exact vmap_le hk (fun _ e => load_le hk e) q | cases q
  case store t a x => split at q <;> first | exact umap_le (fun _ e => store_le hk e) q | cases q
  case nilCheck x => split at q <;> first | exact vmap_le hk (fun _ e => e) q | cases q
  case binOp o t x y _ => split at q <;> first | exact vmap_le hk (fun _ e => bin_le hk e) q | cases q
  case unOp o _ x => split at q <;> first | exact vmap_le hk (fun _ e => e) q | cases q
  case convert s d x => split at q <;> first | exact vmap_le hk (fun _ e => e) q | cases q
  case slice t x lo hi mx => split at q <;> first | exact vmap_le hk (fun _ e => slice_le hk e) q | cases q
  case makeSlice t l c => split at q <;> first | exact wmap_le (fun _ _ e => makeSlice_le hk e) q | cases q
  case fieldAddr t x f => split at q <;> first | exact vmap_le hk (fun _ e => e) q | cases q
  case field t x f => split at q <;> first | exact vmap_le hk (fun _ e => e) q | cases q
  case indexAddr t x i => split at q <;> first | exact vmap_le hk (fun _ e => e) q | cases q
  case index t x i => split at q <;> first | exact vmap_le hk (fun _ e => e) q | cases q
  case lookup t x y ok => split at q <;> first | exact vmap_le hk (fun _ e => lookup_le hk e) q | cases q
  case mapUpdate t m y x => split at q <;> first | exact umap_le (fun _ e => mapUpdate_le hk e) q | cases q
  case insert t m y x => split at q <;> first | exact umap_le (fun _ e => mapUpdate_le hk e) q | cases q
  case mapEntry t m y => split at q <;> first | exact wmap_le (fun _ _ e => mapEntry_le hk e) q | cases q
  case entryStore t m s x => split at q <;> first | exact umap_le (fun _ e => entryStore_le hk e) q | cases q
  case extract x i => split at q <;> first | exact vmap_le hk (fun _ e => e) q | cases q
  case typeAssert x _ t ok => split at q <;> first | exact vmap_le hk (fun _ e => e) q | cases q
  case makeFunc fn xs ys => split at q <;> first | exact vmap_le hk (fun _ e => e) q | cases q
  case makeInterface t x =>
    split at q
    · split at q
      · cases q
      · exact vmap_le hk (fun _ e => e) q
    · cases q
  case makeMap t n =>
    cases n with
    | none =>
      dsimp only at q ⊢
      cases q; exact ⟨_, by rw [hk.next], hk.alloc _⟩
    | some n => cases q
  case call c =>
    obtain ⟨callee, args, ts⟩ := c
    cases callee with
    | builtin b =>
      dsimp only at q ⊢
      split at q
      · exact wmap_le (fun _ _ e => builtin_le hk e) q
      · cases q
    | value f =>
      dsimp only at q ⊢
      split at q
      · have hc : ∀ {fv : Value} {as_ : List Value}, callA C fv as_ = some r → ∃ f as2, r = .call f as2 := fun {fv as_} e => by
          unfold callA at e
          split at e
          · split at e
            · simp only [cond_eq_ite] at e
              split at e
              · cases e; exact ⟨_, _, rfl⟩
              · cases e
            · cases e
          · cases e
        obtain ⟨f, as2, rfl⟩ := hc q
        exact q
      · cases q
    | invoke rc n =>
      dsimp only at q ⊢
      split at q
      · split at q
        · rename_i hm
          simp only [method_le hk hm]
          split at q
          · simp only [cond_eq_ite] at q ⊢
            split at q
            · rename_i h1
              rw [if_pos h1]
              cases q; rfl
            · cases q
          · cases q
        · cases q
      · cases q
  all_goals cases q
end

/-! ### the machine with a list of known calls -/
structure KnownC where
  f : FuncId
  args : List Value
  next : Nat
  pre : List (Nat × Blk)
  v : Value
  next2 : Nat
  post : List (Nat × Blk)

def heapOf (n : Nat) (l : List (Nat × Blk)) : Heap := ⟨n, tabsT l⟩

def KnownC.hits (m : KnownC) (f : FuncId) (args : List Value) (h : Heap) : Bool :=
  Nat.beq m.f f && sameVs m.args args && Nat.beq m.next h.next && m.pre.all fun p => sameB (h.get p.1) (some p.2)

def lookOk (look : List Nat) (h h1 : Heap) : Bool := look.all fun x => match h.get x, h1.get x with
  | some a, some b => sameB (some a) (some b)
  | none, none => Nat.ble h.next x && Nat.ble h1.next x
  | _, _ => false

/-- As clashOk; the blocks looked into must be there. -/
def clashM (ops : List Oper) (masks : List Nat) (tr : List Trc) : Bool :=
  let rec outer : List Trc → Nat → Bool
    | [], _ => true
    | (_, _, look, fl) :: rest, i =>
      (match look with
       | [] => true
       | look =>
         let mi := (masks[i]?).getD 0
         let rec inner : List Oper → List Trc → Nat → Bool
           | o :: os, (h, h1, _, _) :: tr, j =>
             (isStill o.op || i == j || mi.testBit j || ((masks[j]?).getD 0).testBit i || lookOk look h h1 || (Nat.blt i j && fl h1)) && inner os tr (j + 1)
           | _, _, _ => true
         inner ops tr 0) && outer rest (i + 1)
  outer tr 0

def regionM (C : Ctx) (cal : Cal) (ops : List Oper) (draw : Bool) (e : Env) (h : Heap) : Option (Env × Heap) :=
  bif draw then
    match traceA C cal ops ops e h with
    | none => none
    | some (e', h', tr) => bif drawOk ops && clashM ops (masksFrom [] ops) tr then some (e', h') else none
  else seqA C cal ops ops e h

def callM1 (C : Ctx) (ms : List KnownC) (exe : Exe) : Cal := fun f args h =>
  match ms.find? fun m => m.hits f args h with
  | some m => some (m.v, heapOf m.next2 m.post)
  | none => callBody C exe f args h

def codeM1 (C : Ctx) (ms : List KnownC) (exe : Exe) : Exe := fun c e h =>
  match c with
  | .region _ ops draw => match regionM C (callM1 C ms exe) ops.toList draw e h with
    | some (e, h) => some (.normal, e, h)
    | none => none
  | c => codeBody C exe c e h

def execM (C : Ctx) (ms : List KnownC) : Nat → Exe
  | 0 => fun _ _ _ => none
  | n + 1 => codeM1 C ms (execM C ms n)

def callM (C : Ctx) (ms : List KnownC) (n : Nat) : Cal := callBody C (execM C ms n)

/-! ### runs with known calls are runs -/
/-- A call that runs so in every larger heap. -/
def CallsTo (C : Ctx) (f : FuncId) (args : List Value) (h : Heap) (v : Value) (h' : Heap) : Prop :=
  ∀ k, Hle h k → ∃ k', Hle h' k' ∧ ∃ m, ∀ N, m ≤ N → call C N f args k = some (v, k')

def ExecTo (C : Ctx) (c : Code) (e : Env) (h : Heap) (x : Ex) (e' : Env) (h' : Heap) : Prop :=
  ∀ k, Hle h k → ∃ k', Hle h' k' ∧ ∃ m, ∀ N, m ≤ N → exec C N c e k = some (x, e', k')

def KnownC.Ok (C : Ctx) (m : KnownC) : Prop := CallsTo C m.f m.args (heapOf m.next m.pre) m.v (heapOf m.next2 m.post)

theorem result_le {C : Ctx} {h k : Heap} (hk : Hle h k) {e : Env} {r : ResultVar} {v : Value} (q : resultA C e h r = some v) : resultA C e k r = some v := by
  unfold resultA at q ⊢
  split at q
  · exact q
  · split at q
    · exact load_le hk q
    · cases q
theorem results_le {C : Ctx} {h k : Heap} (hk : Hle h k) {e : Env} : ∀ {rs : List ResultVar} {vs : List Value}, resultsA C e h rs = some vs → resultsA C e k rs = some vs
  | [], vs, q => q
  | r :: rs, vs, q => by
    unfold resultsA at q ⊢
    split at q
    · rename_i h1 h2
      rw [result_le hk h1, results_le hk h2]
      exact q
    · cases q
end Go.Proofs.D

set_option linter.unusedVariables false
set_option maxRecDepth 20000
set_option maxHeartbeats 0
open Go Go.Abs Go.Proofs
namespace Go.Proofs.D

theorem Hle.trans {a b c : Heap} (h1 : Hle a b) (h2 : Hle b c) : Hle a c := ⟨h1.next.trans h2.next, fun i x q => h2.get i x (h1.get i x q), h2.wf⟩

section
variable {C : Ctx} {ms : List KnownC}

theorem KnownC.hits_le {m : KnownC} {f : FuncId} {args : List Value} {h : Heap} (q : m.hits f args h = true) : m.f = f ∧ m.args = args ∧ (heapOf m.next m.pre).next = h.next ∧ ∀ i b, (heapOf m.next m.pre).get i = some b → h.get i = some b := by
  unfold KnownC.hits at q
  simp only [Bool.and_eq_true] at q
  obtain ⟨⟨⟨q1, q2⟩, q3⟩, q4⟩ := q
  refine ⟨Nat.eq_of_beq_eq_true q1, sameVs_eq q2, Nat.eq_of_beq_eq_true q3, fun i b hb => ?_⟩
  have := List.all_eq_true.1 q4 _ (tabsT_mem m.pre i b hb)
  exact sameB_eq this

/-- A step that is done so in every larger heap. -/
def StepTo (C : Ctx) (ops : List Oper) (o : Oper) (e : Env) (h : Heap) (e1 : Env) (h1 : Heap) : Prop :=
  ∀ k, Hle h k → ∃ k1, Hle h1 k1 ∧ ∃ m, ∀ N, m ≤ N → stepA C (call C N) ops o e k = some (e1, k1)

theorem step_to {cal : Cal} (hcal : ∀ f args h v h', cal f args h = some (v, h') → CallsTo C f args h v h') {ops : List Oper} {o : Oper} {e e1 : Env} {h h1 : Heap} (q : stepA C cal ops o e h = some (e1, h1)) : StepTo C ops o e h e1 h1 := by
  intro k hk
  unfold stepA at q
  cases hw : wantA ops e o with
  | none => rw [hw] at q; cases q
  | some b =>
    rw [hw] at q
    cases b with
    | false =>
      cases q
      refine ⟨k, hk, 0, fun N _ => ?_⟩
      unfold stepA
      rw [hw]
    | true =>
      dsimp only at q
      cases ho : opA C (e.eval C) h o.op with
      | none => rw [ho] at q; cases q
      | some r =>
        rw [ho] at q
        have hop := op_le hk ho
        cases r with
        | val v h' =>
          cases q
          obtain ⟨k', g1, g2⟩ := hop
          refine ⟨k', g2, 0, fun N _ => ?_⟩
          unfold stepA
          rw [hw]
          dsimp only
          rw [g1]
        | call f as_ =>
          dsimp only at q
          cases hc : cal f as_ h with
          | none => rw [hc] at q; cases q
          | some r =>
            obtain ⟨v, h'⟩ := r
            rw [hc] at q
            cases q
            obtain ⟨k', g1, m, g2⟩ := hcal _ _ _ _ _ hc k hk
            refine ⟨k', g1, m, fun N hN => ?_⟩
            unfold stepA
            rw [hw]
            dsimp only
            rw [show opA C (e.eval C) k o.op = some (.call f as_) from hop]
            dsimp only
            rw [g2 N hN]

theorem seq_to {cal : Cal} (hcal : ∀ f args h v h', cal f args h = some (v, h') → CallsTo C f args h v h') {ops : List Oper} : ∀ {rest : List Oper} {e e1 : Env} {h h1 : Heap}, seqA C cal ops rest e h = some (e1, h1) →
    ∀ k, Hle h k → ∃ k1, Hle h1 k1 ∧ ∃ m, ∀ N, m ≤ N → seqA C (call C N) ops rest e k = some (e1, k1)
  | [], e, e1, h, h1, q, k, hk => by cases q; exact ⟨k, hk, 0, fun _ _ => rfl⟩
  | o :: rest, e, e1, h, h1, q, k, hk => by
    unfold seqA at q
    cases hs : stepA C cal ops o e h with
    | none => rw [hs] at q; cases q
    | some r =>
      obtain ⟨e2, h2⟩ := r
      rw [hs] at q
      obtain ⟨k2, g1, m, g2⟩ := step_to hcal hs k hk
      obtain ⟨k1, g3, m2, g4⟩ := seq_to hcal q k2 g1
      refine ⟨k1, g3, max m m2, fun N hN => ?_⟩
      unfold seqA
      rw [g2 N zo]
      exact g4 N zo

/-- What is told of two runs. -/
inductive TrLe : List Trc → List Trc → Prop
  | nil : TrLe [] []
  | cons {h h1 k k1 : Heap} {look : List Nat} {fl fl' : Heap → Bool} {tr tr' : List Trc} : Hle h k → Hle h1 k1 → (∀ a b, Hle a b → fl a = true → fl' b = true) → TrLe tr tr' → TrLe ((h, h1, look, fl) :: tr) ((k, k1, look, fl') :: tr')

theorem flex_le {ρ : Operand → Option Value} {h k : Heap} (hk : Hle h k) {op : Op} {a b : Heap} (hab : Hle a b) (q : flexA C ρ h op a = true) : flexA C ρ k op b = true := by
  cases op <;> simp only [flexA] at q ⊢ <;> try (cases q)
  split at q
  · rename_i v _ v2 _ h1 h2
    have g1 := op_le hk h1
    have g2 := op_le hab h2
    obtain ⟨k1, g1, _⟩ := g1
    obtain ⟨k2, g2, _⟩ := g2
    rw [g1, g2]
    exact q
  · cases q

theorem trace_to {cal : Cal} (hcal : ∀ f args h v h', cal f args h = some (v, h') → CallsTo C f args h v h') {ops : List Oper} : ∀ {rest : List Oper} {e e1 : Env} {h h1 : Heap} {tr : List Trc}, traceA C cal ops rest e h = some (e1, h1, tr) →
    ∀ k, Hle h k → ∃ k1 tr', Hle h1 k1 ∧ TrLe tr tr' ∧ ∃ m, ∀ N, m ≤ N → traceA C (call C N) ops rest e k = some (e1, k1, tr')
  | [], e, e1, h, h1, tr, q, k, hk => by cases q; exact ⟨k, [], hk, .nil, 0, fun _ _ => rfl⟩
  | o :: rest, e, e1, h, h1, tr, q, k, hk => by
    unfold traceA at q
    cases hs : stepA C cal ops o e h with
    | none => rw [hs] at q; cases q
    | some r =>
      obtain ⟨e2, h2⟩ := r
      rw [hs] at q
      dsimp only at q
      cases ht : traceA C cal ops rest e2 h2 with
      | none => rw [ht] at q; cases q
      | some r =>
        obtain ⟨e3, h3, l⟩ := r
        rw [ht] at q
        cases q
        obtain ⟨k2, g1, m, g2⟩ := step_to hcal hs k hk
        obtain ⟨k1, tr', g3, g4, m2, g5⟩ := trace_to hcal ht k2 g1
        refine ⟨k1, _, g3, .cons hk g1 (fun a b hab hf => flex_le hk hab hf) g4, max m m2, fun N hN => ?_⟩
        unfold traceA
        rw [g2 N zo]
        dsimp only
        rw [g5 N zo]

theorem look_le {look : List Nat} {h h1 k k1 : Heap} (hk : Hle h k) (hk1 : Hle h1 k1) (q : lookOk look h h1 = true) : (look.all fun x => sameB (k.get x) (k1.get x)) = true := by
  unfold lookOk at q
  rw [List.all_eq_true] at q ⊢
  intro x hx
  have := q x hx
  split at this
  · rename_i a b h2 h3
    rw [hk.get _ _ h2, hk1.get _ _ h3]
    exact this
  · rw [Bool.and_eq_true] at this
    have n1 := Nat.le_of_ble_eq_true this.1
    have n2 := Nat.le_of_ble_eq_true this.2
    rw [hk.wf x (by rw [← hk.next]; exact n1), hk1.wf x (by rw [← hk1.next]; exact n2)]
    rfl
  · cases this

theorem clash_inner {masks : List Nat} {fl fl' : Heap → Bool} (hf : ∀ a b, Hle a b → fl a = true → fl' b = true) {i : Nat} {look : List Nat} {mi : Nat} : ∀ {os : List Oper} {tr tr' : List Trc} {j : Nat}, TrLe tr tr' →
    clashM.outer.inner masks fl i look mi os tr j = true → clashOk.outer.inner masks fl' i look mi os tr' j = true
  | [], tr, tr', j, ht, q => by unfold clashOk.outer.inner; rfl
  | o :: os, [], tr', j, ht, q => by cases ht; unfold clashOk.outer.inner; rfl
  | o :: os, _ :: tr, _, j, .cons g1 g2 g3 g4, q => by
    unfold clashM.outer.inner at q
    unfold clashOk.outer.inner
    rw [Bool.and_eq_true] at q ⊢
    refine ⟨?_, clash_inner hf g4 q.2⟩
    have q := q.1
    simp only [Bool.or_eq_true] at q ⊢
    rcases q with q | q
    · rcases q with q | q
      · exact .inl (.inl q)
      · exact .inl (.inr (look_le g1 g2 q))
    · rw [Bool.and_eq_true] at q
      exact .inr (by rw [Bool.and_eq_true]; exact ⟨q.1, hf _ _ g2 q.2⟩)

theorem clash_outer {ops : List Oper} {masks : List Nat} {tr0 tr0' : List Trc} (h0 : TrLe tr0 tr0') : ∀ {tr tr' : List Trc} {i : Nat}, TrLe tr tr' → clashM.outer ops masks tr0 tr i = true → clashOk.outer ops masks tr0' tr' i = true
  | [], _, i, .nil, q => by unfold clashOk.outer; rfl
  | _ :: tr, _ :: tr', i, .cons (look := look) g1 g2 g3 g4, q => by
    unfold clashM.outer at q
    unfold clashOk.outer
    rw [Bool.and_eq_true] at q ⊢
    refine ⟨?_, clash_outer h0 g4 q.2⟩
    have q := q.1
    cases look with
    | nil => rfl
    | cons x l => exact clash_inner g3 h0 q

theorem region_to {cal : Cal} (hcal : ∀ f args h v h', cal f args h = some (v, h') → CallsTo C f args h v h') {ops : List Oper} {draw : Bool} {e e1 : Env} {h h1 : Heap} (q : regionM C cal ops draw e h = some (e1, h1)) :
    ∀ k, Hle h k → ∃ k1, Hle h1 k1 ∧ ∃ m, ∀ N, m ≤ N → regionA C (call C N) ops draw e k = some (e1, k1) := by
  intro k hk
  cases draw with
  | false => exact seq_to hcal q k hk
  | true =>
    simp only [regionM, cond_true] at q
    cases ht : traceA C cal ops ops e h with
    | none => rw [ht] at q; cases q
    | some r =>
      obtain ⟨e2, h2, tr⟩ := r
      rw [ht] at q
      dsimp only at q
      cases hc : (drawOk ops && clashM ops (masksFrom [] ops) tr) with
      | false => rw [hc] at q; cases q
      | true =>
        rw [hc] at q
        cases q
        rw [Bool.and_eq_true] at hc
        obtain ⟨k1, tr', g1, g2, m, g3⟩ := trace_to hcal ht k hk
        refine ⟨k1, g1, m, fun N hN => ?_⟩
        have hcl : clashOk ops (masksFrom [] ops) tr' = true := by
          unfold clashOk
          have := hc.2
          unfold clashM at this
          exact clash_outer g2 g2 this
        simp only [regionA, cond_true, g3 N hN, hc.1, hcl, Bool.and_self]

theorem body_to (hnf : C.fact = fun _ => none) {exe : Exe} (hexe : ∀ c e h x e' h', exe c e h = some (x, e', h') → ExecTo C c e h x e' h') {f : FuncId} {args : List Value} {h h' : Heap} {v : Value} (q : callBody C exe f args h = some (v, h')) : CallsTo C f args h v h' := by
  intro k hk
  unfold callBody at q
  rw [hnf] at q
  dsimp only at q
  cases hf : C.func f with
  | none => rw [hf] at q; cases q
  | some fn =>
    rw [hf] at q
    dsimp only at q
    cases hb : fn.body with
    | none => rw [hb] at q; cases q
    | some c =>
      rw [hb] at q
      dsimp only at q
      cases hx : exe c (envOf fn.ntmps args) h with
      | none => rw [hx] at q; cases q
      | some r =>
        obtain ⟨x, e, h1⟩ := r
        rw [hx] at q
        have key : (match resultsA C e h1 fn.results.toList with | some vs => some (tupleA vs, h1) | none => none) = some (v, h') ∧ ∀ i, x ≠ .exit i := by
          cases x with
          | exit i => cases q
          | normal => exact ⟨q, fun _ h => (by cases h)⟩
          | ret => exact ⟨q, fun _ h => (by cases h)⟩
        obtain ⟨q, hne⟩ := key
        cases hr : resultsA C e h1 fn.results.toList with
        | none => rw [hr] at q; cases q
        | some vs =>
          rw [hr] at q
          cases q
          obtain ⟨k1, g1, m, g2⟩ := hexe _ _ _ _ _ _ hx k hk
          refine ⟨k1, g1, m, fun N hN => ?_⟩
          unfold call callBody
          rw [hnf]
          dsimp only
          rw [hf]
          dsimp only
          rw [hb]
          dsimp only
          rw [g2 N hN]
          have := results_le g1 hr
          cases x with
          | exit i => exact absurd rfl (hne i)
          | normal => dsimp only; rw [this]
          | ret => dsimp only; rw [this]

theorem call1_to (hnf : C.fact = fun _ => none) (hms : ∀ m ∈ ms, m.Ok C) {exe : Exe} (hexe : ∀ c e h x e' h', exe c e h = some (x, e', h') → ExecTo C c e h x e' h') (f : FuncId) (args : List Value) (h : Heap) (v : Value) (h' : Heap) (q : callM1 C ms exe f args h = some (v, h')) : CallsTo C f args h v h' := by
  unfold callM1 at q
  cases hm : ms.find? fun m => m.hits f args h with
  | none => rw [hm] at q; exact body_to hnf hexe q
  | some m =>
    rw [hm] at q
    cases q
    have hh : m.hits f args h = true := by have := List.find?_some hm; exact this
    obtain ⟨rfl, rfl, hl1, hl2⟩ := KnownC.hits_le hh
    intro k hk
    exact hms m (List.mem_of_find?_eq_some hm) k ⟨hl1.trans hk.next, fun i b hb => hk.get i b (hl2 i b hb), hk.wf⟩

theorem exec_succ (N : Nat) : exec C (N + 1) = codeBody C (exec C N) := rfl

theorem exec_to (hnf : C.fact = fun _ => none) (hms : ∀ m ∈ ms, m.Ok C) : ∀ (n : Nat) (c : Code) (e : Env) (h : Heap) (x : Ex) (e' : Env) (h' : Heap), execM C ms n c e h = some (x, e', h') → ExecTo C c e h x e' h'
  | 0, c, e, h, x, e', h', q => by cases q
  | n + 1, c, e, h, x, e', h', q => by
    have ih := exec_to hnf hms n
    have q : codeM1 C ms (execM C ms n) c e h = some (x, e', h') := q
    intro k hk
    have up : ∀ {k' : Heap} {r : Option (Ex × Env × Heap)}, (∃ m, ∀ N, m ≤ N → codeBody C (exec C N) c e k = r) → ∃ m, ∀ N, m ≤ N → exec C N c e k = r := fun {k' r} ⟨m, hm⟩ => ⟨m + 1, fun N hN => by
      obtain ⟨N, rfl⟩ : ∃ N', N = N' + 1 := ⟨N - 1, by omega⟩
      rw [exec_succ]; exact hm N zo⟩
    cases c with
    | region id ops draw =>
      simp only [codeM1] at q
      cases hr : regionM C (callM1 C ms (execM C ms n)) ops.toList draw e h with
      | none => rw [hr] at q; cases q
      | some r =>
        obtain ⟨e1, h1⟩ := r
        rw [hr] at q
        cases q
        obtain ⟨k1, g1, m, g2⟩ := region_to (call1_to hnf hms ih) hr k hk
        refine ⟨k1, g1, up (k' := k1) ⟨m, fun N hN => ?_⟩⟩
        show (match regionA C (call C N) ops.toList draw e k with | some (e, h) => some (Ex.normal, e, h) | none => none) = _
        rw [g2 N hN]
    | skip => cases q; exact ⟨k, hk, up (k' := k) ⟨0, fun N _ => rfl⟩⟩
    | exit id => cases q; exact ⟨k, hk, up (k' := k) ⟨0, fun N _ => rfl⟩⟩
    | ret => cases q; exact ⟨k, hk, up (k' := k) ⟨0, fun N _ => rfl⟩⟩
    | seq a b =>
      simp only [codeM1, codeBody] at q
      cases ha : execM C ms n a e h with
      | none => rw [ha] at q; cases q
      | some r =>
        obtain ⟨y, e1, h1⟩ := r
        rw [ha] at q
        obtain ⟨k1, g1, m, g2⟩ := ih _ _ _ _ _ _ ha k hk
        cases y with
        | normal =>
          obtain ⟨k2, g3, m2, g4⟩ := ih _ _ _ _ _ _ q k1 g1
          refine ⟨k2, g3, up (k' := k2) ⟨max m m2, fun N hN => ?_⟩⟩
          simp only [codeBody, g2 N zo]
          exact g4 N zo
        | exit id =>
          cases q
          exact ⟨k1, g1, up (k' := k1) ⟨m, fun N hN => by simp only [codeBody, g2 N hN]⟩⟩
        | ret =>
          cases q
          exact ⟨k1, g1, up (k' := k1) ⟨m, fun N hN => by simp only [codeBody, g2 N hN]⟩⟩
    | cond y a b =>
      simp only [codeM1, codeBody] at q
      split at q
      · rename_i hy
        obtain ⟨k1, g1, m, g2⟩ := ih _ _ _ _ _ _ q k hk
        exact ⟨k1, g1, up (k' := k1) ⟨m, fun N hN => by simp only [codeBody, hy, g2 N hN]⟩⟩
      · rename_i hy
        obtain ⟨k1, g1, m, g2⟩ := ih _ _ _ _ _ _ q k hk
        exact ⟨k1, g1, up (k' := k1) ⟨m, fun N hN => by simp only [codeBody, hy, g2 N hN]⟩⟩
      · cases q
    | block id a =>
      simp only [codeM1, codeBody] at q
      cases ha : execM C ms n a e h with
      | none => rw [ha] at q; cases q
      | some r =>
        obtain ⟨y, e1, h1⟩ := r
        rw [ha] at q
        obtain ⟨k1, g1, m, g2⟩ := ih _ _ _ _ _ _ ha k hk
        cases y <;>
        · cases q
          exact ⟨k1, g1, up (k' := k1) ⟨m, fun N hN => by simp only [codeBody, g2 N hN]⟩⟩
    | loop a =>
      simp only [codeM1, codeBody] at q
      cases ha : execM C ms n a e h with
      | none => rw [ha] at q; cases q
      | some r =>
        obtain ⟨y, e1, h1⟩ := r
        rw [ha] at q
        obtain ⟨k1, g1, m, g2⟩ := ih _ _ _ _ _ _ ha k hk
        cases y with
        | normal =>
          obtain ⟨k2, g3, m2, g4⟩ := ih _ _ _ _ _ _ q k1 g1
          refine ⟨k2, g3, up (k' := k2) ⟨max m m2, fun N hN => ?_⟩⟩
          simp only [codeBody, g2 N zo]
          exact g4 N zo
        | exit id =>
          cases q
          exact ⟨k1, g1, up (k' := k1) ⟨m, fun N hN => by simp only [codeBody, g2 N hN]⟩⟩
        | ret =>
          cases q
          exact ⟨k1, g1, up (k' := k1) ⟨m, fun N hN => by simp only [codeBody, g2 N hN]⟩⟩
    | _ => cases q

/-- An entry, from a run with earlier entries. -/
def memoRun (C : Ctx) (ms : List KnownC) (n : Nat) (m : KnownC) : Bool := match callM C ms n m.f m.args (heapOf m.next m.pre) with
  | some (v, h) => sameVs [v] [m.v] && Nat.beq h.next m.next2 && m.post.all fun p => sameB (h.get p.1) (some p.2)
  | none => false

theorem memo_ok (hnf : C.fact = fun _ => none) (hms : ∀ m ∈ ms, m.Ok C) {n : Nat} {m : KnownC} (q : memoRun C ms n m = true) : m.Ok C := by
  unfold memoRun at q
  cases hc : callM C ms n m.f m.args (heapOf m.next m.pre) with
  | none => rw [hc] at q; cases q
  | some r =>
    obtain ⟨v, h⟩ := r
    rw [hc] at q
    simp only [Bool.and_eq_true] at q
    obtain ⟨⟨q1, q2⟩, q3⟩ := q
    have e1 := List.cons.inj (sameVs_eq q1)
    intro k hk
    obtain ⟨k', g1, g2⟩ := body_to hnf (exec_to hnf hms n) hc k hk
    exact ⟨k', ⟨(Nat.eq_of_beq_eq_true q2).symm.trans g1.next, fun i b hb => g1.get i b (sameB_eq (List.all_eq_true.1 q3 _ (tabsT_mem m.post i b hb))), g1.wf⟩, by rw [← e1.1]; exact g2⟩

/-- A closed run, from a run with entries. -/
theorem fact_memo (hnf : C.fact = fun _ => none) (hms : ∀ m ∈ ms, m.Ok C) {n f : Nat} {tabs : List (Nat × Blk)} (q1 : (tabs.all fun p => Nat.blt p.1 C.globs && wordB p.2) = true)
    (q : (match callM C ms n f [] ⟨C.globs, tabsT tabs⟩ with | some (v, _) => sameVs [v] [.bool true] | none => false) = true) : ∃ N, factRun C N f tabs = true := by
  cases hc : callM C ms n f [] ⟨C.globs, tabsT tabs⟩ with
  | none => rw [hc] at q; cases q
  | some r =>
    obtain ⟨v, h⟩ := r
    rw [hc] at q
    have e1 := (List.cons.inj (sameVs_eq q)).1
    subst e1
    have hwf : ∀ i, C.globs ≤ i → (⟨C.globs, tabsT tabs⟩ : Heap).get i = none := fun i hi => by
      cases hg : (⟨C.globs, tabsT tabs⟩ : Heap).get i with
      | none => rfl
      | some b =>
        have := List.all_eq_true.1 q1 _ (tabsT_mem tabs i b hg)
        rw [Bool.and_eq_true] at this
        have := Nat.le_of_ble_eq_true this.1
        omega
    obtain ⟨k', _, m, g2⟩ := body_to hnf (exec_to hnf hms n) hc _ ⟨rfl, fun _ _ q => q, hwf⟩
    refine ⟨m, ?_⟩
    unfold factRun yields
    rw [q1, g2 m (Nat.le_refl _)]
    rfl
end
end Go.Proofs.D

set_option linter.unusedVariables false
set_option maxRecDepth 100000
open Go Go.Abs Go.Proofs
namespace Go.Proofs.D

/-! ### the closed run of explains, in pieces: some calls are run apart -/
noncomputable def C0 : Ctx := ctxOf Tryz.prog mask 3
def tab0 : Nat × Blk := (0, .cells true (tab32.map fun x : Nat => Value.int .u8 (x : Int)))
def known0 : KnownC := ⟨33, [.agg ⟨[.int .i64 1, .int .i64 1, .int .i64 0, .slice (some ⟨94, 0, none⟩) 2 2]⟩, .int .i64 1], 95, [tab0, (90, .cells false [.bool true]), (92, .cells false [.bool false, .int .i64 0, .bool false, .int .i64 0]), (93, .cells false [.bool true, .int .i64 0]), (94, .cells false [.int .i64 0, .slice (some ⟨92, 0, none⟩) 2 2, .int .i64 0, .slice (some ⟨93, 0, none⟩) 1 2])], .tuple ⟨[.slice (some ⟨1111, 0, none⟩) 1 5, .int .i64 0]⟩, 1112, [tab0, (90, .cells false [.bool true]), (92, .cells false [.bool false, .int .i64 0, .bool false, .int .i64 0]), (93, .cells false [.bool true, .int .i64 0]), (94, .cells false [.int .i64 0, .slice (some ⟨92, 0, none⟩) 2 2, .int .i64 0, .slice (some ⟨93, 0, none⟩) 1 2]), (908, .cells false [.int .i64 1, .int .i64 1, .int .i64 2, .int .i64 0]), (1109, .cells false [.int .i64 0, .int .i64 0]), (1111, .cells false [.int .i64 3, .int .i64 0, .slice (some ⟨908, 0, none⟩) 2 2, .slice (some ⟨1109, 0, none⟩) 2 1, .bool true])]⟩
theorem known0_ok : known0.Ok C0 := memo_ok rfl (ms := []) (fun m h => by cases h) (n := 100000) (by decide +kernel)
def known1 : KnownC := ⟨25, [.agg ⟨[.int .i64 1, .int .i64 1, .int .i64 0, .slice (some ⟨1115, 0, none⟩) 2 2]⟩, .slice (some ⟨1342, 0, none⟩) 2 1], 1402, [tab0, (90, .cells false [.bool true]), (908, .cells false [.int .i64 1, .int .i64 1, .int .i64 2, .int .i64 0]), (1109, .cells false [.int .i64 0, .int .i64 0]), (1111, .cells false [.int .i64 3, .int .i64 0, .slice (some ⟨908, 0, none⟩) 2 2, .slice (some ⟨1109, 0, none⟩) 2 1, .bool true]), (1113, .cells false [.bool false, .int .i64 0, .bool false, .int .i64 0]), (1114, .cells false [.bool true, .int .i64 0]), (1115, .cells false [.int .i64 0, .slice (some ⟨1113, 0, none⟩) 2 2, .int .i64 0, .slice (some ⟨1114, 0, none⟩) 1 2]), (1116, .cells false [.int .i64 1, .int .i64 1, .int .i64 0, .slice (some ⟨1115, 0, none⟩) 2 2]), (1137, .cells false [.func (.func 65) ⟨[]⟩ ⟨[.pointer (some ⟨1116, 0, none⟩), .pointer (some ⟨1137, 0, none⟩)]⟩]), (1342, .cells false [.int .i64 0, .int .i64 0])], .tuple ⟨[.int .i64 1, .int .i64 0]⟩, 1676, [tab0, (90, .cells false [.bool true]), (908, .cells false [.int .i64 1, .int .i64 1, .int .i64 2, .int .i64 0]), (1109, .cells false [.int .i64 0, .int .i64 0]), (1111, .cells false [.int .i64 3, .int .i64 0, .slice (some ⟨908, 0, none⟩) 2 2, .slice (some ⟨1109, 0, none⟩) 2 1, .bool true]), (1113, .cells false [.bool false, .int .i64 0, .bool false, .int .i64 0]), (1114, .cells false [.bool true, .int .i64 0]), (1115, .cells false [.int .i64 0, .slice (some ⟨1113, 0, none⟩) 2 2, .int .i64 0, .slice (some ⟨1114, 0, none⟩) 1 2]), (1116, .cells false [.int .i64 1, .int .i64 1, .int .i64 0, .slice (some ⟨1115, 0, none⟩) 2 2]), (1137, .cells false [.func (.func 65) ⟨[]⟩ ⟨[.pointer (some ⟨1116, 0, none⟩), .pointer (some ⟨1137, 0, none⟩)]⟩]), (1342, .cells false [.int .i64 0, .int .i64 0]), (1402, .cells false [.int .i64 1, .int .i64 1, .int .i64 0, .slice (some ⟨1115, 0, none⟩) 2 2])]⟩
theorem known1_ok : known1.Ok C0 := memo_ok rfl (ms := []) (fun m h => by cases h) (n := 100000) (by decide +kernel)
def known2 : KnownC := ⟨53, [.agg ⟨[.int .i64 1, .int .i64 1, .int .i64 0, .slice (some ⟨1115, 0, none⟩) 2 2]⟩, .slice (some ⟨1687, 0, none⟩) 3 1], 1793, [tab0, (90, .cells false [.bool true]), (908, .cells false [.int .i64 1, .int .i64 1, .int .i64 2, .int .i64 0]), (1109, .cells false [.int .i64 0, .int .i64 0]), (1111, .cells false [.int .i64 3, .int .i64 0, .slice (some ⟨908, 0, none⟩) 2 2, .slice (some ⟨1109, 0, none⟩) 2 1, .bool true]), (1113, .cells false [.bool false, .int .i64 0, .bool false, .int .i64 0]), (1114, .cells false [.bool true, .int .i64 0]), (1115, .cells false [.int .i64 0, .slice (some ⟨1113, 0, none⟩) 2 2, .int .i64 0, .slice (some ⟨1114, 0, none⟩) 1 2]), (1116, .cells false [.int .i64 1, .int .i64 1, .int .i64 0, .slice (some ⟨1115, 0, none⟩) 2 2]), (1137, .cells false [.func (.func 65) ⟨[]⟩ ⟨[.pointer (some ⟨1116, 0, none⟩), .pointer (some ⟨1137, 0, none⟩)]⟩]), (1402, .cells false [.int .i64 1, .int .i64 1, .int .i64 0, .slice (some ⟨1115, 0, none⟩) 2 2]), (1687, .cells false [.int .i64 0, .int .i64 0, .int .i64 0]), (1770, .cells false [.int .i64 1, .int .i64 1, .int .i64 0, .slice (some ⟨1115, 0, none⟩) 2 2])], .agg ⟨[.slice (some ⟨2306, 0, none⟩) 9 5, .int .i64 3]⟩, 2308, [tab0, (90, .cells false [.bool true]), (908, .cells false [.int .i64 1, .int .i64 1, .int .i64 2, .int .i64 0]), (1109, .cells false [.int .i64 0, .int .i64 0]), (1111, .cells false [.int .i64 3, .int .i64 0, .slice (some ⟨908, 0, none⟩) 2 2, .slice (some ⟨1109, 0, none⟩) 2 1, .bool true]), (1113, .cells false [.bool false, .int .i64 0, .bool false, .int .i64 0]), (1114, .cells false [.bool true, .int .i64 0]), (1115, .cells false [.int .i64 0, .slice (some ⟨1113, 0, none⟩) 2 2, .int .i64 0, .slice (some ⟨1114, 0, none⟩) 1 2]), (1116, .cells false [.int .i64 1, .int .i64 1, .int .i64 0, .slice (some ⟨1115, 0, none⟩) 2 2]), (1137, .cells false [.func (.func 65) ⟨[]⟩ ⟨[.pointer (some ⟨1116, 0, none⟩), .pointer (some ⟨1137, 0, none⟩)]⟩]), (1402, .cells false [.int .i64 1, .int .i64 1, .int .i64 0, .slice (some ⟨1115, 0, none⟩) 2 2]), (1687, .cells false [.int .i64 0, .int .i64 0, .int .i64 0]), (1770, .cells false [.int .i64 1, .int .i64 1, .int .i64 0, .slice (some ⟨1115, 0, none⟩) 2 2]), (2217, .cells false [.int .i64 0]), (2219, .cells false [.int .i64 1, .slice (some ⟨2217, 0, none⟩) 1 1]), (2231, .cells false [.int .i64 1, .int .i64 5]), (2233, .cells false [.int .i64 0, .slice (some ⟨2231, 0, none⟩) 2 1]), (2245, .cells false [.int .i64 1, .int .i64 6]), (2255, .cells false [.int .i64 2, .int .i64 8]), (2257, .cells false [.int .i64 0, .slice (some ⟨2245, 0, none⟩) 2 1, .int .i64 0, .slice (some ⟨2255, 0, none⟩) 2 1]), (2273, .cells false [.int .i64 4]), (2275, .cells false [.int .i64 1, .slice (some ⟨2273, 0, none⟩) 1 1]), (2287, .cells false [.int .i64 5, .int .i64 8]), (2289, .cells false [.int .i64 0, .slice (some ⟨2287, 0, none⟩) 2 1]), (2302, .cells false [.int .i64 7]), (2304, .cells false [.int .i64 1, .slice (some ⟨2302, 0, none⟩) 1 1]), (2306, .cells false [.bool true, .int .i64 0, .int .i64 0, .int .i64 1, .slice none 0 0, .bool false, .int .i64 0, .int .i64 0, .int .i64 1, .slice (some ⟨2219, 0, none⟩) 1 2, .bool false, .int .i64 0, .int .i64 0, .int .i64 2, .slice (some ⟨2233, 0, none⟩) 1 2, .bool false, .int .i64 0, .int .i64 0, .int .i64 3, .slice (some ⟨2257, 0, none⟩) 2 2, .bool true, .int .i64 0, .int .i64 1, .int .i64 2, .slice none 0 0, .bool false, .int .i64 0, .int .i64 1, .int .i64 2, .slice (some ⟨2275, 0, none⟩) 1 2, .bool false, .int .i64 0, .int .i64 1, .int .i64 3, .slice (some ⟨2289, 0, none⟩) 1 2, .bool true, .int .i64 0, .int .i64 2, .int .i64 3, .slice none 0 0, .bool false, .int .i64 0, .int .i64 2, .int .i64 3, .slice (some ⟨2304, 0, none⟩) 1 2])]⟩
theorem known2_ok : known2.Ok C0 := memo_ok rfl (ms := []) (fun m h => by cases h) (n := 100000) (by decide +kernel)
def known3 : KnownC := ⟨25, [.agg ⟨[.int .i64 1, .int .i64 1, .int .i64 0, .slice (some ⟨1115, 0, none⟩) 2 2]⟩, .slice (some ⟨1687, 0, none⟩) 3 1], 1770, [tab0, (90, .cells false [.bool true]), (908, .cells false [.int .i64 1, .int .i64 1, .int .i64 2, .int .i64 0]), (1109, .cells false [.int .i64 0, .int .i64 0]), (1111, .cells false [.int .i64 3, .int .i64 0, .slice (some ⟨908, 0, none⟩) 2 2, .slice (some ⟨1109, 0, none⟩) 2 1, .bool true]), (1113, .cells false [.bool false, .int .i64 0, .bool false, .int .i64 0]), (1114, .cells false [.bool true, .int .i64 0]), (1115, .cells false [.int .i64 0, .slice (some ⟨1113, 0, none⟩) 2 2, .int .i64 0, .slice (some ⟨1114, 0, none⟩) 1 2]), (1116, .cells false [.int .i64 1, .int .i64 1, .int .i64 0, .slice (some ⟨1115, 0, none⟩) 2 2]), (1137, .cells false [.func (.func 65) ⟨[]⟩ ⟨[.pointer (some ⟨1116, 0, none⟩), .pointer (some ⟨1137, 0, none⟩)]⟩]), (1402, .cells false [.int .i64 1, .int .i64 1, .int .i64 0, .slice (some ⟨1115, 0, none⟩) 2 2]), (1687, .cells false [.int .i64 0, .int .i64 0, .int .i64 0])], .tuple ⟨[.int .i64 2, .int .i64 0]⟩, 2330, [tab0, (90, .cells false [.bool true]), (908, .cells false [.int .i64 1, .int .i64 1, .int .i64 2, .int .i64 0]), (1109, .cells false [.int .i64 0, .int .i64 0]), (1111, .cells false [.int .i64 3, .int .i64 0, .slice (some ⟨908, 0, none⟩) 2 2, .slice (some ⟨1109, 0, none⟩) 2 1, .bool true]), (1113, .cells false [.bool false, .int .i64 0, .bool false, .int .i64 0]), (1114, .cells false [.bool true, .int .i64 0]), (1115, .cells false [.int .i64 0, .slice (some ⟨1113, 0, none⟩) 2 2, .int .i64 0, .slice (some ⟨1114, 0, none⟩) 1 2]), (1116, .cells false [.int .i64 1, .int .i64 1, .int .i64 0, .slice (some ⟨1115, 0, none⟩) 2 2]), (1137, .cells false [.func (.func 65) ⟨[]⟩ ⟨[.pointer (some ⟨1116, 0, none⟩), .pointer (some ⟨1137, 0, none⟩)]⟩]), (1402, .cells false [.int .i64 1, .int .i64 1, .int .i64 0, .slice (some ⟨1115, 0, none⟩) 2 2]), (1687, .cells false [.int .i64 0, .int .i64 0, .int .i64 0]), (1770, .cells false [.int .i64 1, .int .i64 1, .int .i64 0, .slice (some ⟨1115, 0, none⟩) 2 2])]⟩
theorem known3_ok : known3.Ok C0 := memo_ok rfl (ms := [known2]) (fun m h => by rw [List.mem_singleton.1 h]; exact known2_ok) (n := 100000) (by decide +kernel)
def known4 : KnownC := ⟨53, [.agg ⟨[.int .i64 1, .int .i64 1, .int .i64 0, .slice (some ⟨1115, 0, none⟩) 2 2]⟩, .slice (some ⟨1687, 0, none⟩) 3 1], 2353, [tab0, (90, .cells false [.bool true]), (908, .cells false [.int .i64 1, .int .i64 1, .int .i64 2, .int .i64 0]), (1109, .cells false [.int .i64 0, .int .i64 0]), (1111, .cells false [.int .i64 3, .int .i64 0, .slice (some ⟨908, 0, none⟩) 2 2, .slice (some ⟨1109, 0, none⟩) 2 1, .bool true]), (1113, .cells false [.bool false, .int .i64 0, .bool false, .int .i64 0]), (1114, .cells false [.bool true, .int .i64 0]), (1115, .cells false [.int .i64 0, .slice (some ⟨1113, 0, none⟩) 2 2, .int .i64 0, .slice (some ⟨1114, 0, none⟩) 1 2]), (1116, .cells false [.int .i64 1, .int .i64 1, .int .i64 0, .slice (some ⟨1115, 0, none⟩) 2 2]), (1137, .cells false [.func (.func 65) ⟨[]⟩ ⟨[.pointer (some ⟨1116, 0, none⟩), .pointer (some ⟨1137, 0, none⟩)]⟩]), (1402, .cells false [.int .i64 1, .int .i64 1, .int .i64 0, .slice (some ⟨1115, 0, none⟩) 2 2]), (1687, .cells false [.int .i64 0, .int .i64 0, .int .i64 0]), (1770, .cells false [.int .i64 1, .int .i64 1, .int .i64 0, .slice (some ⟨1115, 0, none⟩) 2 2]), (2330, .cells false [.int .i64 1, .int .i64 1, .int .i64 0, .slice (some ⟨1115, 0, none⟩) 2 2])], .agg ⟨[.slice (some ⟨2866, 0, none⟩) 9 5, .int .i64 3]⟩, 2868, [tab0, (90, .cells false [.bool true]), (908, .cells false [.int .i64 1, .int .i64 1, .int .i64 2, .int .i64 0]), (1109, .cells false [.int .i64 0, .int .i64 0]), (1111, .cells false [.int .i64 3, .int .i64 0, .slice (some ⟨908, 0, none⟩) 2 2, .slice (some ⟨1109, 0, none⟩) 2 1, .bool true]), (1113, .cells false [.bool false, .int .i64 0, .bool false, .int .i64 0]), (1114, .cells false [.bool true, .int .i64 0]), (1115, .cells false [.int .i64 0, .slice (some ⟨1113, 0, none⟩) 2 2, .int .i64 0, .slice (some ⟨1114, 0, none⟩) 1 2]), (1116, .cells false [.int .i64 1, .int .i64 1, .int .i64 0, .slice (some ⟨1115, 0, none⟩) 2 2]), (1137, .cells false [.func (.func 65) ⟨[]⟩ ⟨[.pointer (some ⟨1116, 0, none⟩), .pointer (some ⟨1137, 0, none⟩)]⟩]), (1402, .cells false [.int .i64 1, .int .i64 1, .int .i64 0, .slice (some ⟨1115, 0, none⟩) 2 2]), (1687, .cells false [.int .i64 0, .int .i64 0, .int .i64 0]), (1770, .cells false [.int .i64 1, .int .i64 1, .int .i64 0, .slice (some ⟨1115, 0, none⟩) 2 2]), (2330, .cells false [.int .i64 1, .int .i64 1, .int .i64 0, .slice (some ⟨1115, 0, none⟩) 2 2]), (2777, .cells false [.int .i64 0]), (2779, .cells false [.int .i64 1, .slice (some ⟨2777, 0, none⟩) 1 1]), (2791, .cells false [.int .i64 1, .int .i64 5]), (2793, .cells false [.int .i64 0, .slice (some ⟨2791, 0, none⟩) 2 1]), (2805, .cells false [.int .i64 1, .int .i64 6]), (2815, .cells false [.int .i64 2, .int .i64 8]), (2817, .cells false [.int .i64 0, .slice (some ⟨2805, 0, none⟩) 2 1, .int .i64 0, .slice (some ⟨2815, 0, none⟩) 2 1]), (2833, .cells false [.int .i64 4]), (2835, .cells false [.int .i64 1, .slice (some ⟨2833, 0, none⟩) 1 1]), (2847, .cells false [.int .i64 5, .int .i64 8]), (2849, .cells false [.int .i64 0, .slice (some ⟨2847, 0, none⟩) 2 1]), (2862, .cells false [.int .i64 7]), (2864, .cells false [.int .i64 1, .slice (some ⟨2862, 0, none⟩) 1 1]), (2866, .cells false [.bool true, .int .i64 0, .int .i64 0, .int .i64 1, .slice none 0 0, .bool false, .int .i64 0, .int .i64 0, .int .i64 1, .slice (some ⟨2779, 0, none⟩) 1 2, .bool false, .int .i64 0, .int .i64 0, .int .i64 2, .slice (some ⟨2793, 0, none⟩) 1 2, .bool false, .int .i64 0, .int .i64 0, .int .i64 3, .slice (some ⟨2817, 0, none⟩) 2 2, .bool true, .int .i64 0, .int .i64 1, .int .i64 2, .slice none 0 0, .bool false, .int .i64 0, .int .i64 1, .int .i64 2, .slice (some ⟨2835, 0, none⟩) 1 2, .bool false, .int .i64 0, .int .i64 1, .int .i64 3, .slice (some ⟨2849, 0, none⟩) 1 2, .bool true, .int .i64 0, .int .i64 2, .int .i64 3, .slice none 0 0, .bool false, .int .i64 0, .int .i64 2, .int .i64 3, .slice (some ⟨2864, 0, none⟩) 1 2])]⟩
theorem known4_ok : known4.Ok C0 := memo_ok rfl (ms := []) (fun m h => by cases h) (n := 100000) (by decide +kernel)
def known5 : KnownC := ⟨67, [.agg ⟨[.int .i64 1, .int .i64 1, .int .i64 0, .slice (some ⟨1115, 0, none⟩) 2 2]⟩, .slice (some ⟨1687, 0, none⟩) 3 1, .int .i64 2], 2330, [tab0, (90, .cells false [.bool true]), (908, .cells false [.int .i64 1, .int .i64 1, .int .i64 2, .int .i64 0]), (1109, .cells false [.int .i64 0, .int .i64 0]), (1111, .cells false [.int .i64 3, .int .i64 0, .slice (some ⟨908, 0, none⟩) 2 2, .slice (some ⟨1109, 0, none⟩) 2 1, .bool true]), (1113, .cells false [.bool false, .int .i64 0, .bool false, .int .i64 0]), (1114, .cells false [.bool true, .int .i64 0]), (1115, .cells false [.int .i64 0, .slice (some ⟨1113, 0, none⟩) 2 2, .int .i64 0, .slice (some ⟨1114, 0, none⟩) 1 2]), (1116, .cells false [.int .i64 1, .int .i64 1, .int .i64 0, .slice (some ⟨1115, 0, none⟩) 2 2]), (1137, .cells false [.func (.func 65) ⟨[]⟩ ⟨[.pointer (some ⟨1116, 0, none⟩), .pointer (some ⟨1137, 0, none⟩)]⟩]), (1402, .cells false [.int .i64 1, .int .i64 1, .int .i64 0, .slice (some ⟨1115, 0, none⟩) 2 2]), (1687, .cells false [.int .i64 0, .int .i64 0, .int .i64 0]), (1770, .cells false [.int .i64 1, .int .i64 1, .int .i64 0, .slice (some ⟨1115, 0, none⟩) 2 2])], .tuple ⟨[.slice (some ⟨3276, 0, none⟩) 2 3, .int .i64 0]⟩, 3277, [tab0, (90, .cells false [.bool true]), (908, .cells false [.int .i64 1, .int .i64 1, .int .i64 2, .int .i64 0]), (1109, .cells false [.int .i64 0, .int .i64 0]), (1111, .cells false [.int .i64 3, .int .i64 0, .slice (some ⟨908, 0, none⟩) 2 2, .slice (some ⟨1109, 0, none⟩) 2 1, .bool true]), (1113, .cells false [.bool false, .int .i64 0, .bool false, .int .i64 0]), (1114, .cells false [.bool true, .int .i64 0]), (1115, .cells false [.int .i64 0, .slice (some ⟨1113, 0, none⟩) 2 2, .int .i64 0, .slice (some ⟨1114, 0, none⟩) 1 2]), (1116, .cells false [.int .i64 1, .int .i64 1, .int .i64 0, .slice (some ⟨1115, 0, none⟩) 2 2]), (1137, .cells false [.func (.func 65) ⟨[]⟩ ⟨[.pointer (some ⟨1116, 0, none⟩), .pointer (some ⟨1137, 0, none⟩)]⟩]), (1402, .cells false [.int .i64 1, .int .i64 1, .int .i64 0, .slice (some ⟨1115, 0, none⟩) 2 2]), (1687, .cells false [.int .i64 0, .int .i64 0, .int .i64 0]), (1770, .cells false [.int .i64 1, .int .i64 1, .int .i64 0, .slice (some ⟨1115, 0, none⟩) 2 2]), (2330, .cells false [.int .i64 1, .int .i64 1, .int .i64 0, .slice (some ⟨1115, 0, none⟩) 2 2]), (3222, .cells false [.int .i64 (-1), .int .i64 0, .slice none 0 0]), (3230, .cells false [.int .i64 (-1), .int .i64 0, .slice none 0 0]), (3232, .cells false [.int .i64 1, .int .i64 0, .slice (some ⟨3222, 0, none⟩) 1 3, .int .i64 1, .int .i64 0, .slice (some ⟨3230, 0, none⟩) 1 3]), (3240, .cells false [.int .i64 (-1), .int .i64 0, .slice none 0 0]), (3242, .cells false [.int .i64 0, .int .i64 0, .slice (some ⟨3232, 0, none⟩) 2 3, .int .i64 1, .int .i64 0, .slice (some ⟨3240, 0, none⟩) 1 3]), (3252, .cells false [.int .i64 (-1), .int .i64 0, .slice none 0 0]), (3262, .cells false [.int .i64 (-1), .int .i64 0, .slice none 0 0]), (3270, .cells false [.int .i64 (-1), .int .i64 0, .slice none 0 0]), (3272, .cells false [.int .i64 1, .int .i64 0, .slice (some ⟨3262, 0, none⟩) 1 3, .int .i64 1, .int .i64 0, .slice (some ⟨3270, 0, none⟩) 1 3]), (3274, .cells false [.int .i64 1, .int .i64 0, .slice (some ⟨3252, 0, none⟩) 1 3, .int .i64 0, .int .i64 0, .slice (some ⟨3272, 0, none⟩) 2 3]), (3276, .cells false [.int .i64 0, .int .i64 0, .slice (some ⟨3242, 0, none⟩) 2 3, .int .i64 0, .int .i64 0, .slice (some ⟨3274, 0, none⟩) 2 3])]⟩
theorem known5_ok : known5.Ok C0 := memo_ok rfl (ms := [known4]) (fun m h => by rw [List.mem_singleton.1 h]; exact known4_ok) (n := 100000) (by decide +kernel)
theorem run_explains : ∃ N, factRun C0 N 12 tabs = true := by
  refine fact_memo rfl (ms := [known0, known1, known2, known3, known4, known5]) (fun m h => ?_) (n := 100000) (by decide +kernel) (by decide +kernel)
  simp only [List.mem_cons, List.not_mem_nil, or_false] at h
  rcases h with rfl | rfl | rfl | rfl | rfl | rfl
  · exact known0_ok
  · exact known1_ok
  · exact known2_ok
  · exact known3_ok
  · exact known4_ok
  · exact known5_ok
end Go.Proofs.D

