/-
  Walks: what functions of the program do, over the abstract machine.
-/
import Derived.Test.YtfnleneclialjaaDoorWk1
set_option linter.unusedVariables false
set_option maxRecDepth 20000
set_option maxHeartbeats 0
open Go Go.Abs Go.Proofs Go.Proofs.D
namespace Go.Proofs.D

/-! ### trees of a grammar, counted -/
def listT (f : Sym → Nat → Nat → Nat) : List Sym → Nat → Nat → Nat
  | [], i, j => if i = j then 1 else 0
  | s :: l, i, j => ((List.range (j + 1)).map fun m => f s i m * listT f l m j).sum

/-- How many trees of a depth a symbol has over a part of a word. -/
def symT (g : Gram) (w : List Nat) : Nat → Sym → Nat → Nat → Nat
  | 0, _, _, _ => 0
  | d + 1, s, i, j => if s.term = true then (if w[i]? = some s.n ∧ j = i + 1 then 1 else 0)
      else (g.rules.map fun r => if r.left = s.n then listT (symT g w d) r.right i j else 0).sum

theorem sum_zero {l : List Nat} (h : ∀ x ∈ l, x = 0) : l.sum = 0 := by
  induction l with
  | nil => rfl
  | cons a l ih => rw [List.sum_cons, h a (List.mem_cons_self ..), ih fun x hx => h x (List.mem_cons_of_mem _ hx)]

theorem sum_pos {l : List Nat} (h : 1 ≤ l.sum) : ∃ x ∈ l, 1 ≤ x := by
  induction l with
  | nil => simp at h
  | cons a l ih =>
    by_cases ha : 1 ≤ a
    · exact ⟨a, List.mem_cons_self .., ha⟩
    · rw [List.sum_cons] at h
      obtain ⟨x, hx, h2⟩ := ih (by omega)
      exact ⟨x, List.mem_cons_of_mem _ hx, h2⟩

theorem listT_pos {g : Gram} {w : List Nat} {f : Sym → Nat → Nat → Nat} (hf : ∀ s i j, 1 ≤ f s i j → Der g w s i j) : ∀ {l : List Sym} {i j : Nat}, 1 ≤ listT f l i j → Ders g w l i j
  | [], i, j, h => by
    unfold listT at h
    split at h
    · rename_i e; subst e; exact .nil
    · omega
  | s :: l, i, j, h => by
    unfold listT at h
    obtain ⟨x, hx, h2⟩ := sum_pos h
    obtain ⟨m, _, rfl⟩ := List.mem_map.1 hx
    have h3 : 1 ≤ f s i m := by
      rcases Nat.eq_zero_or_pos (f s i m) with e | e
      · rw [e, Nat.zero_mul] at h2; omega
      · exact e
    have h4 : 1 ≤ listT f l m j := by
      rcases Nat.eq_zero_or_pos (listT f l m j) with e | e
      · rw [e, Nat.mul_zero] at h2; omega
      · exact e
    exact .cons (hf s i m h3) (listT_pos hf h4)

theorem symT_der {g : Gram} {w : List Nat} : ∀ {d : Nat} {s : Sym} {i j : Nat}, 1 ≤ symT g w d s i j → Der g w s i j
  | 0, s, i, j, h => absurd h (by simp [symT])
  | d + 1, s, i, j, h => by
    obtain ⟨st, sn⟩ := s
    unfold symT at h
    cases st with
    | true =>
      simp only [if_true] at h
      split at h
      · rename_i e
        obtain ⟨e1, rfl⟩ := e
        exact .term e1
      · omega
    | false =>
      simp only [Bool.false_eq_true, if_false] at h
      obtain ⟨x, hx, h2⟩ := sum_pos h
      obtain ⟨r, hr, rfl⟩ := List.mem_map.1 hx
      split at h2
      · rename_i e
        subst e
        exact .non hr (listT_pos (fun s i j h => symT_der h) h2)
      · omega

theorem listT_mono {f h : Sym → Nat → Nat → Nat} (hf : ∀ s i j, f s i j ≤ h s i j) : ∀ (l : List Sym) (i j : Nat), listT f l i j ≤ listT h l i j
  | [], i, j => Nat.le_refl _
  | s :: l, i, j => sumN_le _ fun m _ => Nat.mul_le_mul (hf s i m) (listT_mono hf l m j)

theorem symT_mono (g : Gram) (w : List Nat) : ∀ (d : Nat) (s : Sym) (i j : Nat), symT g w d s i j ≤ symT g w (d + 1) s i j
  | 0, s, i, j => Nat.zero_le _
  | d + 1, s, i, j => by
    show symT g w (d + 1) s i j ≤ symT g w (d + 1 + 1) s i j
    unfold symT
    split
    · exact Nat.le_refl _
    · refine sumN_le _ fun r _ => ?_
      split
      · exact listT_mono (fun s i j => symT_mono g w d s i j) _ _ _
      · exact Nat.le_refl _

theorem symT_le (g : Gram) (w : List Nat) {d e : Nat} (h : d ≤ e) (s : Sym) (i j : Nat) : symT g w d s i j ≤ symT g w e s i j := by
  induction e with
  | zero => obtain rfl : d = 0 := by omega
            exact Nat.le_refl _
  | succ e ih =>
    rcases Nat.lt_or_ge d (e + 1) with h2 | h2
    · exact Nat.le_trans (ih (by omega)) (symT_mono g w e s i j)
    · obtain rfl : d = e + 1 := by omega
      exact Nat.le_refl _

theorem der_symT {g : Gram} {w : List Nat} {s : Sym} {i j : Nat} (h : Der g w s i j) : ∃ d, 1 ≤ symT g w d s i j := by
  refine Der.rec (motive_1 := fun s i j _ => ∃ d, 1 ≤ symT g w d s i j) (motive_2 := fun l i j _ => ∃ d, 1 ≤ listT (symT g w d) l i j) ?_ ?_ ?_ ?_ h
  · intro t i h
    exact ⟨1, by unfold symT; simp [h]⟩
  · intro r i j hr _ ih
    obtain ⟨d, hd⟩ := ih
    refine ⟨d + 1, ?_⟩
    unfold symT
    simp only [Bool.false_eq_true, if_false]
    refine Nat.le_trans ?_ (sumN_mem (f := fun r' : Rule => if r'.left = r.left then listT (symT g w d) r'.right i j else 0) hr)
    simpa using hd
  · intro i; exact ⟨0, by simp [listT]⟩
  · intro s l i m j h1 h2 ih1 ih2
    obtain ⟨d1, h3⟩ := ih1
    obtain ⟨d2, h4⟩ := ih2
    have hmj := ders_le h2
    refine ⟨max d1 d2, ?_⟩
    unfold listT
    refine Nat.le_trans ?_ (sumN_mem (f := fun m => symT g w (max d1 d2) s i m * listT (symT g w (max d1 d2)) l m j) (List.mem_range.2 (show m < j + 1 by omega)))
    exact Nat.mul_le_mul (Nat.le_trans h3 (symT_le g w (by omega) s i m)) (Nat.le_trans h4 (listT_mono (fun s i j => symT_le g w (by omega) s i j) l m j))

/-! ### a forest's nodes have as many trees as the grammar says -/
theorem sum_flat {α β : Type} (f : α → List β) (h : β → Nat) : ∀ l : List α, ((l.flatMap f).map h).sum = (l.map fun a => ((f a).map h).sum).sum
  | [] => rfl
  | a :: l => by rw [List.flatMap_cons, List.map_append, List.sum_append, List.map_cons, List.sum_cons, sum_flat f h l]

theorem splits_sum {w : List Nat} {E : List (List Nat)} {to : Nat} {f : Sym → Nat → Nat → Nat} (hf : ∀ s i m, stepB w E s i m = false → i ≤ w.length → m ≤ to → f s i m = 0) (hto : to ≤ w.length) : ∀ (l : List Sym) (i : Nat), i ≤ w.length →
    ((splits w E to l i).map fun ks => prodN (ks.map fun q => f q.sym q.frm q.to)).sum = listT f l i to
  | [], i, hi => by
    unfold splits listT
    split <;> simp [prodN]
  | s :: l, i, hi => by
    unfold splits listT
    rw [sum_flat]
    congr 1
    apply List.map_congr_left
    intro m hm
    have hm := List.mem_range.1 hm
    split
    · rw [List.map_map, ← splits_sum hf hto l m (by omega)]
      clear hf
      generalize splits w E to l m = L
      induction L with
      | nil => simp
      | cons a L ih =>
        simp only [List.map_cons, List.sum_cons, Function.comp_apply, prodN, Nat.mul_add]
        simp only [Function.comp_def] at ih
        rw [← ih]
        simp [Function.comp_def, prodN]
    · rename_i h
      rw [hf s i m (by simpa using h) hi (by omega)]
      simp

theorem rules_sum {α : Type} (h : α → Nat) (f : Nat → Rule → List α) : ∀ (rs : List Rule) (k : Nat), (((List.range rs.length).flatMap fun i => match rs[i]? with | some r => f (k + i) r | none => []).map h).sum = (rs.zipIdx k |>.map fun p => ((f p.2 p.1).map h).sum).sum
  | [], k => by simp
  | r :: rs, k => by
    have ih := rules_sum h f rs (k + 1)
    rw [List.length_cons, List.range_succ_eq_map, List.flatMap_cons, List.map_append, List.sum_append, List.zipIdx_cons, List.map_cons, List.sum_cons, ← ih]
    simp only [List.getElem?_cons_zero, Nat.add_zero, List.flatMap_map]
    congr 4
    funext i
    simp only [List.getElem?_cons_succ, Nat.succ_eq_add_one]
    rw [show k + (i + 1) = k + 1 + i by omega]

theorem zip_sum {f : Rule → Nat} : ∀ (rs : List Rule) (k : Nat), (rs.zipIdx k |>.map fun p => f p.1).sum = (rs.map f).sum
  | [], k => by simp
  | r :: rs, k => by rw [List.zipIdx_cons, List.map_cons, List.map_cons, List.sum_cons, List.sum_cons, zip_sum rs (k + 1)]

/-- A key that the table of ends lets stand. -/
def StepK (w : List Nat) (E : List (List Nat)) (k : Key) : Prop := stepB w E k.sym k.frm k.to = true

theorem splits_step {w : List Nat} {E : List (List Nat)} {to : Nat} : ∀ {l : List Sym} {i : Nat} {ks : List Key}, ks ∈ splits w E to l i → ∀ q ∈ ks, StepK w E q
  | [], i, ks, h, q, hq => by
    unfold splits at h
    split at h
    · rw [List.mem_singleton.1 h] at hq; cases hq
    · cases h
  | s :: l, i, ks, h, q, hq => by
    unfold splits at h
    obtain ⟨m, _, hm⟩ := List.mem_flatMap.1 h
    split at hm
    · rename_i hs
      obtain ⟨ks', h2, rfl⟩ := List.mem_map.1 hm
      rcases List.mem_cons.1 hq with rfl | hq
      · exact hs
      · exact splits_step h2 q hq
    · cases hm

theorem Reachable.step {g : Gram} {w : List Nat} {E : List (List Nat)} {root k : Key} (h : Reachable g w E root k) (hr : StepK w E root) : StepK w E k := by
  cases h with
  | root => exact hr
  | kid _ hp hq =>
    obtain ⟨r, _, _, _, h3⟩ := mem_packsOf.1 hp
    exact splits_step h3 _ hq

theorem step_der {g : Gram} {w : List Nat} {E : List (List Nat)} (hE : EndsOf g w E) {s : Sym} {i j : Nat} (hi : i ≤ w.length) : stepB w E s i j = true ↔ Der g w s i j := by
  rw [stepB_iff]
  unfold Step
  obtain ⟨b, n⟩ := s
  cases b with
  | true => simp only [if_true]; rw [der_term]
  | false =>
    simp only [Bool.false_eq_true, if_false]
    exact hE.iff n i j hi

theorem packs_sum {g : Gram} {w : List Nat} {E : List (List Nat)} {k : Key} (hk : k.sym.term = false) {f : Sym → Nat → Nat → Nat} (hf : ∀ s i m, stepB w E s i m = false → i ≤ w.length → m ≤ k.to → f s i m = 0) (hi : k.frm ≤ w.length) (hto : k.to ≤ w.length) :
    ((packsOf g w E k).map fun p => prodN (p.kids.map fun q => f q.sym q.frm q.to)).sum = (g.rules.map fun r => if r.left = k.sym.n then listT f r.right k.frm k.to else 0).sum := by
  have e : packsOf g w E k = (List.range g.rules.length).flatMap fun i => match g.rules[i]? with | some r => (if r.left = k.sym.n ∧ k.sym.term = false then (splits w E k.to r.right k.frm).map (KPack.mk (0 + i)) else []) | none => [] := by
    unfold packsOf
    congr 1
    funext i
    unfold packsAt
    rw [Nat.zero_add]
    cases g.rules[i]? <;> rfl
  rw [e]
  refine (rules_sum (fun p : KPack => prodN (p.kids.map fun q => f q.sym q.frm q.to)) (fun i r => if r.left = k.sym.n ∧ k.sym.term = false then (splits w E k.to r.right k.frm).map (KPack.mk i) else []) g.rules 0).trans ?_
  rw [← zip_sum g.rules 0]
  congr 1
  apply List.map_congr_left
  intro p _
  by_cases h : p.1.left = k.sym.n
  · rw [if_pos ⟨h, hk⟩, if_pos h, ← splits_sum hf hto p.1.right k.frm hi, List.map_map]
    rfl
  · rw [if_neg (fun h2 => h h2.1), if_neg h]; rfl

theorem node_sym {g : Gram} (hg : Valid g) {w : List Nat} {E : List (List Nat)} (hE : EndsOf g w E) {root : Key} {S : List Key} (hK : Keys g w E root S) (hroot : GoodKey g w root) (hrs : StepK w E root) :
    ∀ (d : Nat) (k : Key), k ∈ S → nodeT (S.map (mkNode g w E S)) d (place S k) = symT g w d k.sym k.frm k.to
  | 0, k, _ => rfl
  | d + 1, k, hk => by
    have hgood := (hK.reach k hk).good hg hroot
    have hstep := (hK.reach k hk).step hrs
    have hat : (S.map (mkNode g w E S))[place S k]? = some (mkNode g w E S k) := by rw [List.getElem?_map, place_at hk]; rfl
    have hsum : ((mkNode g w E S k).packs.map (packN (nodeT (S.map (mkNode g w E S)) d))).sum = ((packsOf g w E k).map fun p => prodN (p.kids.map fun q => symT g w d q.sym q.frm q.to)).sum := by
      unfold mkNode
      simp only
      rw [List.map_map]
      congr 1
      apply List.map_congr_left
      intro p hp
      simp only [Function.comp_apply, packN, numPack, List.map_map]
      congr 1
      apply List.map_congr_left
      intro q hq
      exact node_sym hg hE hK hroot hrs d q (hK.closed k hk p hp q hq)
    rw [nodeT, hat]
    simp only
    rw [hsum, symT]
    unfold leafN
    cases ht : k.sym.term with
    | true =>
      have hno : packsOf g w E k = [] := by
        rw [List.eq_nil_iff_forall_not_mem]
        intro p hp
        obtain ⟨_, _, _, h3, _⟩ := mem_packsOf.1 hp
        rw [ht] at h3; cases h3
      have h2 := (stepB_iff.1 hstep)
      unfold Step at h2
      rw [if_pos ht] at h2
      rw [hno]
      simp [mkNode, ht, h2]
    | false =>
      rw [packs_sum ht (fun s i m h1 h2 _ => ?_) hgood.2.1 hgood.2.2]
      · simp [mkNode, ht]
      · rcases Nat.eq_zero_or_pos (symT g w d s i m) with e | e
        · exact e
        · have := (step_der hE h2).2 (symT_der e)
          rw [h1] at this; cases this

theorem nodes_prod {g : Gram} (hg : Valid g) {w : List Nat} {E : List (List Nat)} (hE : EndsOf g w E) {root : Key} {S : List Key} (hK : Keys g w E root S) (hroot : GoodKey g w root) (hrs : StepK w E root) : Prod (S.map (mkNode g w E S)) := by
  intro v hv
  rw [List.length_map] at hv
  obtain ⟨k, hk⟩ : ∃ k, S[v]? = some k := ⟨_, List.getElem?_eq_getElem hv⟩
  have hkm := List.mem_of_getElem? hk
  have hgood := (hK.reach k hkm).good hg hroot
  obtain ⟨d, hd⟩ := der_symT ((step_der hE hgood.2.1).1 ((hK.reach k hkm).step hrs))
  refine ⟨d, ?_⟩
  rw [← place_of hK.nodup hk, node_sym hg hE hK hroot hrs d k hkm]
  exact hd

theorem nodes_ok {g : Gram} (hg : Valid g) {w : List Nat} (hw : w.length ≤ 12) {E : List (List Nat)} {root : Key} {S : List Key} (hK : Keys g w E root S) (hroot : GoodKey g w root) : FOk (S.map (mkNode g w E S)) where
  few := by
    rw [List.length_map]
    exact Nat.le_trans (good_few hg (by omega) (fun k hk => (hK.reach k hk).good hg hroot) hK.nodup) (by decide)
  packs := fun x hx => by
    obtain ⟨k, hk, rfl⟩ := List.mem_map.1 hx
    have hgood := (hK.reach k hk).good hg hroot
    have := packsOf_len12 hg (E := E) (w := w) (show k.to ≤ 12 by have := hgood.2.2; omega)
    unfold mkNode
    rw [List.length_map]; omega
  kid := fun u v h => by
    obtain ⟨x, p, hx, hp, hu⟩ := h
    rw [List.getElem?_map] at hx
    cases hk : S[v]? with
    | none => rw [hk] at hx; cases hx
    | some k =>
      rw [hk] at hx
      obtain rfl := Option.some.inj hx
      obtain ⟨p', hp', rfl⟩ := List.mem_map.1 hp
      obtain ⟨q, hq, rfl⟩ := List.mem_map.1 hu
      have := hK.closed k (List.mem_of_getElem? hk) p' hp' q hq
      rw [List.length_map]
      exact List.idxOf_lt_length_of_mem this
end Go.Proofs.D

set_option linter.unusedVariables false
set_option maxRecDepth 20000
set_option maxHeartbeats 0
open Go Go.Abs Go.Proofs Go.Proofs.D
namespace Go.Proofs.D

theorem packSum_le12 {g : Gram} (hg : Valid g) {w : List Nat} {E : List (List Nat)} : ∀ (L : List Key), (∀ k ∈ L, k.to ≤ 12) → packSum g w E L ≤ L.length * 913952
  | [], _ => by simp [packSum]
  | k :: L, h => by
    have h1 := packSum_le12 hg (E := E) (w := w) L fun k hk => h k (List.mem_cons_of_mem _ hk)
    have h2 := packsOf_len12 hg (E := E) (w := w) (h k (List.mem_cons_self ..))
    unfold packSum at h1 ⊢
    rw [List.map_cons, List.sum_cons, List.length_cons, Nat.add_mul, Nat.one_mul]
    omega

def rootKey (g : Gram) (w : List Nat) : Key := ⟨⟨false, g.start⟩, 0, w.length⟩

theorem root_good {g : Gram} (hg : Valid g) (w : List Nat) : GoodKey g w (rootKey g w) := ⟨by unfold SymOk rootKey; simpa using hg.range.start, Nat.zero_le _, Nat.le_refl _⟩

/-- The forest over a table of ends. -/
def ForestV (g : Gram) (w : List Nat) (E : List (List Nat)) (F : Frz) (v : Value) : Prop :=
  (stepB w E ⟨false, g.start⟩ 0 w.length = false ∧ v = .agg ⟨[.slice none 0 0, .int .i64 (-1)]⟩) ∨
  (stepB w E ⟨false, g.start⟩ 0 w.length = true ∧ ∃ S a n c, v = .agg ⟨[.slice a n c, .int .i64 (place S (rootKey g w) : Nat)]⟩ ∧ Keys g w E (rootKey g w) S ∧ Arr tNode F a n c (S.map (mkNode g w E S)))

theorem ForestV.mono {g : Gram} {w : List Nat} {E : List (List Nat)} {F G : Frz} {v : Value} (h : ForestV g w E F v) (hF : Frz.le F G) : ForestV g w E G v := by
  rcases h with h | ⟨h1, S, a, n, c, h2, h3, h4⟩
  · exact .inl h
  · exact .inr ⟨h1, S, a, n, c, h2, h3, h4.mono hF⟩

theorem few_packs {g : Gram} (hg : Valid g) {w : List Nat} (hw : w.length ≤ 12) {E : List (List Nat)} {L : List Key} (hn : L.Nodup) (hr : ∀ k ∈ L, Reachable g w E (rootKey g w) k) : packSum g w E L ≤ 200000 * 913952 := by
  have hgood : ∀ k ∈ L, GoodKey g w k := fun k hk => (hr k hk).good hg (root_good hg w)
  refine Nat.le_trans (packSum_le12 hg L fun k hk => by have := (hgood k hk).2.2; omega) ?_
  exact Nat.mul_le_mul_right _ (good_few hg (by omega) hgood hn)

theorem countNone_spec (F : Frz) : Abs.Spec CC 66 [.agg ⟨[.slice none 0 0, .int .i64 (-1)]⟩] F [] fun F' r o => o = [] ∧ r = .int .i64 0 := by
  refine Abs.Spec.fn (n := 28) Tryd.func66 rfl rfl fun own => ?_
  refine AW.seq (AW.reg ?_)
  refine WT.boxT zr zr zr zr zr zr (fun i1 hi1 => ?_)
  refine ze hT zr zr zr zr zr ?_; refine WT.nil ?_; (iterate 2 refine AW.seq ?_); refine AW.reg ?_; refine ze hT zr zr zr zr zr ?_; refine zl hT 0 zr zr zr zr zr zr me zr ?_; refine ze hT zr zr zr zr zr ?_; refine WT.nil ?_
  refine AW.cond rfl (fun _ => ?_) (fun h => (by cases h))
  refine AW.seq ?_; refine AW.reg ?_; refine ze hT zr zr zr zr zr ?_; refine WT.nil ?_
  exact AW.ret ⟨_, [], ⟨_, _, rfl, rfl, rfl⟩, (by repeat (first | exact List.Sublist.refl _ | refine List.Sublist.cons _ ?_)), rfl, rfl⟩

theorem meanOf_spec (F : Frz) (hL : Laid F) (g : Gram) (hg : Valid g) {ga : Option Addr} {gm gc : Nat} (hr : Arr tRule F ga gm gc g.rules) {b : Option Addr} {n d : Nat} {w : List Nat} (hw : Arr tNat F b n d w) (hw12 : w.length ≤ 12) :
    Abs.Spec CC 67 [.agg ⟨gramCells g ga gm gc⟩, .slice b n d] F [] fun F' v o => o = [] ∧ ∃ E, EndsOf g w E ∧ ForestV g w E F' v := by
  unfold gramCells
  refine Abs.Spec.fn (n := 17) Tryd.func67 rfl rfl fun own => ?_
  refine AW.seq (AW.reg ?_)
  refine WT.boxT zr zr zr zr zr zr (fun i2 hi2 => ?_)
  refine WT.allocT hT zr zr zr zr zr zr (fun i4 hi4 => ?_)
  refine WT.nil ?_; refine AW.seq ?_
  refine AW.draw (ps := [(0, 4), (0, 9), (2, 9)]) rfl rfl ?_
  refine zl hT 1 zr zr zr zr zr zr me zr ?_; refine ze hT zr zr zr zr zr ?_; refine zl hT 1 zr zr zr zr zr zr me zr ?_; refine ze hT zr zr zr zr zr ?_
  refine WT.callF0 Tryd.func49 zr zr zr zr zr zr (ends_spec _ hL g hg hr hw (by omega)) (fun F1 v hF1 hv => ?_)
  obtain ⟨ea, ec, E, rfl, hE, hE2⟩ := hv
  have hEl := hE2.ok.size
  refine WT.callF0 Tryd.func70 zr zr zr zr zr zr (build_spec _ (hL.mono hF1) g hg (hr.mono hF1) (hw.mono hF1) hw12 hE hE2.ok 1099511627776 (by decide)) (fun F2 v hF2 hv => ?_)
  have hres : ∃ x, v = .tuple ⟨[.agg ⟨x⟩, .bool true]⟩ ∧ ForestV g w E F2 (.agg ⟨x⟩) ∧ ∃ a n c r, x = [.slice a n c, .int .i64 r] := by
    rcases hv with ⟨h1, rfl⟩ | ⟨h1, h2⟩
    · exact ⟨_, rfl, .inl ⟨h1, rfl⟩, _, _, _, _, rfl⟩
    · rcases h2 with ⟨S, a, n, c, rfl, hK, hA, _⟩ | ⟨_, L, h3, h4, h5⟩
      · exact ⟨_, rfl, .inr ⟨h1, S, a, n, c, rfl, hK, hA⟩, _, _, _, _, rfl⟩
      · have := few_packs hg hw12 h3 h4
        omega
  clear hv
  obtain ⟨x, rfl, hx, xa, xn, xc, xr, rfl⟩ := hres
  (iterate 3 refine ze hT zr zr zr zr zr ?_)
  refine WT.allocT hT zr zr zr zr zr zr (fun i5 hi5 => ?_)
  refine zs hT 0 0 zr zr zr zr zr zr zr zr zr zr zr zr ?_; refine ze hT zr zr zr zr zr ?_; refine WT.nil ?_
  refine ⟨(by repeat (first | exact trivial | refine recs_pair rfl rfl (by first | exact keep0 | exact keep1 (keeps_frz (by assumption)) | exact kp 0 0 me me | exact kp 1 1 me me | exact kp 2 2 me me | exact kp 3 3 me me | exact kp 4 4 me me | exact kp 5 5 me me | exact kp 6 6 me me | exact kp 0 1 me me | exact kp 1 2 me me | exact kp 2 3 me me | exact kp 3 4 me me | exact kp 4 5 me me | exact kp 5 6 me me | exact kp 6 7 me me) ?_)), ?_⟩
  refine AW.seq ?_; refine AW.reg ?_; refine zl hT 0 zr zr zr zr zr zr me zr ?_; refine zs hT 1 0 zr zr zr zr zr zr zr zr zr zr zr zr ?_; refine WT.nil ?_
  exact AW.ret ⟨_, [], ⟨_, _, ⟨_, rfl, fun G h0 s0 => loadA_cells (s0.has (p := 1) rfl (List.mem_cons_self ..)) (readT_ok hT rfl)⟩, rfl, rfl⟩, (by repeat (first | exact List.Sublist.refl _ | refine List.Sublist.cons _ ?_)), rfl, E, hE2, hx⟩

theorem still_zero {T : Nat → Nat} (h : ∀ d, T d = 0) : Still T 0 := ⟨0, fun d _ => h d⟩

theorem mcount_spec (F : Frz) (hL : Laid F) (g : Gram) (hg : Valid g) {ga : Option Addr} {gm gc : Nat} (hr : Arr tRule F ga gm gc g.rules) {b : Option Addr} {n d : Nat} {w : List Nat} (hw : Arr tNat F b n d w) (hw12 : w.length ≤ 12) (hw2 : ∀ t ∈ w, t < g.terms) :
    Abs.Spec CC 32 [.agg ⟨gramCells g ga gm gc⟩, .slice b n d] F [] fun F' v o => o = [] ∧ ∃ c, v = .tuple ⟨[.int .i64 c, .int .i64 0]⟩ ∧ CountVal (fun d => symT g w d ⟨false, g.start⟩ 0 w.length) c := by
  unfold gramCells
  refine Abs.Spec.fn (n := 17) Tryd.func32 rfl rfl fun own => ?_
  refine AW.seq (AW.reg ?_)
  refine WT.boxT zr zr zr zr zr zr (fun i2 hi2 => ?_)
  (iterate 2 refine ze hT zr zr zr zr zr ?_); refine WT.nil ?_; (iterate 2 refine AW.seq ?_); refine AW.reg ?_; refine zl hT 0 zr zr zr zr zr zr me zr ?_; refine ze hT zr zr zr zr zr ?_
  refine WT.callV Tryd.func65 zr zr zr zr zr zr (mcheck_spec _ g hg hr hw hw12 hw2) (fun v hv => ?_)
  subst hv
  refine ze hT zr zr zr zr zr ?_; refine WT.nil ?_; refine AW.seq ?_; refine AW.reg ?_; (iterate 2 refine ze hT zr zr zr zr zr ?_); refine WT.nil ?_
  refine AW.cond rfl (fun h => (by cases h)) (fun h => ?_)
  refine AW.skip ?_; refine AW.seq ?_; refine AW.reg ?_; refine zl hT 0 zr zr zr zr zr zr me zr ?_; refine ze hT zr zr zr zr zr ?_
  refine WT.callF0 Tryd.func67 zr zr zr zr zr zr (meanOf_spec _ hL g hg hr hw hw12) (fun F2 v hF2 hv => ?_)
  obtain ⟨E, hE, hv⟩ := hv
  rcases hv with ⟨h1, rfl⟩ | ⟨h1, S, a, n', c, rfl, hK, hA⟩
  · refine WT.callV Tryd.func66 zr zr zr zr zr zr (countNone_spec _) (fun v hv => ?_)
    subst hv
    (iterate 2 refine ze hT zr zr zr zr zr ?_); refine WT.nil ?_
    refine AW.ret ⟨_, [], ⟨_, _, rfl, ⟨_, _, rfl, rfl, rfl⟩, rfl⟩, (by repeat (first | exact List.Sublist.refl _ | refine List.Sublist.cons _ ?_)), rfl, 0, rfl, .inl ⟨0, still_zero fun d => ?_, rfl⟩⟩
    rcases Nat.eq_zero_or_pos (symT g w d ⟨false, g.start⟩ 0 w.length) with e | e
    · exact e
    · have := (step_der hE (Nat.zero_le _)).2 (symT_der e)
      rw [h1] at this; cases this
  · have hroot := root_good hg w
    have hrm := hK.first
    have hpl := place_at hrm
    have hlt := (List.getElem?_eq_some_iff.1 hpl).1
    refine WT.callV Tryd.func66 zr zr zr zr zr zr (count_spec _ (nodes_ok hg hw12 hK hroot) (nodes_prod hg hE hK hroot h1) hA (place S (rootKey g w)) (by rw [List.length_map]; exact hlt)) (fun v hv => ?_)
    obtain ⟨c', rfl, hc⟩ := hv
    (iterate 2 refine ze hT zr zr zr zr zr ?_); refine WT.nil ?_
    refine AW.ret ⟨_, [], ⟨_, _, rfl, ⟨_, _, rfl, rfl, rfl⟩, rfl⟩, (by repeat (first | exact List.Sublist.refl _ | refine List.Sublist.cons _ ?_)), rfl, c', rfl, ?_⟩
    have : (fun d => nodeT (S.map (mkNode g w E S)) d (place S (rootKey g w))) = fun d => symT g w d ⟨false, g.start⟩ 0 w.length := by
      funext d
      exact node_sym hg hE hK hroot h1 d _ hrm
    rw [this] at hc
    exact hc

/-! ### forest.Make, forest.Of -/
/-- A forest, or too many packs. -/
def MakeRes (g : Gram) (w : List Nat) (E : List (List Nat)) (F : Frz) (v : Value) : Prop :=
  (∃ s a n c r, s = .agg ⟨[.slice a n c, .int .i64 r]⟩ ∧ v = .tuple ⟨[s, .int .i64 0]⟩ ∧ ForestV g w E F s ∧ ∀ S, Keys g w E (rootKey g w) S → stepB w E ⟨false, g.start⟩ 0 w.length = true → packSum g w E S ≤ 20000) ∨
  (v = .tuple ⟨[.agg ⟨[.slice none 0 0, .int .i64 0]⟩, .int .i64 2]⟩ ∧ stepB w E ⟨false, g.start⟩ 0 w.length = true ∧ ∃ L : List Key, L.Nodup ∧ (∀ k ∈ L, Reachable g w E (rootKey g w) k) ∧ 20000 < packSum g w E L)

theorem keys_uniq {g : Gram} {w : List Nat} {E : List (List Nat)} {root : Key} {S S' : List Key} (h : Keys g w E root S) (h' : Keys g w E root S') : S = S' := by
  have hp : S.Perm S' := by
    rw [List.perm_ext_iff_of_nodup h.nodup h'.nodup]
    exact fun k => ⟨fun hk => h'.all (h.reach k hk), fun hk => h.all (h'.reach k hk)⟩
  refine List.Perm.eq_of_pairwise (le := fun x y => ltKey x y = true) (fun a b _ _ h1 h2 => ?_) h.sorted h'.sorted hp
  have := ltKey_swo.trans _ _ _ h1 h2
  rw [ltKey_swo.irrefl] at this; cases this

theorem make_spec (F : Frz) (hL : Laid F) (g : Gram) (hg : Valid g) {ga : Option Addr} {gm gc : Nat} (hr : Arr tRule F ga gm gc g.rules) {b : Option Addr} {n d : Nat} {w : List Nat} (hw : Arr tNat F b n d w) (hw12 : w.length ≤ 12)
    {a : Option Addr} {m c : Nat} {E : List (List Nat)} (hE : Arr (tList tU32) F a m c E) (hE2 : EndsOk g.nons w.length E) :
    Abs.Spec CC 48 [.agg ⟨gramCells g ga gm gc⟩, .slice b n d, .slice a m c] F [] fun F' v o => o = [] ∧ MakeRes g w E F' v := by
  unfold gramCells
  refine Abs.Spec.fn (n := 21) Tryd.func48 rfl rfl fun own => ?_
  refine AW.seq (AW.reg ?_)
  refine WT.boxT zr zr zr zr zr zr (fun i2 hi2 => ?_)
  refine WT.allocT hT zr zr zr zr zr zr (fun i4 hi4 => ?_)
  refine ze hT zr zr zr zr zr ?_; refine WT.nil ?_; refine AW.seq ?_; refine AW.reg ?_; refine zl hT 1 zr zr zr zr zr zr me zr ?_; (iterate 2 refine ze hT zr zr zr zr zr ?_)
  refine WT.callF0 Tryd.func70 zr zr zr zr zr zr (build_spec _ hL g hg hr hw hw12 hE hE2 20000 (by decide)) (fun F2 v hF2 hv => ?_)
  have hres : (∃ a n c r, v = .tuple ⟨[.agg ⟨[.slice a n c, .int .i64 r]⟩, .bool true]⟩ ∧ ForestV g w E F2 (.agg ⟨[.slice a n c, .int .i64 r]⟩) ∧ ∀ S, Keys g w E (rootKey g w) S → stepB w E ⟨false, g.start⟩ 0 w.length = true → packSum g w E S ≤ 20000) ∨
      (v = .tuple ⟨[.agg ⟨[.slice none 0 0, .int .i64 0]⟩, .bool false]⟩ ∧ stepB w E ⟨false, g.start⟩ 0 w.length = true ∧ ∃ L : List Key, L.Nodup ∧ (∀ k ∈ L, Reachable g w E (rootKey g w) k) ∧ 20000 < packSum g w E L) := by
    rcases hv with ⟨h1, rfl⟩ | ⟨h1, h2⟩
    · exact .inl ⟨_, _, _, _, rfl, .inl ⟨h1, rfl⟩, fun S _ h2 => by rw [h1] at h2; cases h2⟩
    · rcases h2 with ⟨S, a, n, c, rfl, hK, hA, hs⟩ | ⟨rfl, hL⟩
      · exact .inl ⟨_, _, _, _, rfl, .inr ⟨h1, S, a, n, c, rfl, hK, hA⟩, fun S' hS' _ => by rw [keys_uniq hS' hK]; exact hs⟩
      · exact .inr ⟨rfl, h1, hL⟩
  clear hv
  rcases hres with ⟨xa, xn, xc, xr, rfl, hx, hx2⟩ | ⟨rfl, hx, hx2⟩
  · (iterate 3 refine ze hT zr zr zr zr zr ?_)
    refine WT.allocT hT zr zr zr zr zr zr (fun i5 hi5 => ?_)
    refine zs hT 0 0 zr zr zr zr zr zr zr zr zr zr zr zr ?_; refine ze hT zr zr zr zr zr ?_; refine WT.nil ?_; (iterate 2 refine AW.seq ?_); refine AW.reg ?_; (iterate 2 refine ze hT zr zr zr zr zr ?_); refine WT.nil ?_
    refine AW.cond rfl (fun h => (by cases h)) (fun h => ?_)
    refine AW.skip ?_; refine AW.seq ?_; refine AW.reg ?_; refine zl hT 0 zr zr zr zr zr zr me zr ?_; refine zs hT 1 0 zr zr zr zr zr zr zr zr zr zr zr zr ?_; refine ze hT zr zr zr zr zr ?_; refine WT.nil ?_
    exact AW.ret ⟨_, [], ⟨_, _, ⟨_, rfl, fun G h0 s0 => loadA_cells (s0.has (p := 1) rfl (List.mem_cons_self ..)) (readT_ok hT rfl)⟩, ⟨_, _, rfl, rfl, rfl⟩, rfl⟩, (by repeat (first | exact List.Sublist.refl _ | refine List.Sublist.cons _ ?_)), rfl, .inl ⟨_, _, _, _, _, rfl, rfl, hx, hx2⟩⟩
  · (iterate 3 refine ze hT zr zr zr zr zr ?_)
    refine WT.allocT hT zr zr zr zr zr zr (fun i5 hi5 => ?_)
    refine zs hT 0 0 zr zr zr zr zr zr zr zr zr zr zr zr ?_; refine ze hT zr zr zr zr zr ?_; refine WT.nil ?_; (iterate 2 refine AW.seq ?_); refine AW.reg ?_; (iterate 2 refine ze hT zr zr zr zr zr ?_); refine WT.nil ?_
    refine AW.cond rfl (fun _ => ?_) (fun h => (by cases h))
    refine AW.seq ?_; refine AW.reg ?_; refine ze hT zr zr zr zr zr ?_; refine zs hT 1 0 zr zr zr zr zr zr zr zr zr zr zr zr ?_; refine ze hT zr zr zr zr zr ?_; refine WT.nil ?_
    exact AW.ret ⟨_, [], ⟨_, _, ⟨_, rfl, fun G h0 s0 => loadA_cells (s0.has (p := 1) rfl (List.mem_cons_self ..)) (readT_ok hT rfl)⟩, ⟨_, _, rfl, rfl, rfl⟩, rfl⟩, (by repeat (first | exact List.Sublist.refl _ | refine List.Sublist.cons _ ?_)), rfl, .inr ⟨rfl, hx, hx2⟩⟩

theorem forestOf_spec (F : Frz) (hL : Laid F) (g : Gram) (hg : Valid g) {ga : Option Addr} {gm gc : Nat} (hr : Arr tRule F ga gm gc g.rules) {b : Option Addr} {n d : Nat} {w : List Nat} (hw : Arr tNat F b n d w) (hw12 : w.length ≤ 12) (hw2 : ∀ t ∈ w, t < g.terms) :
    Abs.Spec CC 16 [.agg ⟨gramCells g ga gm gc⟩, .slice b n d] F [] fun F' v o => o = [] ∧ ∃ E, EndsOf g w E ∧ MakeRes g w E F' v := by
  unfold gramCells
  refine Abs.Spec.fn (n := 26) Tryd.func16 rfl rfl fun own => ?_
  refine AW.seq (AW.reg ?_)
  refine WT.boxT zr zr zr zr zr zr (fun i2 hi2 => ?_)
  refine WT.allocT hT zr zr zr zr zr zr (fun i4 hi4 => ?_)
  refine ze hT zr zr zr zr zr ?_; refine WT.nil ?_; (iterate 2 refine AW.seq ?_); refine AW.reg ?_; refine zl hT 1 zr zr zr zr zr zr me zr ?_; refine ze hT zr zr zr zr zr ?_
  refine WT.callV Tryd.func47 zr zr zr zr zr zr (accepts_spec _ hL g hg hr hw hw12 hw2) (fun v hv => ?_)
  subst hv
  (iterate 5 refine ze hT zr zr zr zr zr ?_); refine WT.nil ?_; refine AW.seq ?_; refine AW.reg ?_; (iterate 2 refine ze hT zr zr zr zr zr ?_); refine WT.nil ?_
  refine AW.cond rfl (fun h => (by cases h)) (fun h => ?_)
  refine AW.skip ?_; refine AW.seq ?_
  refine AW.draw (ps := [(0, 4)]) rfl rfl ?_
  refine zl hT 1 zr zr zr zr zr zr me zr ?_; refine ze hT zr zr zr zr zr ?_; refine zl hT 1 zr zr zr zr zr zr me zr ?_; refine ze hT zr zr zr zr zr ?_
  refine WT.callF0 Tryd.func49 zr zr zr zr zr zr (ends_spec _ hL g hg hr hw (by omega)) (fun F1 v hF1 hv => ?_)
  obtain ⟨ea, ec, E, rfl, hE, hE2⟩ := hv
  refine WT.callF0 Tryd.func48 zr zr zr zr zr zr (make_spec _ (hL.mono hF1) g hg (hr.mono hF1) (hw.mono hF1) hw12 hE hE2.ok) (fun F2 v hF2 hv => ?_)
  rcases hv with ⟨s, a, n', c, r, rfl, rfl, hx, hx2⟩ | ⟨rfl, hx, hx2⟩
  · (iterate 2 refine ze hT zr zr zr zr zr ?_); refine zs hT 0 0 zr zr zr zr zr zr zr zr zr zr zr zr ?_; refine ze hT zr zr zr zr zr ?_; refine WT.nil ?_
    refine ⟨(by repeat (first | exact trivial | refine recs_pair rfl rfl (by first | exact keep0 | exact keep1 (keeps_frz (by assumption)) | exact kp 0 0 me me | exact kp 1 1 me me | exact kp 2 2 me me | exact kp 3 3 me me | exact kp 4 4 me me | exact kp 5 5 me me | exact kp 6 6 me me | exact kp 0 1 me me | exact kp 1 2 me me | exact kp 2 3 me me | exact kp 3 4 me me | exact kp 4 5 me me | exact kp 5 6 me me | exact kp 6 7 me me) ?_)), ?_⟩
    exact AW.ret ⟨_, [], ⟨_, _, ⟨_, rfl, fun G h0 s0 => loadA_cells (s0.has (p := 0) rfl (List.mem_cons_self ..)) (readT_ok hT rfl)⟩, ⟨_, _, rfl, rfl, rfl⟩, rfl⟩, (by repeat (first | exact List.Sublist.refl _ | refine List.Sublist.cons _ ?_)), rfl, E, hE2, .inl ⟨_, _, _, _, _, rfl, rfl, hx, hx2⟩⟩
  · (iterate 2 refine ze hT zr zr zr zr zr ?_); refine zs hT 0 0 zr zr zr zr zr zr zr zr zr zr zr zr ?_; refine ze hT zr zr zr zr zr ?_; refine WT.nil ?_
    refine ⟨(by repeat (first | exact trivial | refine recs_pair rfl rfl (by first | exact keep0 | exact keep1 (keeps_frz (by assumption)) | exact kp 0 0 me me | exact kp 1 1 me me | exact kp 2 2 me me | exact kp 3 3 me me | exact kp 4 4 me me | exact kp 5 5 me me | exact kp 6 6 me me | exact kp 0 1 me me | exact kp 1 2 me me | exact kp 2 3 me me | exact kp 3 4 me me | exact kp 4 5 me me | exact kp 5 6 me me | exact kp 6 7 me me) ?_)), ?_⟩
    exact AW.ret ⟨_, [], ⟨_, _, ⟨_, rfl, fun G h0 s0 => loadA_cells (s0.has (p := 0) rfl (List.mem_cons_self ..)) (readT_ok hT rfl)⟩, ⟨_, _, rfl, rfl, rfl⟩, rfl⟩, (by repeat (first | exact List.Sublist.refl _ | refine List.Sublist.cons _ ?_)), rfl, E, hE2, .inr ⟨rfl, hx, hx2⟩⟩
end Go.Proofs.D

set_option linter.unusedVariables false
set_option maxRecDepth 20000
set_option maxHeartbeats 0
open Go Go.Abs Go.Proofs Go.Proofs.D
namespace Go.Proofs.D

structure CpS where
  j : Nat
  a : Option Addr
  c : Nat
  B : List (Nat × Blk)

theorem perm_cp3 {α : Type} (x a b c : α) (l : List α) : (x :: a :: b :: c :: l).Perm (a :: b :: c :: x :: l) := (List.perm_middle (l₁ := [a, b, c])).symm

theorem copyOf_spec (F : Frz) (g : Gram) {a : Option Addr} {m c : Nat} (hr : Arr tRule F a m c g.rules) (hm : m ≤ 1000000) (hrr : ∀ r ∈ g.rules, r.right.length ≤ 1000000) :
    Abs.Spec CC 30 [.agg ⟨gramCells g a m c⟩] F [] fun F' v o => ∃ B', o = [B'] ∧ ∃ a' c', v = .agg ⟨gramCells g a' m c'⟩ ∧ Bld tRule F' a' m c' B' g.rules := by
  unfold gramCells
  have hrl := hr.len
  refine Abs.Spec.fn (n := 28) Tryd.func30 rfl rfl fun own => ?_
  refine AW.seq (AW.reg ?_)
  refine WT.boxT zr zr zr zr zr zr (fun i1 hi1 => ?_)
  refine WT.allocT hT zr zr zr zr zr zr (fun i2 hi2 => ?_)
  refine WT.nil ?_; refine AW.seq ?_; refine AW.reg ?_; refine zl hT 1 zr zr zr zr zr zr me zr ?_
  refine WT.allocT hT zr zr zr zr zr zr (fun i3 hi3 => ?_)
  refine zs hT 0 0 zr zr zr zr zr zr zr zr zr zr zr zr ?_; refine WT.nil ?_; refine AW.seq ?_; refine AW.reg ?_; refine ze hT zr zr zr zr zr ?_; refine zs hT 0 0 zr zr zr zr zr zr zr zr zr zr zr zr ?_; refine WT.nil ?_; (iterate 2 refine AW.seq ?_); refine AW.reg ?_; refine ze hT zr zr zr zr zr ?_; refine zl hT 2 zr zr zr zr zr zr me zr ?_; (iterate 2 refine ze hT zr zr zr zr zr ?_); refine WT.nil ?_
  refine AW.range (S := CpS) (fun _ => []) (fun s => s.B :: [(i3, .cells false [.int .i64 g.terms, .int .i64 g.nons, .int .i64 g.start, .slice s.a (g.rules.take s.j).length s.c])] :: [(i2, .cells false [.int .i64 0, .int .i64 0, .int .i64 0, .slice none 0 0])] :: [(i1, .cells false [.int .i64 g.terms, .int .i64 g.nons, .int .i64 g.start, .slice a m c])] :: own)
    (fun j s G => s.j = j ∧ Bld tRule G s.a (g.rules.take s.j).length s.c s.B (g.rules.take s.j)) m ⟨0, none, 0, []⟩
    zr zr zr zr zr zr zr zr zr (by omega) rfl rfl (fun _ => rfl) (fun _ => rfl) (SubK.of_map rfl) (OwnLe.flat (List.Perm.refl _)) ⟨rfl, by simpa using Bld.nil_ _ _⟩ ?_ ?_
  · intro j s F1 hF1 hj hP
    obtain ⟨rfl, hb⟩ := hP
    have hr1 := hr.mono hF1
    refine AW.seq ?_; refine AW.reg ?_
    refine WT.idxL hT hr1 zr zr zr zr zr zr zr zr zr (by omega) (fun r hrj b off ro cs lx hb1 hp1 hrel => ?_)
    obtain ⟨ra, rn, rc, rfl, hra⟩ := hrel
    have hral := hra.len
    have hrn := hrr r (List.mem_of_getElem? hrj)
    refine zi (fo := 0) hT (by assumption) (by assumption) zr zr zr zr zr zr ?_
    refine WT.allocT hT zr zr zr zr zr zr (fun i5 hi5 => ?_)
    refine zs hT 0 0 zr zr zr zr zr zr zr zr zr zr zr zr ?_; refine WT.nil ?_
    refine AW.draw (ps := [(1, 6), (1, 8), (3, 6)]) rfl rfl ?_
    refine ze hT zr zr zr zr zr ?_; refine zl hT 2 zr zr zr zr zr zr me zr ?_; refine ze hT zr zr zr zr zr ?_; refine zl hT 0 zr zr zr zr zr zr me zr ?_; refine ze hT zr zr zr zr zr ?_; refine zl hT 0 zr zr zr zr zr zr me zr ?_
    refine WT.callN Tryd.func62 zr zr zr zr zr zr (symClone_spec _ hra (by omega)) (fun F2 v B2 hF2 hv => ?_)
    obtain ⟨ca, cc, rfl, hcv⟩ := hv
    refine WT.freezeAll 0 rfl rfl (fun F3 hF3 hB3 => ?_)
    have hca := hcv.arr hF3 hB3
    have hb3 := (hb.mono hF2).mono hF3
    refine ze hT zr zr zr zr zr ?_
    refine WT.buildT hT zr zr zr zr zr zr zr zr zr zr zr zr zr zr (fun i9 hi9 => ?_)
    have hlt : (g.rules.take s.j).length ≤ 1000000 := by simp; omega
    refine WT.appendT (ys := [r]) hT 3 hb3 rfl (fun _ => rfl) zr zr zr zr zr zr zr zr zr zr zr (fun h0 s0 => news_own hT s0 0 zr zr zr zr) (Cells.single (R := tRule) (x := r) ⟨_, _, _, rfl, hca⟩) rfl (by decide) (by first | omega | (dsimp only at *; omega)) (fun a3 c3 B3 hB3 => ?_)
    have he : g.rules.take (s.j + 1) = g.rules.take s.j ++ [r] := by rw [List.take_add_one, hrj]; rfl
    have hl2 : (g.rules.take (s.j + 1)).length = (g.rules.take s.j).length + 1 := by rw [he]; simp
    rw [← he, ← hl2] at hB3
    rw [← hl2]
    refine ze hT zr zr zr zr zr ?_; refine zs hT 4 0 zr zr zr zr zr zr zr zr zr zr zr zr ?_; refine WT.nil ?_
    refine ⟨(by repeat (first | exact trivial | refine recs_pair rfl rfl (by first | exact keep0 | exact keep1 (keeps_frz (by assumption)) | exact kp 0 0 me me | exact kp 1 1 me me | exact kp 2 2 me me | exact kp 3 3 me me | exact kp 4 4 me me | exact kp 5 5 me me | exact kp 6 6 me me | exact kp 0 1 me me | exact kp 1 2 me me | exact kp 2 3 me me | exact kp 3 4 me me | exact kp 4 5 me me | exact kp 5 6 me me | exact kp 6 7 me me) ?_)), ?_⟩
    exact ⟨⟨s.j + 1, a3, c3, B3⟩, SubK.of_map rfl, (by repeat (first | exact OwnLe.refl _ | refine OwnLe.skip _ ?_)), rfl, hB3⟩
  · intro s F1 hF1 hP
    obtain ⟨rfl, hb⟩ := hP
    rw [List.take_of_length_le (by omega), ← hrl] at hb
    rw [List.take_of_length_le (by omega), ← hrl]
    refine AW.seq ?_; refine AW.reg ?_; refine zl hT 1 zr zr zr zr zr zr me zr ?_; refine zs hT 2 0 zr zr zr zr zr zr zr zr zr zr zr zr ?_; refine WT.nil ?_
    refine AW.perm (perm_cp3 _ _ _ _ _) ?_
    refine AW.ret ⟨_, [_], ⟨_, _, ⟨_, rfl, fun G h0 s0 => loadA_cells (s0.has (p := 1) rfl (List.mem_cons_self ..)) (readT_ok hT rfl)⟩, rfl, rfl⟩, (by repeat (first | exact List.Sublist.refl _ | refine List.Sublist.cons _ ?_)), _, rfl, _, _, rfl, ?_⟩
    exact hb


/-! ### trees of a part -/
theorem sum_congr {α : Type} {f h : α → Nat} {l : List α} (e : ∀ x ∈ l, f x = h x) : (l.map f).sum = (l.map h).sum := by
  congr 1
  exact List.map_congr_left e

theorem sum_shift (f : Nat → Nat) (a : Nat) : ∀ n, (∀ m, m < a → f m = 0) → ((List.range (a + n)).map f).sum = ((List.range n).map fun m => f (a + m)).sum
  | 0, h => by
    rw [Nat.add_zero]
    exact sum_zero fun x hx => by
      obtain ⟨m, hm, rfl⟩ := List.mem_map.1 hx
      exact h m (List.mem_range.1 hm)
  | n + 1, h => by
    rw [show a + (n + 1) = (a + n) + 1 by omega, List.range_succ, List.range_succ, List.map_append, List.map_append, List.sum_append, List.sum_append, sum_shift f a n h]
    simp

theorem listT_part {f h : Sym → Nat → Nat → Nat} {a : Nat} (hz : ∀ s i m, m < i → h s i m = 0) : ∀ (l : List Sym) (i j : Nat), (∀ s ∈ l, ∀ i m, m ≤ j → f s i m = h s (a + i) (a + m)) → listT f l i j = listT h l (a + i) (a + j)
  | [], i, j, _ => by
    unfold listT
    by_cases e : i = j
    · subst e; simp
    · rw [if_neg e, if_neg (by omega)]
  | s :: l, i, j, hf => by
    unfold listT
    rw [show a + j + 1 = a + (j + 1) by omega, sum_shift _ a (j + 1) fun m hm => by rw [hz s (a + i) m (by omega), Nat.zero_mul]]
    refine sum_congr fun m hm => ?_
    have hm := List.mem_range.1 hm
    rw [hf s (List.mem_cons_self ..) i m (by omega), listT_part hz l m j fun s hs i m hm => hf s (List.mem_cons_of_mem _ hs) i m hm]

theorem symT_lt {g : Gram} {w : List Nat} {d : Nat} {s : Sym} {i j : Nat} (h : j < i) : symT g w d s i j = 0 := by
  rcases Nat.eq_zero_or_pos (symT g w d s i j) with e | e
  · exact e
  · have := der_le (symT_der e)
    omega

/-- A part of a word alone has the trees that it has in the word. -/
theorem symT_part {g : Gram} {w : List Nat} {a b : Nat} : ∀ (d : Nat) (s : Sym) (i j : Nat), a + j ≤ b → symT g ((w.take b).drop a) d s i j = symT g w d s (a + i) (a + j)
  | 0, s, i, j, _ => rfl
  | d + 1, s, i, j, hj => by
    rw [symT, symT]
    split
    · rw [List.getElem?_drop, List.getElem?_take]
      by_cases h : j = i + 1
      · subst h
        rw [if_pos (show a + i < b by omega)]
        by_cases e : w[a + i]? = some s.n
        · rw [if_pos ⟨e, rfl⟩, if_pos ⟨e, by omega⟩]
        · rw [if_neg (fun h => e h.1), if_neg (fun h => e h.1)]
      · rw [if_neg (fun h2 => h h2.2), if_neg (fun h2 => h (by omega))]
    · refine sum_congr fun r _ => ?_
      split
      · exact listT_part (fun s i m hm => symT_lt hm) r.right i j fun s _ i m hm => symT_part d s i m (by omega)
      · rfl

/-! ### counts -/
theorem CountVal.uniq {T : Nat → Nat} (hm : ∀ d, T d ≤ T (d + 1)) {a b : Int} (h : CountVal T a) (h2 : CountVal T b) : a = b := by
  have clash : ∀ {n}, Still T n → Unbound T → False := by
    intro n hs hu
    obtain ⟨D, hD⟩ := hs
    obtain ⟨d, hd⟩ := hu (n + 1)
    have mono : ∀ e, T d ≤ T (d + e) := by
      intro e
      induction e with
      | zero => exact Nat.le_refl _
      | succ e ih => exact Nat.le_trans ih (hm (d + e))
    have h1 := mono D
    have h2 := hD (d + D) (by omega)
    omega
  rcases h with ⟨n, h1, rfl⟩ | ⟨h1, rfl⟩ <;> rcases h2 with ⟨n', h3, rfl⟩ | ⟨h3, rfl⟩
  · rw [h1.uniq h3]
  · exact (clash h1 h3).elim
  · exact (clash h3 h1).elim
  · rfl

theorem Still.add {A B : Nat → Nat} {a b : Nat} (h : Still A a) (h2 : Still B b) : Still (fun d => A d + B d) (a + b) := by
  obtain ⟨D, h⟩ := h
  obtain ⟨E, h2⟩ := h2
  exact ⟨max D E, fun d hd => by dsimp only; rw [h d (by omega), h2 d (by omega)]⟩
theorem Still.mul {A B : Nat → Nat} {a b : Nat} (h : Still A a) (h2 : Still B b) : Still (fun d => A d * B d) (a * b) := by
  obtain ⟨D, h⟩ := h
  obtain ⟨E, h2⟩ := h2
  exact ⟨max D E, fun d hd => by dsimp only; rw [h d (by omega), h2 d (by omega)]⟩

theorem mono_le {T : Nat → Nat} (hm : ∀ d, T d ≤ T (d + 1)) {d e : Nat} (h : d ≤ e) : T d ≤ T e := by
  induction e with
  | zero => obtain rfl : d = 0 := by omega
            exact Nat.le_refl _
  | succ e ih =>
    rcases Nat.lt_or_ge d (e + 1) with h2 | h2
    · exact Nat.le_trans (ih (by omega)) (hm e)
    · obtain rfl : d = e + 1 := by omega
      exact Nat.le_refl _

theorem Unbound.addR {A B : Nat → Nat} (h : Unbound B) : Unbound fun d => A d + B d := fun n => by
  obtain ⟨d, hd⟩ := h n
  exact ⟨d, by dsimp only; omega⟩
theorem Unbound.addL {A B : Nat → Nat} (h : Unbound A) : Unbound fun d => A d + B d := fun n => by
  obtain ⟨d, hd⟩ := h n
  exact ⟨d, by dsimp only; omega⟩
theorem Unbound.mul {A B : Nat → Nat} (hA : ∀ d, A d ≤ A (d + 1)) (hB : ∀ d, B d ≤ B (d + 1)) (h : Unbound A) (h2 : ∃ d, 1 ≤ B d) : Unbound fun d => A d * B d := fun n => by
  obtain ⟨d, hd⟩ := h n
  obtain ⟨e, he⟩ := h2
  refine ⟨max d e, ?_⟩
  have h3 := mono_le hA (show d ≤ max d e by omega)
  have h4 := mono_le hB (show e ≤ max d e by omega)
  have : A d * 1 ≤ A (max d e) * B (max d e) := Nat.mul_le_mul h3 (by omega)
  dsimp only; omega

/-- What MeanJoined adds up. -/
def joinSum (s a b : Int) : Int := if a = 0 ∨ b = 0 then s else if a = -1 ∨ b = -1 ∨ s = -1 then -1 else min (s + min (a * b) 1000000000) 1000000000

theorem CountVal.zero {T : Nat → Nat} (hm : ∀ d, T d ≤ T (d + 1)) (h : CountVal T 0) : ∀ d, T d = 0 := by
  rcases h with ⟨n, ⟨D, hD⟩, h2⟩ | ⟨_, h⟩
  · have hn : n = 0 := by
      unfold MAXC at h2
      omega
    subst hn
    intro d
    have h3 := mono_le hm (show d ≤ max d D by omega)
    have h4 := hD (max d D) (by omega)
    omega
  · cases h

theorem CountVal.some {T : Nat → Nat} {c : Int} (h : CountVal T c) (hc : c ≠ 0) : ∃ d, 1 ≤ T d := by
  rcases h with ⟨n, ⟨D, hD⟩, h2⟩ | ⟨h, _⟩
  · refine ⟨D, ?_⟩
    rw [hD D (Nat.le_refl _)]
    rcases Nat.eq_zero_or_pos n with e | e
    · subst e; exact absurd h2 (by simpa using hc)
    · exact e
  · exact h 1

theorem count_join {S A B : Nat → Nat} (hA : ∀ d, A d ≤ A (d + 1)) (hB : ∀ d, B d ≤ B (d + 1)) {s a b : Int} (hs : CountVal S s) (ha : CountVal A a) (hb : CountVal B b) : CountVal (fun d => S d + A d * B d) (joinSum s a b) := by
  unfold joinSum
  by_cases h0 : a = 0 ∨ b = 0
  · rw [if_pos h0]
    have : (fun d => S d + A d * B d) = S := by
      funext d
      rcases h0 with rfl | rfl
      · rw [ha.zero hA d, Nat.zero_mul, Nat.add_zero]
      · rw [hb.zero hB d, Nat.mul_zero, Nat.add_zero]
    rw [this]; exact hs
  · rw [if_neg h0]
    have ha1 := ha.some (fun e => h0 (.inl e))
    have hb1 := hb.some (fun e => h0 (.inr e))
    have hcomm : (fun d => B d * A d) = fun d => A d * B d := by funext d; exact Nat.mul_comm _ _
    rcases ha with ⟨na, ha, rfl⟩ | ⟨ha, rfl⟩
    · rcases hb with ⟨nb, hb, rfl⟩ | ⟨hb, rfl⟩
      · rcases hs with ⟨ns, hs, rfl⟩ | ⟨hs, rfl⟩
        · rw [if_neg (by omega)]
          refine .inl ⟨ns + na * nb, hs.add (ha.mul hb), ?_⟩
          have e1 := min_mul na nb
          have e2 := min_add ns (na * nb)
          have hM : (1000000000 : Int) = ((MAXC : Nat) : Int) := rfl
          rw [hM, ← e2, ← e1]
          have e3 : ((min na MAXC : Nat) : Int) * ((min nb MAXC : Nat) : Int) = ((min na MAXC * min nb MAXC : Nat) : Int) := by push_cast; rfl
          rw [e3]
          generalize min na MAXC * min nb MAXC = z
          generalize min ns MAXC = y
          omega
        · rw [if_pos (by simp)]
          exact .inr ⟨hs.addL, rfl⟩
      · rw [if_pos (by simp)]
        refine .inr ⟨Unbound.addR ?_, rfl⟩
        rw [← hcomm]
        exact hb.mul hB hA ha1
    · rw [if_pos (by simp)]
      exact .inr ⟨Unbound.addR (ha.mul hA hB hb1), rfl⟩

/-! ### a grammar with a new start symbol -/
def joined (g : Gram) : Gram := ⟨g.terms, g.nons + 1, g.nons, g.rules ++ [⟨g.nons, [⟨false, g.start⟩, ⟨false, g.start⟩]⟩]⟩

theorem symT_joined {g : Gram} (hg : Valid g) {w : List Nat} : ∀ (d : Nat) (s : Sym) (i j : Nat), SymOk g.terms g.nons s → symT (joined g) w d s i j = symT g w d s i j
  | 0, s, i, j, _ => rfl
  | d + 1, s, i, j, hs => by
    rw [symT, symT]
    split
    · rfl
    · rename_i hst
      have hn : s.n < g.nons := by unfold SymOk at hs; rw [if_neg hst] at hs; exact hs
      show ((g.rules ++ [_]).map _).sum = _
      rw [List.map_append, List.sum_append]
      have h0 : (⟨g.nons, [⟨false, g.start⟩, ⟨false, g.start⟩]⟩ : Rule).left ≠ s.n := by show g.nons ≠ s.n; omega
      simp only [List.map_cons, List.map_nil, List.sum_cons, List.sum_nil, if_neg h0, Nat.add_zero]
      refine sum_congr fun r hr => ?_
      split
      · have hok := (hg.right r hr).2.2
        have := listT_part (f := symT (joined g) w d) (h := symT g w d) (a := 0) (fun s i m hm => symT_lt hm) r.right i j fun s hs i m _ => by
          rw [Nat.zero_add, Nat.zero_add]; exact symT_joined hg d s i m (hok s hs)
        rw [Nat.zero_add, Nat.zero_add] at this
        exact this
      · rfl

theorem joined_start {g : Gram} (hg : Valid g) {w : List Nat} (d : Nat) : symT (joined g) w (d + 1) ⟨false, g.nons⟩ 0 w.length = ((List.range (w.length + 1)).map fun m => symT g w d ⟨false, g.start⟩ 0 m * symT g w d ⟨false, g.start⟩ m w.length).sum := by
  have hst : SymOk g.terms g.nons ⟨false, g.start⟩ := by unfold SymOk; simpa using hg.range.start
  rw [symT]
  simp only [Bool.false_eq_true, if_false]
  show ((g.rules ++ [_]).map _).sum = _
  rw [List.map_append, List.sum_append, sum_zero (l := g.rules.map _) (fun x hx => ?_)]
  · simp only [List.map_cons, List.map_nil, List.sum_cons, List.sum_nil, if_true, Nat.add_zero, Nat.zero_add]
    rw [listT]
    refine sum_congr fun m hm => ?_
    have hm := List.mem_range.1 hm
    rw [symT_joined hg d _ _ _ hst]
    congr 1
    rw [listT, List.range_succ, List.map_append, List.sum_append, sum_zero (l := (List.range w.length).map _) (fun x hx => ?_)]
    · simp [listT, symT_joined hg d _ _ _ hst]
    · obtain ⟨m', hm', rfl⟩ := List.mem_map.1 hx
      have := List.mem_range.1 hm'
      rw [listT, if_neg (by omega), Nat.mul_zero]
  · obtain ⟨r, hr, rfl⟩ := List.mem_map.1 hx
    have := (hg.right r hr).1
    rw [if_neg (by omega)]

theorem joined_valid {g : Gram} (hg : Small g) : Valid (joined g) := by
  have hv := hg.valid
  have hr := hv.range
  have hmem : ∀ r, r ∈ (joined g).rules → r ∈ g.rules ∨ r = ⟨g.nons, [⟨false, g.start⟩, ⟨false, g.start⟩]⟩ := fun r h => by
    rcases List.mem_append.1 h with h | h
    · exact .inl h
    · exact .inr (List.mem_singleton.1 h)
  have hst := hg.start
  have hn := hg.nons
  have hl := hg.rules
  refine ⟨⟨hr.terms, ⟨by show 1 ≤ g.nons + 1; omega, by show g.nons + 1 ≤ 10; omega⟩, Nat.lt_succ_self _, ?_, fun r hm => ?_⟩, fun r hm => ?_, ?_⟩
  · show (g.rules ++ [_]).length ≤ 32
    rw [List.length_append]
    simp; omega
  · rcases hmem r hm with h | rfl
    · exact hr.right r h
    · simp
  · rcases hmem r hm with h | rfl
    · obtain ⟨h1, h2, h3⟩ := hv.right r h
      refine ⟨Nat.lt_succ_of_lt h1, h2, fun y hy => ?_⟩
      have := h3 y hy
      unfold SymOk at this ⊢
      split
      · rename_i e; rw [if_pos e] at this; exact this
      · rename_i e; rw [if_neg e] at this; exact Nat.lt_succ_of_lt this
    · refine ⟨Nat.lt_succ_self _, by simp, fun y hy => ?_⟩
      have : y = ⟨false, g.start⟩ := by simpa using hy
      subst this
      unfold SymOk
      simp only [Bool.false_eq_true, if_false]
      exact Nat.lt_succ_of_lt hst
  · show (g.rules ++ [_]).Nodup
    rw [List.nodup_append]
    refine ⟨hv.nodup, by simp, fun a ha b hb e => ?_⟩
    rw [List.mem_singleton.1 hb] at e
    have := (hv.right a ha).1
    rw [e] at this
    exact Nat.lt_irrefl _ this
end Go.Proofs.D

set_option linter.unusedVariables false
set_option maxRecDepth 20000
set_option maxHeartbeats 0
open Go Go.Abs Go.Proofs Go.Proofs.D
namespace Go.Abs
section
variable {C : Ctx} {T : RT} {n : Nat} {k : Kno} {F : Frz} {own : Own} {ops rest : List Oper} {o : Oper} {Q : Kno → Frz → Own → List Rec → Prop} {args' : List Value}
/-- A call of a function value whose result is frozen. -/
theorem WT.callCF0 {f : FuncId} {fn : Func} {fo : Operand} {as_ : Array Operand} {ts : Array TypeId} {args args' first capt : List Value} {P : Frz → Value → Prop} (hf : C.func f = some fn) (hb : fn.body.isSome = true) (hop : o.op = .call ⟨.value fo, as_, ts⟩)
    (hw : wantK ops k o = some true) {dst : Nat} (hdst : o.dst = some dst) (hn : Nat.blt dst n = true) (hfo : evK C k fo = some (.func (.func f) ⟨first⟩ ⟨capt⟩)) (hv : vals (evK C k) as_.toList = some args) (hargs : first ++ args ++ capt = args') (spec : Spec C f args' F [] fun F' v o => o = [] ∧ P F' v)
    (h : ∀ F' v, Frz.le F F' → P F' v → WT C n ops rest ((dst, v) :: k) F' own (fun k2 F2 own2 rs => Q k2 F2 own2 (⟨F, own, F', own, []⟩ :: rs))) :
    WT C n ops (o :: rest) k F own Q := by
  subst hargs
  refine WT.step (l := []) (by rw [hop]; rfl) fun e h' hk hs => ?_
  obtain ⟨v, h1, F1, oout, ⟨m, hd⟩, hF, hs1, rfl, hp⟩ := spec own h' hs
  refine ⟨v, h1, F1, own, ⟨m, fun N hN => ?_⟩, hF, hs1, by rw [hdst, putK_some hn]; exact h F1 v hF hp⟩
  unfold stepA
  rw [wantK_ok hk hw]
  have : opA C (evK C k) h' o.op = some (.call f (first ++ args ++ capt)) := by
    rw [hop]
    simp only [opA, hfo, hv, callA_func hf hb]
  simp only [opA_mono hk.eval this, hd N hN]
theorem firstZ {h : Heap} {s m c : Nat} {a : Option Addr} (ha : ∀ p, a = some p → p.spot = none) : firstA h s 0 (.slice a m c) = some [] := by
  match a, ha with
  | none, _ => rfl
  | some ⟨b, off, none⟩, _ => rfl
  | some ⟨b, off, some _⟩, ha => have := ha _ rfl; cases this

/-- A frozen slice, empty or not, is appended to an own block that is not empty. -/
theorem WT.appendA {α : Type} {R : Ty α} (hT : rowsOk C T = true) (p : Nat) {B : List (Nat × Blk)} {upd : List (Nat × Blk) → Own} {a b2 : Option Addr} {m c d c2 by_ : Nat} {xs ys : List α} {t e t2 e2 : Nat} {r r2 : Row} {z : Value} {xo so : Operand}
    (hb : Bld R F a m c B xs) (hy : Arr R F b2 d c2 ys) (hp : own[p]? = some B) (hupd : ∀ B', setO own p B' = some (upd B')) (hop : o.op = .call ⟨.builtin .append, ⟨[so, xo]⟩, ⟨[t, t2]⟩⟩) (hw : wantK ops k o = some true) {dst : Nat} (hdst : o.dst = some dst) (hn : Nat.blt dst n = true)
    (hs : evK C k so = some (.slice a m c)) (hx : evK C k xo = some (.slice b2 d c2)) (hr : rowOf T t = some r) (hd : r.d = .slice e) (hsz : sizeT T e = some R.size) (hz : zeroT T e = some z) (hby : bytesT T e = some by_)
    (hr2 : rowOf T t2 = some r2) (hd2 : r2.d = .slice e2) (hpos : 0 < R.size ∧ 0 < by_) (hroom : (m + d) * by_ ≤ 140737488355328)
    (h : ∀ a' c' B', Bld R F a' (m + d) c' B' (xs ++ ys) → WT C n ops rest ((dst, .slice a' (m + d) c') :: k) F (upd B') (fun k2 F2 own2 rs => Q k2 F2 own2 (⟨F, own, F, upd B', []⟩ :: rs))) :
    WT C n ops (o :: rest) k F own Q := by
  by_cases hd0 : d = 0
  · subst hd0
    obtain rfl : ys = [] := List.eq_nil_of_length_eq_zero hy.len.symm
    have e : upd B = own := by
      rw [← setO_ok _ _ _ _ (hupd B)]
      obtain ⟨hlt, rfl⟩ := List.getElem?_eq_some_iff.1 hp
      exact List.set_getElem_self hlt
    have := h a c B (by simpa using hb)
    rw [e] at this
    exact WT.append0 hT hop hw hdst hn hs hx hr hd hsz hz hby hr2 hd2 (fun h0 s0 => firstZ hy.spot) hpos (by simpa using hroom) this
  · obtain ⟨ds, hds, hcs⟩ := news_arr hT hy hr2 hd2 e
    exact WT.appendT hT p hb hp hupd hop hw hdst hn hs hx hr hd hsz hz hby (fun h0 s0 => hds _ h0 s0) hcs hy.len ⟨by omega, hpos⟩ hroom h
end
end Go.Abs
namespace Go.Proofs.D

/-! ### the order of nodes -/
def rankL (k : Key) : List Nat := [k.frm, k.to, if k.sym.term = true then 0 else 1, k.sym.n]

theorem rank_spec (F : Frz) {l : List Value} (x : Node) (hx : tNode.rel F l x) : Abs.Spec CC 55 [.agg ⟨l⟩] F [] fun F' v o => o = [] ∧ ∃ a c, v = .slice a 4 c ∧ Arr tNat F' a 4 c (rankL x.key) := by
  obtain ⟨a, n, c, rfl, _⟩ := hx
  obtain ⟨⟨⟨kt, kn⟩, kf, ko⟩, ps⟩ := x
  refine Abs.Spec.fn (n := 22) Tryd.func55 rfl rfl fun own => ?_
  refine AW.seq (AW.reg ?_)
  refine WT.boxT zr zr zr zr zr zr (fun i1 hi1 => ?_)
  refine ze hT zr zr zr zr zr ?_; refine WT.nil ?_; (iterate 2 refine AW.seq ?_); refine AW.reg ?_; (iterate 2 refine ze hT zr zr zr zr zr ?_); refine zl hT 0 zr zr zr zr zr zr me zr ?_; refine WT.nil ?_
  refine AW.cond rfl (fun ht => ?_) (fun ht => ?_)
  · have ht : kt = true := by simpa using ht
    subst ht
    refine AW.seq ?_; refine AW.reg ?_; refine ze hT zr zr zr zr zr ?_; refine zl hT 0 zr zr zr zr zr zr me zr ?_; refine ze hT zr zr zr zr zr ?_; refine zl hT 0 zr zr zr zr zr zr me zr ?_; (iterate 2 refine ze hT zr zr zr zr zr ?_); refine zl hT 0 zr zr zr zr zr zr me zr ?_
    refine WT.buildT hT zr zr zr zr zr zr zr zr zr zr zr zr zr zr (fun i2 hi2 => ?_)
    refine WT.freezeAll 0 rfl rfl (fun G1 hG1 hB1 => ?_)
    have hra : Arr tNat G1 (some ⟨i2, 0, none⟩) 4 1 (rankL ⟨⟨true, kn⟩, kf, ko⟩) := Bld.frozen (F := F) (B := [(i2, .cells false [.int .i64 kf, .int .i64 ko, .int .i64 0, .int .i64 kn])]) ⟨rfl, .inr ⟨i2, _, rfl, rfl, rfl, Cells.cons (l := [_]) (x := kf) rfl (Cells.cons (l := [_]) (x := ko) rfl (Cells.cons (l := [_]) (x := (0 : Nat)) rfl (Cells.single (R := tNat) (x := kn) rfl))), (by decide : 0 < tNat.size)⟩⟩ hG1 hB1
    refine ze hT zr zr zr zr zr ?_; refine WT.nil ?_
    exact AW.ret ⟨_, [], ⟨_, _, rfl, rfl, rfl⟩, (by repeat (first | exact List.Sublist.refl _ | refine List.Sublist.cons _ ?_)), rfl, _, _, rfl, hra⟩
  · have ht : kt = false := by simpa using ht
    subst ht
    refine AW.skip ?_; refine AW.seq ?_; refine AW.reg ?_; refine ze hT zr zr zr zr zr ?_; refine zl hT 0 zr zr zr zr zr zr me zr ?_; refine ze hT zr zr zr zr zr ?_; refine zl hT 0 zr zr zr zr zr zr me zr ?_; (iterate 2 refine ze hT zr zr zr zr zr ?_); refine zl hT 0 zr zr zr zr zr zr me zr ?_
    refine WT.buildT hT zr zr zr zr zr zr zr zr zr zr zr zr zr zr (fun i2 hi2 => ?_)
    refine WT.freezeAll 0 rfl rfl (fun G1 hG1 hB1 => ?_)
    have hra : Arr tNat G1 (some ⟨i2, 0, none⟩) 4 1 (rankL ⟨⟨false, kn⟩, kf, ko⟩) := Bld.frozen (F := F) (B := [(i2, .cells false [.int .i64 kf, .int .i64 ko, .int .i64 1, .int .i64 kn])]) ⟨rfl, .inr ⟨i2, _, rfl, rfl, rfl, Cells.cons (l := [_]) (x := kf) rfl (Cells.cons (l := [_]) (x := ko) rfl (Cells.cons (l := [_]) (x := (1 : Nat)) rfl (Cells.single (R := tNat) (x := kn) rfl))), (by decide : 0 < tNat.size)⟩⟩ hG1 hB1
    refine ze hT zr zr zr zr zr ?_; refine WT.nil ?_
    exact AW.ret ⟨_, [], ⟨_, _, rfl, rfl, rfl⟩, (by repeat (first | exact List.Sublist.refl _ | refine List.Sublist.cons _ ?_)), rfl, _, _, rfl, hra⟩

theorem less_spec (F : Frz) {l m : List Value} (x y : Node) (hx : tNode.rel F l x) (hy : tNode.rel F m y) : Abs.Spec CC 22 [.agg ⟨l⟩, .agg ⟨m⟩] F [] fun _ v o => o = [] ∧ v = .bool (decide (cmpNats (rankL x.key) (rankL y.key) < 0)) := by
  have hx0 := hx
  have hy0 := hy
  obtain ⟨a, n, c, rfl, _⟩ := hx
  obtain ⟨a', n', c', rfl, _⟩ := hy
  refine Abs.Spec.fn (n := 14) Tryd.func22 rfl rfl fun own => ?_
  refine AW.seq (AW.reg ?_)
  refine WT.boxT zr zr zr zr zr zr (fun i2 hi2 => ?_)
  refine WT.boxT zr zr zr zr zr zr (fun i3 hi3 => ?_)
  refine ze hT zr zr zr zr zr ?_; refine WT.nil ?_; refine AW.seq ?_; refine AW.reg ?_; refine ze hT zr zr zr zr zr ?_; refine WT.nil ?_; refine AW.seq ?_
  refine AW.draw (ps := [(4, 2)]) rfl rfl ?_
  refine ze hT zr zr zr zr zr ?_; refine zl hT 1 zr zr zr zr zr zr me zr ?_
  refine WT.callCF0 Tryd.func55 zr zr zr zr zr zr zr zr (rank_spec _ x hx0) (fun F1 v hF1 hv => ?_)
  obtain ⟨ra, rc, rfl, hra⟩ := hv
  refine ze hT zr zr zr zr zr ?_; refine zl hT 0 zr zr zr zr zr zr me zr ?_
  refine WT.callCF0 Tryd.func55 zr zr zr zr zr zr zr zr (rank_spec _ y (tNode.mono _ _ _ _ hF1 hy0)) (fun F2 v hF2 hv => ?_)
  obtain ⟨sa, sc, rfl, hsa⟩ := hv
  skip
  refine WT.callV Tryd.func23 zr zr zr zr zr zr (numCompare_spec _ (hra.mono hF2) hsa (by decide) (by decide)) (fun v hv => ?_)
  subst hv
  (iterate 2 refine ze hT zr zr zr zr zr ?_); refine WT.nil ?_
  refine ⟨(by repeat (first | exact trivial | refine recs_pair rfl rfl (by first | exact keep0 | exact keep1 (keeps_frz (by assumption)) | exact kp 0 0 me me | exact kp 1 1 me me | exact kp 2 2 me me | exact kp 3 3 me me | exact kp 4 4 me me | exact kp 5 5 me me | exact kp 6 6 me me | exact kp 0 1 me me | exact kp 1 2 me me | exact kp 2 3 me me | exact kp 3 4 me me | exact kp 4 5 me me | exact kp 5 6 me me | exact kp 6 7 me me) ?_)), ?_⟩
  skip
  exact AW.ret ⟨_, [], ⟨_, _, rfl, rfl, rfl⟩, (by repeat (first | exact List.Sublist.refl _ | refine List.Sublist.cons _ ?_)), rfl, rfl⟩

theorem rank_lt {x y : Key} (h : ltKey x y = true) : cmpNats (rankL x) (rankL y) < 0 := by
  rw [ltKey_iff] at h
  obtain ⟨⟨xt, xn⟩, xf, xo⟩ := x
  obtain ⟨⟨yt, yn⟩, yf, yo⟩ := y
  rw [cmpSym_lt] at h
  simp only at h
  unfold rankL
  simp only [cmpNats, cmpInt]
  cases xt <;> cases yt <;> simp at h ⊢ <;> repeat' split <;> omega

/-! ### Index and Contains of truth values -/
def tBool : Ty Bool where
  size := 1
  rel := fun _ l x => l = [.bool x]
  len := fun _ _ _ h => by subst h; rfl
  one := fun _ _ _ h => by subst h; rfl
  mono := fun _ _ _ _ _ h => h

theorem boolIdx_spec (F : Frz) {a : Option Addr} {m c : Nat} {xs : List Bool} (hx : Arr tBool F a m c xs) (hm : m ≤ 1000000) (y : Bool) :
    Abs.Spec CC 57 [.slice a m c, .bool y] F [] fun _ v o => o = [] ∧ v = .int .i64 (idxOf (fun x => decide (y = x)) xs) := by
  refine Abs.Spec.fn (n := 19) Tryd.func57 rfl rfl fun own => ?_
  have hxlen := hx.len
  refine AW.seq ?_; refine AW.reg ?_; refine ze hT zr zr zr zr zr ?_; refine WT.nil ?_; (iterate 2 refine AW.seq ?_); refine AW.reg ?_; (iterate 3 refine ze hT zr zr zr zr zr ?_); refine WT.nil ?_
  refine AW.range (S := Unit) (fun _ => []) (fun _ => _) (fun j _ G => ∀ z ∈ xs.take j, decide (y = z) = false) m () zr zr zr zr zr zr zr zr zr (by omega) rfl rfl (fun _ => rfl) (fun _ => rfl) (SubK.of_map rfl) (OwnLe.refl _) (by simp) ?_ ?_
  · intro j _ F1 hF1 hj hP
    have hx1 := hx.mono hF1
    refine AW.seq ?_; refine AW.reg ?_; (iterate 2 refine ze hT zr zr zr zr zr ?_); refine WT.nil ?_; refine AW.seq ?_; refine AW.reg ?_; (iterate 3 refine ze hT zr zr zr zr zr ?_)
    refine WT.idxL hT hx1 zr zr zr zr zr zr zr zr zr (by omega) (fun x hxj b1 off ro cs lx hb hp1 hrel => ?_)
    obtain rfl : lx = _ := hrel
    refine zi (fo := 0) hT (by assumption) (by assumption) zr zr zr zr zr zr ?_; refine zu hT zr zr zr zr zr zr zr zr ?_; refine WT.nil ?_
    refine AW.cond rfl (fun hc => ?_) (fun hc => ?_)
    · refine AW.seq ?_; refine AW.reg ?_; (iterate 2 refine ze hT zr zr zr zr zr ?_); refine WT.nil ?_
      refine AW.ret ⟨_, [], ⟨_, _, rfl, rfl, rfl⟩, (by repeat (first | exact List.Sublist.refl _ | refine List.Sublist.cons _ ?_)), rfl, ?_⟩
      rw [idxOf_at hxj (by simp at hc; simp; exact hc) hP]; rfl
    · refine AW.skip ?_
      exact ⟨(), SubK.of_map rfl, (by repeat (first | exact OwnLe.refl _ | refine OwnLe.skip _ ?_)), take_all hxj hP (by simp at hc; simp; exact hc)⟩
  · intro _ F1 hF1 hP
    rw [List.take_of_length_le (by omega)] at hP
    refine AW.seq ?_; refine AW.reg ?_; refine ze hT zr zr zr zr zr ?_; refine WT.nil ?_
    refine AW.ret ⟨_, [], ⟨_, _, rfl, rfl, rfl⟩, (by repeat (first | exact List.Sublist.refl _ | refine List.Sublist.cons _ ?_)), rfl, ?_⟩
    rw [idxOf_none hP]; rfl

theorem boolContains_spec (F : Frz) {a : Option Addr} {m c : Nat} {xs : List Bool} (hx : Arr tBool F a m c xs) (hm : m ≤ 1000000) (y : Bool) :
    Abs.Spec CC 24 [.slice a m c, .bool y] F [] fun _ v o => o = [] ∧ v = .bool (decide (y ∈ xs)) := by
  refine Abs.Spec.fn (n := 9) Tryd.func24 rfl rfl fun own => ?_
  refine AW.seq ?_; refine AW.reg ?_; refine ze hT zr zr zr zr zr ?_; refine WT.nil ?_; refine AW.seq ?_; refine AW.reg ?_; (iterate 2 refine ze hT zr zr zr zr zr ?_)
  refine WT.callV Tryd.func57 zr zr zr zr zr zr (boolIdx_spec _ hx hm y) (fun v hv => ?_)
  subst hv
  (iterate 2 refine ze hT zr zr zr zr zr ?_); refine WT.nil ?_
  refine AW.ret ⟨_, [], ⟨_, _, rfl, rfl, rfl⟩, (by repeat (first | exact List.Sublist.refl _ | refine List.Sublist.cons _ ?_)), rfl, ?_⟩
  have : decide (idxOf (fun x => decide (y = x)) xs ≥ 0) = decide (y ∈ xs) := by
    rw [idxOf_nonneg, Bool.eq_iff_iff]; simp
  rw [← this]; rfl

/-! ### the shape of a forest -/
/-- Keys that follow each other. -/
def Chain (to : Nat) : List Sym → Nat → List Key → Prop
  | [], i, ks => ks = [] ∧ i = to
  | s :: l, i, ks => ∃ q ks', ks = q :: ks' ∧ q.sym = s ∧ q.frm = i ∧ Chain to l q.to ks'

theorem splits_chain {w : List Nat} {E : List (List Nat)} {to : Nat} : ∀ {l : List Sym} {i : Nat} {ks : List Key}, ks ∈ splits w E to l i → Chain to l i ks
  | [], i, ks, h => by
    unfold splits at h
    split at h
    · rename_i h1
      exact ⟨List.mem_singleton.1 h, h1⟩
    · cases h
  | s :: l, i, ks, h => by
    unfold splits at h
    obtain ⟨m, _, hm⟩ := List.mem_flatMap.1 h
    split at hm
    · obtain ⟨ks', h2, rfl⟩ := List.mem_map.1 hm
      exact ⟨_, ks', rfl, rfl, rfl, splits_chain h2⟩
    · cases hm

/-- The end of the first keys. -/
def endAt (i : Nat) (ks : List Key) : Nat → Nat
  | 0 => i
  | j + 1 => match ks[j]? with | some q => q.to | none => i

theorem Chain.at_ {to : Nat} : ∀ {l : List Sym} {i : Nat} {ks : List Key}, Chain to l i ks → ∀ {j : Nat} {q : Key}, ks[j]? = some q → l[j]? = some q.sym ∧ q.frm = endAt i ks j
  | [], i, ks, h, j, q, hq => by
    obtain ⟨rfl, _⟩ := h
    simp at hq
  | s :: l, i, ks, h, j, q, hq => by
    obtain ⟨q0, ks', rfl, h1, h2, h3⟩ := h
    cases j with
    | zero =>
      obtain rfl : q0 = q := by simpa using hq
      exact ⟨by simp [h1], h2⟩
    | succ j =>
      rw [List.getElem?_cons_succ] at hq
      obtain ⟨h4, h5⟩ := h3.at_ hq
      refine ⟨by rw [List.getElem?_cons_succ]; exact h4, ?_⟩
      rw [h5]
      cases j with
      | zero => simp [endAt]
      | succ j =>
        simp only [endAt, List.getElem?_cons_succ]
        have : ∃ q', ks'[j]? = some q' := ⟨_, List.getElem?_eq_getElem (by have := (List.getElem?_eq_some_iff.1 hq).1; omega)⟩
        obtain ⟨q', hq'⟩ := this
        rw [hq']

theorem Chain.end_ {to : Nat} : ∀ {l : List Sym} {i : Nat} {ks : List Key}, Chain to l i ks → endAt i ks ks.length = to ∧ ks.length = l.length
  | [], i, ks, h => by
    obtain ⟨rfl, h⟩ := h
    exact ⟨h, rfl⟩
  | s :: l, i, ks, h => by
    obtain ⟨q0, ks', rfl, h1, h2, h3⟩ := h
    obtain ⟨h4, h5⟩ := h3.end_
    refine ⟨?_, by simp [h5]⟩
    rw [List.length_cons]
    simp only [endAt]
    rw [← h4]
    cases hk : ks'.length with
    | zero => simp [endAt]
    | succ j =>
      have hlt : j < ks'.length := by omega
      rw [List.getElem?_cons_succ]
      simp only [endAt]
      rw [List.getElem?_eq_getElem hlt]

/-- What the law looks at in a node's pack. -/
structure PackOk (g : Gram) (S : List Key) (k : Key) (p : NPack) (kp : KPack) : Prop where
  num : p = numPack S kp
  rule : ∃ r, g.rules[kp.rule]? = some r ∧ r.left = k.sym.n ∧ Chain k.to r.right k.frm kp.kids
  ins : ∀ q ∈ kp.kids, q ∈ S

structure NodeOk (g : Gram) (w : List Nat) (S : List Key) (k : Key) (x : Node) : Prop where
  key : x.key = k
  term : k.sym.term = true → k.to = k.frm + 1 ∧ k.to ≤ w.length ∧ w[k.frm]? = some k.sym.n ∧ x.packs = []
  non : k.sym.term = false → x.packs ≠ []
  pack : ∀ p ∈ x.packs, ∃ kp, PackOk g S k p kp
  sorted : x.packs.Pairwise fun x y => cmpNPack x y < 0

theorem packsOf_term {g : Gram} {w : List Nat} {E : List (List Nat)} {k : Key} (h : k.sym.term = true) : packsOf g w E k = [] := by
  rw [List.eq_nil_iff_forall_not_mem]
  intro p hp
  obtain ⟨r, _, _, h3, _⟩ := mem_packsOf.1 hp
  rw [h] at h3; cases h3

theorem stepB_term {w : List Nat} {E : List (List Nat)} {n i j : Nat} (h : stepB w E ⟨true, n⟩ i j = true) : j = i + 1 ∧ w[i]? = some n := by
  rw [stepB_iff] at h
  have h : Step w E ⟨true, n⟩ i j := h
  unfold Step at h
  simp only [if_true] at h
  exact ⟨h.2, h.1⟩

theorem node_shape {g : Gram} (hg : Valid g) {w : List Nat} {E : List (List Nat)} (hE : EndsOf g w E) {root : Key} {S : List Key} (hK : Keys g w E root S) (hroot : GoodKey g w root) (hrs : StepK w E root) {k : Key} (hk : k ∈ S) : NodeOk g w S k (mkNode g w E S k) where
  key := rfl
  term := fun h => by
    have hgood := (hK.reach k hk).good hg hroot
    have hst := (hK.reach k hk).step hrs
    obtain ⟨⟨kt, kn⟩, kf, ko⟩ := k
    have h : kt = true := h
    subst h
    obtain ⟨h1, h2⟩ := stepB_term hst
    refine ⟨h1, hgood.2.2, h2, ?_⟩
    unfold mkNode
    rw [packsOf_term rfl]; rfl
  non := fun h hn => by
    have hp := nodes_prod hg hE hK hroot hrs
    obtain ⟨v, hv, hvk⟩ := List.getElem_of_mem hk
    obtain ⟨d, hd⟩ := hp v (by rw [List.length_map]; exact hv)
    have hx : (S.map (mkNode g w E S))[v]? = some (mkNode g w E S k) := by rw [List.getElem?_map, List.getElem?_eq_getElem hv, hvk]; rfl
    cases d with
    | zero => simp [nodeT] at hd
    | succ d =>
      unfold nodeT at hd
      rw [hx] at hd
      simp only at hd
      rw [hn] at hd
      simp [leafN, mkNode, h] at hd
  pack := fun p hp => by
    obtain ⟨kp, hkp, rfl⟩ := List.mem_map.1 hp
    obtain ⟨r, h1, h2, _, h3⟩ := mem_packsOf.1 hkp
    exact ⟨kp, rfl, ⟨r, h1, h2, splits_chain h3⟩, fun q hq => hK.closed k hk kp hkp q hq⟩
  sorted := (node_sorted hK hk).imp fun h => h.2

/-- Every key but the root is a kid. -/
theorem kid_of {g : Gram} {w : List Nat} {E : List (List Nat)} {root : Key} {S : List Key} (hK : Keys g w E root S) {q : Key} (hq : q ∈ S) (hne : q ≠ root) : ∃ x ∈ S.map (mkNode g w E S), ∃ p ∈ x.packs, place S q ∈ p.kids := by
  cases hK.reach q hq with
  | root => exact absurd rfl hne
  | @kid k q p h1 h2 h3 =>
    exact ⟨_, List.mem_map.2 ⟨k, hK.all h1, rfl⟩, _, List.mem_map.2 ⟨p, h2, rfl⟩, List.mem_map.2 ⟨q, h3, rfl⟩⟩
end Go.Proofs.D

set_option linter.unusedVariables false
set_option maxRecDepth 20000
set_option maxHeartbeats 0
open Go Go.Abs Go.Proofs Go.Proofs.D
namespace Go.Proofs.D

/-! ### the tables of ends that the laws make by themselves -/
def withStart (g : Gram) (n : Nat) : Gram := { g with start := n }

theorem der_rules {g h : Gram} (e : g.rules = h.rules) {w : List Nat} {s : Sym} {i j : Nat} (hd : Der g w s i j) : Der h w s i j := by
  refine Der.rec (motive_1 := fun s i j _ => Der h w s i j) (motive_2 := fun l i j _ => Ders h w l i j) ?_ ?_ ?_ ?_ hd
  · intro t i h2; exact .term h2
  · intro r i j hr _ ih; exact .non (by rw [← e]; exact hr) ih
  · intro i; exact .nil
  · intro s l i m j _ _ h1 h2; exact .cons h1 h2

theorem derives_part {g : Gram} {w : List Nat} {n i j : Nat} (hij : i ≤ j) (hj : j ≤ w.length) : derives (withStart g n) ((w.take j).drop i) n 0 (j - i) = true ↔ Der g w ⟨false, n⟩ i j := by
  rw [derives_iff]
  constructor
  · intro h
    have h : Der g ((w.take j).drop i) ⟨false, n⟩ 0 (j - i) := der_rules (g := withStart g n) (h := g) rfl h
    have := (der_part hij hj h).1
    rwa [Nat.add_zero, show i + (j - i) = j by omega] at this
  · intro h
    have := part_der (a := i) (b := j) hj h (Nat.le_refl _) (Nat.le_refl _)
    rw [Nat.sub_self] at this
    exact der_rules (g := g) (h := withStart g n) rfl this

theorem withStart_valid {g : Gram} (hg : Valid g) {n : Nat} (hn : n < g.nons) : Valid (withStart g n) where
  range := { hg.range with start := hn }
  right := hg.right
  nodup := hg.nodup

theorem der_end {g : Gram} {w : List Nat} {s : Sym} {i j : Nat} (h : Der g w s i j) (hi : i ≤ w.length) : j ≤ w.length := by
  have h2 : Der g ((w.take w.length).drop 0) s i j := by rw [List.take_length, List.drop_zero]; exact h
  exact (der_part (Nat.zero_le _) (Nat.le_refl _) h2).2 hi

/-- A row that is filled up to place i, and there up to end j. -/
structure RowTo (g : Gram) (w : List Nat) (n i j : Nat) (row : List Nat) : Prop where
  len : row.length = w.length + 1
  bit : ∀ p x, row[p]? = some x → ∀ q, x.testBit q = true ↔ ((p < i ∨ (p = i ∧ q < j)) ∧ Der g w ⟨false, n⟩ p q)

theorem RowTo.lt {g : Gram} {w : List Nat} {n i j : Nat} {row : List Nat} (h : RowTo g w n i j row) {p x : Nat} (hx : row[p]? = some x) : x < 2 ^ (w.length + 1) := by
  refine Nat.lt_pow_two_of_testBit x fun q hq => ?_
  cases hb : x.testBit q with
  | false => rfl
  | true =>
    have hp := (List.getElem?_eq_some_iff.1 hx).1
    have := h.len
    have := der_end ((h.bit p x hx q).1 hb).2 (by omega)
    omega

theorem RowTo.zero (g : Gram) (w : List Nat) (n : Nat) : RowTo g w n 0 0 (List.replicate (w.length + 1) 0) where
  len := by simp
  bit := fun p x hx q => by
    have : x = 0 := List.eq_of_mem_replicate (List.mem_of_getElem? hx)
    subst this
    simp

theorem RowTo.start {g : Gram} {w : List Nat} {n i : Nat} {row : List Nat} (h : RowTo g w n i 0 row) : RowTo g w n i i row where
  len := h.len
  bit := fun p x hx q => by
    rw [h.bit p x hx q]
    constructor
    · rintro ⟨h1 | h1, h2⟩
      · exact ⟨.inl h1, h2⟩
      · omega
    · rintro ⟨h1 | h1, h2⟩
      · exact ⟨.inl h1, h2⟩
      · have := der_le h2; omega

theorem RowTo.done {g : Gram} {w : List Nat} {n i j : Nat} {row : List Nat} (h : RowTo g w n i j row) (hj : w.length < j) : RowTo g w n (i + 1) 0 row where
  len := h.len
  bit := fun p x hx q => by
    have hp := (List.getElem?_eq_some_iff.1 hx).1
    have := h.len
    rw [h.bit p x hx q]
    constructor
    · rintro ⟨h1, h2⟩
      exact ⟨.inl (by omega), h2⟩
    · rintro ⟨h1, h2⟩
      have := der_end h2 (by omega)
      exact ⟨by omega, h2⟩

theorem RowTo.skip {g : Gram} {w : List Nat} {n i j : Nat} {row : List Nat} (h : RowTo g w n i j row) (hd : ¬ Der g w ⟨false, n⟩ i j) : RowTo g w n i (j + 1) row where
  len := h.len
  bit := fun p x hx q => by
    rw [h.bit p x hx q]
    constructor
    · rintro ⟨h1, h2⟩
      exact ⟨by omega, h2⟩
    · rintro ⟨h1 | ⟨rfl, h1⟩, h2⟩
      · exact ⟨.inl h1, h2⟩
      · rcases Nat.lt_or_ge q j with h3 | h3
        · exact ⟨.inr ⟨rfl, h3⟩, h2⟩
        · obtain rfl : q = j := by omega
          exact absurd h2 hd

theorem RowTo.put {g : Gram} {w : List Nat} {n i j : Nat} {row : List Nat} (h : RowTo g w n i j row) (hd : Der g w ⟨false, n⟩ i j) {x : Nat} (hx : row[i]? = some x) : RowTo g w n i (j + 1) (row.set i (x ||| (1 * 2 ^ j))) where
  len := by rw [List.length_set]; exact h.len
  bit := fun p y hy q => by
    have hi := (List.getElem?_eq_some_iff.1 hx).1
    by_cases e : p = i
    · subst e
      rw [List.getElem?_set_self hi] at hy
      obtain rfl := Option.some.inj hy
      rw [Nat.testBit_or, Nat.one_mul, Nat.testBit_two_pow, Bool.or_eq_true, h.bit p x hx q]
      constructor
      · rintro (⟨h1, h2⟩ | h1)
        · exact ⟨by omega, h2⟩
        · have h1 : j = q := by simpa using h1
          subst h1
          exact ⟨by omega, hd⟩
      · rintro ⟨h1, h2⟩
        by_cases e2 : j = q
        · right; simpa using e2
        · left; exact ⟨by omega, h2⟩
    · rw [List.getElem?_set_ne (Ne.symm e)] at hy
      rw [h.bit p y hy q]
      constructor
      · rintro ⟨h1, h2⟩; exact ⟨by omega, h2⟩
      · rintro ⟨h1, h2⟩; exact ⟨by omega, h2⟩

theorem endsOf_rows {g : Gram} (hg : Valid g) {w : List Nat} {E : List (List Nat)} (hl : E.length = g.nons) (h : ∀ n row, E[n]? = some row → RowTo g w n (w.length + 1) 0 row) : EndsOf g w E where
  ok := by
    refine ⟨hl, fun r hr => ?_, fun r hr x hx => ?_⟩
    · obtain ⟨n, hn, rfl⟩ := List.getElem_of_mem hr
      exact (h n _ (List.getElem?_eq_getElem hn)).len
    · obtain ⟨n, hn, rfl⟩ := List.getElem_of_mem hr
      obtain ⟨p, hp, rfl⟩ := List.getElem_of_mem hx
      exact (h n _ (List.getElem?_eq_getElem hn)).lt (List.getElem?_eq_getElem hp)
  iff := fun n i j hi => by
    constructor
    · rintro ⟨row, x, h1, h2, h3⟩
      exact (((h n row h1).bit i x h2 j).1 h3).2
    · intro hd
      have hn : n < E.length := by
        cases hd with
        | non hr _ => rw [hl]; exact (hg.right _ hr).1
      have h1 : E[n]? = some E[n] := List.getElem?_eq_getElem hn
      have hrow := h n _ h1
      have hi2 : i < E[n].length := by rw [hrow.len]; omega
      exact ⟨_, _, h1, List.getElem?_eq_getElem hi2, (hrow.bit i _ (List.getElem?_eq_getElem hi2) j).2 ⟨.inl (by omega), hd⟩⟩
structure PtS where
  a : Option Addr
  m : Nat
  c : Nat
  B : List (Nat × Blk)
  vs : List Value
  bs : List (Nat × Blk)
  E : List (List Nat)

theorem mparts_spec (F : Frz) (hL : Laid F) (g : Gram) (hg : Valid g) {a : Option Addr} {m c : Nat} (hr : Arr tRule F a m c g.rules) {b : Option Addr} {n d : Nat} {w : List Nat} (hw : Arr tNat F b n d w) (hw12 : w.length ≤ 12) (hw2 : ∀ t ∈ w, t < g.terms) :
    Abs.Spec CC 26 [.agg ⟨gramCells g a m c⟩, .slice b n d] F [] fun F' v o => ∃ B', o = [B'] ∧ ∃ B bs a c vs E, B' = B ++ bs ∧ v = .slice a g.nons c ∧ Bld tRaw F' a g.nons c B vs ∧ Abs.Rows cU32 vs bs E ∧ EndsOf g w E := by
  unfold gramCells
  have hwlen := hw.len
  subst hwlen
  have hrl := hr.len
  have hgr := hg.range.rules
  have hgn := hg.range.nons
  have pwl : 2 ^ (w.length + 1) ≤ 8192 := Nat.pow_le_pow_right (j := 13) (by decide) (by omega)
  refine Abs.Spec.fn (n := 63) Tryd.func26 rfl rfl fun own => ?_
  refine AW.seq (AW.reg ?_)
  refine WT.boxT zr zr zr zr zr zr (fun i2 hi2 => ?_)
  refine ze hT zr zr zr zr zr ?_; refine WT.nil ?_; refine AW.seq ?_; refine AW.reg ?_; refine ze hT zr zr zr zr zr ?_; refine WT.nil ?_; (iterate 2 refine AW.seq ?_); refine AW.reg ?_; refine ze hT zr zr zr zr zr ?_; refine zl hT 0 zr zr zr zr zr zr me zr ?_; refine ze hT zr zr zr zr zr ?_; refine WT.nil ?_
  refine AW.range (S := PtS) (fun s => [(5, .slice s.a s.m s.c)]) (fun s => s.B :: s.bs :: [(i2, .cells false [.int .i64 g.terms, .int .i64 g.nons, .int .i64 g.start, .slice a m c])] :: own)
    (fun k s G => Bld tRaw G s.a s.m s.c s.B s.vs ∧ Abs.Rows cU32 s.vs s.bs s.E ∧ s.E.length = k ∧ ∀ n row, s.E[n]? = some row → RowTo g w n (w.length + 1) 0 row) g.nons ⟨none, 0, 0, [], [], [], []⟩
    zr zr zr zr zr zr zr zr zr (by omega) rfl rfl (fun _ => rfl) (fun _ => rfl) (SubK.of_map rfl) (OwnLe.flat (List.Perm.refl _)) ⟨Bld.nil_ _ _, Abs.Rows.nil, rfl, fun n row h => (by simp at h)⟩ ?_ ?_
  · intro k s F1 hF1 hk hP
    obtain ⟨hb, hR, hEl, hE⟩ := hP
    have hblen := hb.len
    have hvl := hR.len.1
    have hr1 := hr.mono hF1
    have hw1 := hw.mono hF1
    have hL1 := hL.mono hF1
    refine AW.seq ?_; refine AW.reg ?_; (iterate 2 refine ze hT zr zr zr zr zr ?_); refine WT.nil ?_; refine AW.seq ?_; refine AW.reg ?_; refine zl hT 2 zr zr zr zr zr zr me zr ?_
    refine WT.callN Tryd.func30 zr zr zr zr zr zr (copyOf_spec _ g hr1 (by omega) (fun r hr => by have := (hg.right r hr).2.1; omega)) (fun F2 v B2 hF2 hv2 => ?_)
    obtain ⟨ca, cc, rfl, hcb⟩ := hv2
    unfold gramCells
    skip
    refine WT.allocT hT zr zr zr zr zr zr (fun i7 hi7 => ?_)
    refine zs hT 0 0 zr zr zr zr zr zr zr zr zr zr zr zr ?_; refine WT.nil ?_; refine AW.seq ?_; refine AW.reg ?_; (iterate 2 refine ze hT zr zr zr zr zr ?_); refine zs hT 0 0 zr zr zr zr zr zr zr zr zr zr zr zr ?_; refine WT.nil ?_; refine AW.seq ?_; refine AW.reg ?_; (iterate 2 refine ze hT zr zr zr zr zr ?_); refine za zr zr zr zr zr zr (by omega) ?_
    refine WT.makeT (l := w.length + 1) hT zr zr zr zr zr zr zr zr zr zr zr zr (by first | omega | (dsimp only at *; omega)) (fun ir hir => ?_)
    rw [cap_eq, if_neg (Nat.succ_ne_zero _)]
    refine WT.freezeAll 2 rfl rfl (fun F3 hF3 hB3 => ?_)
    have hcr := hcb.frozen hF3 hB3
    have hw3 := (hw1.mono hF2).mono hF3
    have hL3 := (hL1.mono hF2).mono hF3
    have hb3 := (hb.mono hF2).mono hF3
    have e0 : List.replicate (w.length + 1) (Value.int .u32 0) = (List.replicate (w.length + 1) 0).map cU32.cell := by rw [List.map_replicate]; rfl
    refine ze hT zr zr zr zr zr ?_; refine WT.nil ?_; (iterate 2 refine AW.seq ?_); refine AW.reg ?_; (iterate 3 refine ze hT zr zr zr zr zr ?_); refine WT.nil ?_
    refine AW.range (S := List Nat) (fun _ => []) (fun R => [(ir, .cells false (R.map cU32.cell))] :: [(i7, .cells false [.int .i64 g.terms, .int .i64 g.nons, .int .i64 k, .slice ca m cc])] :: [] :: s.B :: s.bs :: [(i2, .cells false [.int .i64 g.terms, .int .i64 g.nons, .int .i64 g.start, .slice a m c])] :: own)
      (fun i R G => RowTo g w k i 0 R) (w.length + 1) (List.replicate (w.length + 1) 0)
      zr zr zr zr zr zr zr zr zr (by omega) rfl rfl (fun _ => rfl) (fun _ => rfl) (SubK.of_map rfl) (by rw [← e0]; exact OwnLe.refl _) (RowTo.zero g w k) ?_ ?_
    · intro i R F4 hF4 hi hRow
      have hw4 := hw3.mono hF4
      have hL4 := hL3.mono hF4
      have hcr4 := hcr.mono hF4
      refine AW.seq ?_; refine AW.reg ?_; (iterate 2 refine ze hT zr zr zr zr zr ?_); refine WT.nil ?_; refine AW.seq ?_; refine AW.reg ?_; (iterate 2 refine ze hT zr zr zr zr zr ?_); refine WT.nil ?_
      refine AW.block ?_
      refine AW.loopR (S := List Nat × Nat) (fun z => [(10, .int .i64 (z.2 : Nat))]) (fun z => [(ir, .cells false (z.1.map cU32.cell))] :: [(i7, .cells false [.int .i64 g.terms, .int .i64 g.nons, .int .i64 k, .slice ca m cc])] :: [] :: s.B :: s.bs :: [(i2, .cells false [.int .i64 g.terms, .int .i64 g.nons, .int .i64 g.start, .slice a m c])] :: own) (fun z G => RowTo g w k i z.2 z.1 ∧ i ≤ z.2) (fun z => w.length + 1 - z.2) ⟨R, i⟩
        (SubK.of_map rfl) (OwnLe.refl _) ⟨hRow.start, Nat.le_refl _⟩ ?_
      rintro ⟨R, j⟩ F5 hF5 ⟨hz1, hz2⟩
      have hz1 : RowTo g w k i j R := hz1
      have hz2 : i ≤ j := hz2
      have hw5 := hw4.mono hF5
      have hL5 := hL4.mono hF5
      have hcr5 := hcr4.mono hF5
      have hRl := hz1.len
      (iterate 2 refine AW.seq ?_); refine AW.reg ?_; (iterate 4 refine ze hT zr zr zr zr zr ?_); refine WT.nil ?_
      refine AW.cond rfl (fun h => ?_) (fun h => ?_)
      · have h : j ≤ w.length := by have h := of_decide_eq_true h; omega
        refine AW.skip ?_; refine AW.seq ?_
        refine AW.block ?_
        refine AW.seq ?_; refine AW.draw (ps := []) zr zr ?_; refine zl hT 1 zr zr zr zr zr zr me zr ?_; (iterate 3 refine ze hT zr zr zr zr zr ?_)
        obtain ⟨sa, sc, hs1, hsl⟩ := hw5.slice (C := CC) (lo := i) (hi := j) hz2 h hT (t := 22) zr zr zr (some (.int .i64 (i : Nat))) (some (.int .i64 (j : Nat))) rfl rfl
        refine WT.slice zr zr zr zr zr zr zr zr hs1 ?_
        have hl1 : ((w.take j).drop i).length = j - i := by simp; omega
        skip
        refine WT.callV Tryd.func47 zr zr zr zr zr zr (accepts_spec _ hL5 (withStart g k) (withStart_valid hg hk) hcr5 hsl (by rw [hl1]; omega) (fun t ht => hw2 t (List.mem_of_mem_take (List.mem_of_mem_drop ht)))) (fun v hv => ?_)
        subst hv
        rw [hl1]
        have hdp := derives_part (g := g) (n := k) hz2 h
        have hil : i < R.length := by omega
        obtain ⟨x, hx⟩ : ∃ x, R[i]? = some x := ⟨_, List.getElem?_eq_getElem hil⟩
        have hxb := hz1.lt hx
        have hcell : (R.map cU32.cell)[0 + i * 1]? = some (.int .u32 x) := by rw [Nat.zero_add, Nat.mul_one, List.getElem?_map, hx]; rfl
        have pj : 2 ^ j ≤ 4096 := Nat.pow_le_pow_right (j := 12) (by decide) (by omega)
        (iterate 5 refine ze hT zr zr zr zr zr ?_); refine WT.nil ?_; refine And.intro trivial ?_; refine AW.seq ?_; refine AW.reg ?_; refine ze hT zr zr zr zr zr ?_; refine WT.nil ?_
        refine AW.cond rfl (fun hd => ?_) (fun hd => ?_)
        · have hd : Der g w ⟨false, k⟩ i j := hdp.1 hd
          refine AW.draw (ps := []) zr zr ?_; (iterate 2 refine ze hT zr zr zr zr zr ?_)
          refine WT.idxA (j := i) (s := 1) hT zr zr zr zr zr zr zr zr zr (by omega) ?_
          refine WT.loadAt hT 0 zr zr zr zr zr zr (List.mem_cons_self ..) rfl rfl hcell ?_
          refine ze hT zr zr zr zr zr ?_
          refine WT.shl32 (x := 1) (y := j) zr zr zr zr zr zr (by omega) (by omega) ?_
          refine WT.or32 (x := x) (y := 1 * 2 ^ j) zr zr zr zr zr zr (by omega) (by omega) ?_
          refine WT.idxA (j := i) (s := 1) hT zr zr zr zr zr zr zr zr zr (by omega) ?_
          refine WT.storeAt hT 0 0 zr zr zr zr zr zr zr zr zr zr (by simp; omega) rfl rfl ?_
          rw [show (R.map cU32.cell).set (0 + i * 1) (.int .u32 ((x ||| 1 * 2 ^ j : Nat) : Int)) = (R.set i (x ||| 1 * 2 ^ j)).map cU32.cell by rw [Nat.zero_add, Nat.mul_one, List.map_set]; rfl]
          refine WT.nil ?_; refine And.intro trivial ?_; refine AW.reg ?_; refine ze hT zr zr zr zr zr ?_; refine WT.add1 zr zr zr zr zr zr (by omega) ?_; refine ze hT zr zr zr zr zr ?_; refine WT.nil ?_
          exact ⟨(R.set i (x ||| 1 * 2 ^ j), j + 1), by show w.length + 1 - (j + 1) < w.length + 1 - j; omega, SubK.of_map rfl, OwnLe.refl _, hz1.put hd hx, by show i ≤ j + 1; omega⟩
        · have hd : ¬ Der g w ⟨false, k⟩ i j := fun h2 => by
            have := hdp.2 h2
            have hd : derives (withStart g k) ((w.take j).drop i) k 0 (j - i) = false := hd
            rw [hd] at this; cases this
          refine AW.skip ?_; refine AW.reg ?_; refine ze hT zr zr zr zr zr ?_; refine WT.add1 zr zr zr zr zr zr (by omega) ?_; refine ze hT zr zr zr zr zr ?_; refine WT.nil ?_
          exact ⟨(R, j + 1), by show w.length + 1 - (j + 1) < w.length + 1 - j; omega, SubK.of_map rfl, OwnLe.refl _, hz1.skip hd, by show i ≤ j + 1; omega⟩
      · have h : w.length < j := by have h := of_decide_eq_false h; omega
        refine AW.exit ?_
        skip
        exact ⟨R, SubK.of_map rfl, OwnLe.refl _, hz1.done h⟩
    · intro R F4 hF4 hRow
      refine AW.reg ?_; (iterate 2 refine ze hT zr zr zr zr zr ?_)
      refine WT.buildT hT zr zr zr zr zr zr zr zr zr zr zr zr zr zr (fun i9 hi9 => ?_)
      have hb4 := hb3.mono hF4
      have hRl := hRow.len
      refine WT.appendT (R := tRaw) (ys := [.slice (some ⟨ir, 0, none⟩) (w.length + 1) 1]) hT 4 hb4 rfl (fun _ => rfl) zr zr zr zr zr zr zr zr zr zr zr (fun h0 s0 => news_own hT s0 0 zr zr zr zr) (Cells.single (R := tRaw) ⟨rfl, rfl⟩) rfl (by decide) (by first | omega | (dsimp only at *; omega)) (fun a3 c3 B3 hB3 => ?_)
      refine ze hT zr zr zr zr zr ?_; refine WT.nil ?_
      refine ⟨⟨a3, s.m + 1, c3, B3, s.vs ++ [.slice (some ⟨ir, 0, none⟩) (w.length + 1) 1], s.bs ++ [(ir, .cells false (R.map cU32.cell))], s.E ++ [R]⟩, SubK.of_map rfl, ?_, hB3, ?_, ?_, ?_⟩
      · refine OwnLe.skip _ (OwnLe.trans (OwnLe.flat ?_) (OwnLe.cons _ (OwnLe.skip _ (OwnLe.refl _))))
        simp only [List.flatten_cons, List.singleton_append]
        have := perm_to_end (ir, Blk.cells false (R.map cU32.cell)) B3 s.bs ([(i2, Blk.cells false [.int .i64 g.terms, .int .i64 g.nons, .int .i64 g.start, .slice a m c])] ++ own.flatten)
        simpa using this
      · have := hR.snoc (K := cU32) (id := ir) (row := R) (c := 1) (by rw [if_neg (by omega)])
        rw [hRl] at this
        exact this
      · rw [List.length_append, hEl]; rfl
      · intro n' row hrow
        rcases Nat.lt_or_ge n' k with h1 | h1
        · rw [List.getElem?_append_left (by omega)] at hrow
          exact hE n' row hrow
        · rw [List.getElem?_append_right (by omega)] at hrow
          have h2 : n' - s.E.length = 0 := by
            have := (List.getElem?_eq_some_iff.1 hrow).1
            simp at this; omega
          rw [h2] at hrow
          obtain rfl : R = row := by simpa using hrow
          rw [show n' = k by omega]
          exact hRow
  · intro s F1 hF1 hP
    obtain ⟨hb, hR, hEl, hE⟩ := hP
    have hblen := hb.len
    have hvl := hR.len.1
    rw [show s.m = g.nons by omega] at hb ⊢
    refine AW.seq ?_; refine AW.reg ?_; (iterate 2 refine ze hT zr zr zr zr zr ?_); refine WT.nil ?_
    refine AW.le (own2 := (s.B ++ s.bs) :: own) (OwnLe.trans (OwnLe.flat (by simp)) (OwnLe.cons _ (OwnLe.cons _ (OwnLe.skip _ (OwnLe.refl _))))) ?_
    exact AW.ret ⟨_, [_], ⟨_, _, rfl, rfl, rfl⟩, (by repeat (first | exact List.Sublist.refl _ | refine List.Sublist.cons _ ?_)), _, rfl, _, _, _, _, _, _, rfl, rfl, hb, hR, endsOf_rows hg hEl hE⟩
end Go.Proofs.D

set_option linter.unusedVariables false
set_option maxRecDepth 20000
set_option maxHeartbeats 0
open Go Go.Abs Go.Proofs Go.Proofs.D
namespace Go.Proofs.D

/-! ### forest.Same, where both are the same -/
theorem packEqF_spec (F : Frz) {a b : Option Addr} {m c d : Nat} {xs : List NPack} (hx : Arr tNPack F a m c xs) (hy : Arr tNPack F b m d xs) (hm : m ≤ 1000000)
    (hcmp : ∀ G lx ly (x : NPack), x ∈ xs → tNPack.rel G lx x → tNPack.rel G ly x → Abs.Spec CC 61 [.agg ⟨lx⟩, .agg ⟨ly⟩] G [] fun _ v o => o = [] ∧ v = .bool true) :
    Abs.Spec CC 60 [.slice a m c, .slice b m d, .func (.func 61) ⟨[]⟩ ⟨[]⟩] F [] fun _ v o => o = [] ∧ v = .bool true := by
  refine Abs.Spec.fn (n := 32) Tryd.func60 rfl rfl fun own => ?_
  have hxlen := hx.len
  refine AW.seq ?_; refine AW.reg ?_; refine ze hT zr zr zr zr zr ?_; refine WT.nil ?_; (iterate 2 refine AW.seq ?_); refine AW.reg ?_; (iterate 5 refine ze hT zr zr zr zr zr ?_); refine WT.nil ?_
  refine AW.cond rfl (fun h => (by exfalso; simp at h)) (fun _ => ?_)
  refine AW.skip ?_; (iterate 2 refine AW.seq ?_); refine AW.reg ?_; (iterate 3 refine ze hT zr zr zr zr zr ?_); refine WT.nil ?_
  refine AW.range (S := Unit) (fun _ => []) (fun _ => own) (fun j _ G => True) m () zr zr zr zr zr zr zr zr zr (by omega) rfl rfl (fun _ => rfl) (fun _ => rfl) (SubK.of_map rfl) (OwnLe.refl _) trivial ?_ ?_
  · intro j _ F1 hF1 hj hP
    have hx1 := hx.mono hF1
    have hy1 := hy.mono hF1
    refine AW.seq ?_; refine AW.reg ?_; refine ze hT zr zr zr zr zr ?_
    refine WT.idxL hT hx1 zr zr zr zr zr zr zr zr zr (by omega) (fun x hxj b1 off ro cs lx hb hp1 hrel => ?_)
    have hrelx := hrel
    obtain ⟨xa, xn, xc, rfl, _⟩ := hrel
    refine zi (fo := 0) hT (by assumption) (by assumption) zr zr zr zr zr zr ?_
    refine WT.allocT hT zr zr zr zr zr zr (fun i8 hi8 => ?_)
    refine ze hT zr zr zr zr zr ?_; refine zs hT 0 0 zr zr zr zr zr zr zr zr zr zr zr zr ?_; refine WT.nil ?_; refine AW.seq ?_; refine AW.reg ?_; (iterate 2 refine ze hT zr zr zr zr zr ?_)
    refine WT.idxL hT hy1 zr zr zr zr zr zr zr zr zr (by omega) (fun y hyj b2 off2 ro2 cs2 ly hb2 hp2 hrel => ?_)
    obtain rfl : y = x := by rw [hxj] at hyj; exact (Option.some.inj hyj).symm
    have hrely := hrel
    obtain ⟨ya, yn, yc, rfl, _⟩ := hrel
    refine zi (fo := 0) hT (by assumption) (by assumption) zr zr zr zr zr zr ?_
    refine WT.allocT hT zr zr zr zr zr zr (fun i9 hi9 => ?_)
    refine zs hT 0 0 zr zr zr zr zr zr zr zr zr zr zr zr ?_; refine WT.nil ?_; refine AW.seq ?_; refine AW.reg ?_; refine ze hT zr zr zr zr zr ?_; refine zl hT 1 zr zr zr zr zr zr me zr ?_; refine zl hT 0 zr zr zr zr zr zr me zr ?_
    refine WT.callC Tryd.func61 zr zr zr zr zr zr zr zr (hcmp _ _ _ y (List.mem_of_getElem? hxj) hrelx hrely) (fun v hv => ?_)
    subst hv
    refine ze hT zr zr zr zr zr ?_; refine WT.nil ?_
    refine AW.cond rfl (fun h => (by cases h)) (fun _ => ?_)
    refine AW.skip ?_
    exact ⟨(), SubK.of_map rfl, OwnLe.skip _ (OwnLe.skip _ (OwnLe.refl _)), trivial⟩
  · intro _ F1 hF1 hP
    refine AW.seq ?_; refine AW.reg ?_; refine ze hT zr zr zr zr zr ?_; refine WT.nil ?_
    exact AW.ret ⟨_, [], ⟨_, _, rfl, rfl, rfl⟩, (by repeat (first | exact List.Sublist.refl _ | refine List.Sublist.cons _ ?_)), rfl, rfl⟩

theorem nodeEqF_spec (F : Frz) {a b : Option Addr} {m c d : Nat} {xs : List Node} (hx : Arr tNode F a m c xs) (hy : Arr tNode F b m d xs) (hm : m ≤ 1000000)
    (hcmp : ∀ G lx ly (x : Node), x ∈ xs → tNode.rel G lx x → tNode.rel G ly x → Abs.Spec CC 59 [.agg ⟨lx⟩, .agg ⟨ly⟩] G [] fun _ v o => o = [] ∧ v = .bool true) :
    Abs.Spec CC 58 [.slice a m c, .slice b m d, .func (.func 59) ⟨[]⟩ ⟨[]⟩] F [] fun _ v o => o = [] ∧ v = .bool true := by
  refine Abs.Spec.fn (n := 32) Tryd.func58 rfl rfl fun own => ?_
  have hxlen := hx.len
  refine AW.seq ?_; refine AW.reg ?_; refine ze hT zr zr zr zr zr ?_; refine WT.nil ?_; (iterate 2 refine AW.seq ?_); refine AW.reg ?_; (iterate 5 refine ze hT zr zr zr zr zr ?_); refine WT.nil ?_
  refine AW.cond rfl (fun h => (by exfalso; simp at h)) (fun _ => ?_)
  refine AW.skip ?_; (iterate 2 refine AW.seq ?_); refine AW.reg ?_; (iterate 3 refine ze hT zr zr zr zr zr ?_); refine WT.nil ?_
  refine AW.range (S := Unit) (fun _ => []) (fun _ => own) (fun j _ G => True) m () zr zr zr zr zr zr zr zr zr (by omega) rfl rfl (fun _ => rfl) (fun _ => rfl) (SubK.of_map rfl) (OwnLe.refl _) trivial ?_ ?_
  · intro j _ F1 hF1 hj hP
    have hx1 := hx.mono hF1
    have hy1 := hy.mono hF1
    refine AW.seq ?_; refine AW.reg ?_; refine ze hT zr zr zr zr zr ?_
    refine WT.idxL hT hx1 zr zr zr zr zr zr zr zr zr (by omega) (fun x hxj b1 off ro cs lx hb hp1 hrel => ?_)
    have hrelx := hrel
    obtain ⟨xa, xn, xc, rfl, _⟩ := hrel
    refine zi (fo := 0) hT (by assumption) (by assumption) zr zr zr zr zr zr ?_
    refine WT.allocT hT zr zr zr zr zr zr (fun i8 hi8 => ?_)
    refine ze hT zr zr zr zr zr ?_; refine zs hT 0 0 zr zr zr zr zr zr zr zr zr zr zr zr ?_; refine WT.nil ?_; refine AW.seq ?_; refine AW.reg ?_; (iterate 2 refine ze hT zr zr zr zr zr ?_)
    refine WT.idxL hT hy1 zr zr zr zr zr zr zr zr zr (by omega) (fun y hyj b2 off2 ro2 cs2 ly hb2 hp2 hrel => ?_)
    obtain rfl : y = x := by rw [hxj] at hyj; exact (Option.some.inj hyj).symm
    have hrely := hrel
    obtain ⟨ya, yn, yc, rfl, _⟩ := hrel
    refine zi (fo := 0) hT (by assumption) (by assumption) zr zr zr zr zr zr ?_
    refine WT.allocT hT zr zr zr zr zr zr (fun i9 hi9 => ?_)
    refine zs hT 0 0 zr zr zr zr zr zr zr zr zr zr zr zr ?_; refine WT.nil ?_; refine AW.seq ?_; refine AW.reg ?_; refine ze hT zr zr zr zr zr ?_; refine zl hT 1 zr zr zr zr zr zr me zr ?_; refine zl hT 0 zr zr zr zr zr zr me zr ?_
    refine WT.callC Tryd.func59 zr zr zr zr zr zr zr zr (hcmp _ _ _ y (List.mem_of_getElem? hxj) hrelx hrely) (fun v hv => ?_)
    subst hv
    refine ze hT zr zr zr zr zr ?_; refine WT.nil ?_
    refine AW.cond rfl (fun h => (by cases h)) (fun _ => ?_)
    refine AW.skip ?_
    exact ⟨(), SubK.of_map rfl, OwnLe.skip _ (OwnLe.skip _ (OwnLe.refl _)), trivial⟩
  · intro _ F1 hF1 hP
    refine AW.seq ?_; refine AW.reg ?_; refine ze hT zr zr zr zr zr ?_; refine WT.nil ?_
    exact AW.ret ⟨_, [], ⟨_, _, rfl, rfl, rfl⟩, (by repeat (first | exact List.Sublist.refl _ | refine List.Sublist.cons _ ?_)), rfl, rfl⟩


theorem samePack_spec (F : Frz) {lx ly : List Value} (x : NPack) (hx : tNPack.rel F lx x) (hy : tNPack.rel F ly x) : Abs.Spec CC 61 [.agg ⟨lx⟩, .agg ⟨ly⟩] F [] fun _ v o => o = [] ∧ v = .bool true := by
  obtain ⟨xa, xn, xc, rfl, hxa, hxb⟩ := hx
  obtain ⟨ya, yn, yc, rfl, hya, hyb⟩ := hy
  have hxl := hxa.len
  have hyl := hya.len
  refine Abs.Spec.fn (n := 17) Tryd.func61 rfl rfl fun own => ?_
  refine AW.seq (AW.reg ?_)
  refine WT.boxT zr zr zr zr zr zr (fun i2 hi2 => ?_)
  refine WT.boxT zr zr zr zr zr zr (fun i3 hi3 => ?_)
  refine ze hT zr zr zr zr zr ?_; refine WT.nil ?_; refine AW.seq ?_; refine AW.reg ?_; refine ze hT zr zr zr zr zr ?_; refine zl hT 1 zr zr zr zr zr zr me zr ?_; refine ze hT zr zr zr zr zr ?_; refine zl hT 0 zr zr zr zr zr zr me zr ?_; (iterate 2 refine ze hT zr zr zr zr zr ?_)
  refine WT.know (v' := .bool true) 10 rfl (by congr 1; simp) ?_
  refine ze hT zr zr zr zr zr ?_; refine zl hT 1 zr zr zr zr zr zr me zr ?_; refine ze hT zr zr zr zr zr ?_; refine zl hT 0 zr zr zr zr zr zr me zr ?_
  refine WT.callV Tryd.func42 zr zr zr zr zr zr (equal_spec _ hxa hya (by omega)) (fun v hv => ?_)
  subst hv
  rw [decide_eq_true rfl]
  (iterate 2 refine ze hT zr zr zr zr zr ?_); refine WT.nil ?_
  exact AW.ret ⟨_, [], ⟨_, _, rfl, rfl, rfl⟩, (by repeat (first | exact List.Sublist.refl _ | refine List.Sublist.cons _ ?_)), rfl, rfl⟩

theorem sameNode_spec (F : Frz) {lx ly : List Value} (x : Node) (hf : x.packs.length ≤ 1000000) (hx : tNode.rel F lx x) (hy : tNode.rel F ly x) : Abs.Spec CC 59 [.agg ⟨lx⟩, .agg ⟨ly⟩] F [] fun _ v o => o = [] ∧ v = .bool true := by
  obtain ⟨xa, xn, xc, rfl, hxa⟩ := hx
  obtain ⟨ya, yn, yc, rfl, hya⟩ := hy
  obtain rfl : yn = xn := by rw [hxa.len, hya.len]
  have hxl := hxa.len
  refine Abs.Spec.fn (n := 31) Tryd.func59 rfl rfl fun own => ?_
  refine AW.seq (AW.reg ?_)
  refine WT.boxT zr zr zr zr zr zr (fun i2 hi2 => ?_)
  refine WT.boxT zr zr zr zr zr zr (fun i3 hi3 => ?_)
  refine ze hT zr zr zr zr zr ?_; refine WT.nil ?_; refine AW.seq ?_; refine AW.reg ?_; refine ze hT zr zr zr zr zr ?_; refine zl hT 1 zr zr zr zr zr zr me zr ?_; refine ze hT zr zr zr zr zr ?_; refine zl hT 0 zr zr zr zr zr zr me zr ?_; refine zq hT zr zr zr zr zr zr zr ?_; refine ze hT zr zr zr zr zr ?_
  refine WT.know (v' := .bool true) 10 rfl (by congr 1; simp) ?_
  refine ze hT zr zr zr zr zr ?_; refine zl hT 1 zr zr zr zr zr zr me zr ?_; refine ze hT zr zr zr zr zr ?_; refine zl hT 0 zr zr zr zr zr zr me zr ?_; (iterate 3 refine ze hT zr zr zr zr zr ?_)
  refine WT.know (v' := .bool true) 17 rfl (by congr 1; simp) ?_
  refine ze hT zr zr zr zr zr ?_; refine zl hT 1 zr zr zr zr zr zr me zr ?_; refine ze hT zr zr zr zr zr ?_; refine zl hT 0 zr zr zr zr zr zr me zr ?_; (iterate 3 refine ze hT zr zr zr zr zr ?_)
  refine WT.know (v' := .bool true) 24 rfl (by congr 1; simp) ?_
  refine ze hT zr zr zr zr zr ?_; refine zl hT 1 zr zr zr zr zr zr me zr ?_; refine ze hT zr zr zr zr zr ?_; refine zl hT 0 zr zr zr zr zr zr me zr ?_
  refine WT.callV Tryd.func60 zr zr zr zr zr zr (packEqF_spec _ hxa hya (by omega) (fun G lx ly x _ h1 h2 => samePack_spec G x h1 h2)) (fun v hv => ?_)
  subst hv
  (iterate 2 refine ze hT zr zr zr zr zr ?_); refine WT.nil ?_
  exact AW.ret ⟨_, [], ⟨_, _, rfl, rfl, rfl⟩, (by repeat (first | exact List.Sublist.refl _ | refine List.Sublist.cons _ ?_)), rfl, rfl⟩

theorem same_spec (F : Frz) {a b : Option Addr} {m c d : Nat} {r : Int} {Ns : List Node} (hf : ∀ x ∈ Ns, x.packs.length ≤ 1000000) (hm : m ≤ 1000000) (hx : Arr tNode F a m c Ns) (hy : Arr tNode F b m d Ns) :
    Abs.Spec CC 27 [.agg ⟨[.slice a m c, .int .i64 r]⟩, .agg ⟨[.slice b m d, .int .i64 r]⟩] F [] fun _ v o => o = [] ∧ v = .bool true := by
  refine Abs.Spec.fn (n := 17) Tryd.func27 rfl rfl fun own => ?_
  refine AW.seq (AW.reg ?_)
  refine WT.boxT zr zr zr zr zr zr (fun i2 hi2 => ?_)
  refine WT.boxT zr zr zr zr zr zr (fun i3 hi3 => ?_)
  refine ze hT zr zr zr zr zr ?_; refine WT.nil ?_; refine AW.seq ?_; refine AW.reg ?_; refine ze hT zr zr zr zr zr ?_; refine zl hT 1 zr zr zr zr zr zr me zr ?_; refine ze hT zr zr zr zr zr ?_; refine zl hT 0 zr zr zr zr zr zr me zr ?_; (iterate 2 refine ze hT zr zr zr zr zr ?_)
  refine WT.know (v' := .bool true) 10 rfl (by congr 1; simp) ?_
  refine ze hT zr zr zr zr zr ?_; refine zl hT 1 zr zr zr zr zr zr me zr ?_; refine ze hT zr zr zr zr zr ?_; refine zl hT 0 zr zr zr zr zr zr me zr ?_
  refine WT.callV Tryd.func58 zr zr zr zr zr zr (nodeEqF_spec _ hx hy hm (fun G lx ly x hx2 h1 h2 => sameNode_spec G x (hf x hx2) h1 h2)) (fun v hv => ?_)
  subst hv
  (iterate 2 refine ze hT zr zr zr zr zr ?_); refine WT.nil ?_
  exact AW.ret ⟨_, [], ⟨_, _, rfl, rfl, rfl⟩, (by repeat (first | exact List.Sublist.refl _ | refine List.Sublist.cons _ ?_)), rfl, rfl⟩
end Go.Proofs.D

set_option linter.unusedVariables false
set_option maxRecDepth 20000
set_option maxHeartbeats 0
open Go Go.Abs Go.Proofs Go.Proofs.D
namespace Go.Proofs.D

/-- No end lies before its beginning. -/
def LowOk (E : List (List Nat)) : Prop := ∀ row ∈ E, ∀ (p x : Nat), row[p]? = some x → ∀ q, x.testBit q = true → p ≤ q

theorem EndsOf.low {g : Gram} {w : List Nat} {E : List (List Nat)} (h : EndsOf g w E) : LowOk E := by
  intro row hrow p x hx q hq
  obtain ⟨n, hn, rfl⟩ := List.getElem_of_mem hrow
  have hp := (List.getElem?_eq_some_iff.1 hx).1
  have := h.ok.row _ hrow
  exact der_le ((h.iff n p q (by omega)).1 ⟨_, x, List.getElem?_eq_getElem hn, hx, hq⟩)

theorem low_and {x p : Nat} (h : ∀ q, x.testBit q = true → p ≤ q) : x &&& (2 ^ p - 1) = 0 := by
  apply Nat.eq_of_testBit_eq
  intro q
  rw [Nat.testBit_and, Nat.testBit_two_pow_sub_one, Nat.zero_testBit]
  cases hb : x.testBit q with
  | false => rfl
  | true =>
    have := h q hb
    have : ¬ q < p := by omega
    simp [this]

theorem sub32 {x y : Nat} (hx : x < 4294967296) (hy : y ≤ x) : intBinA .sub .u32 (x : Int) (y : Int) = some (.int .u32 ((x - y : Nat) : Int)) := by
  show some (Value.int .u32 (IntKind.u32.wrap ((x : Int) - y))) = _
  rw [wrapU32 (by omega)]
  congr 2
  omega

theorem fbuild_spec (F : Frz) (hL : Laid F) (g : Gram) (hg : Valid g) {ga : Option Addr} {gm gc : Nat} (hr : Arr tRule F ga gm gc g.rules) {b : Option Addr} {n d : Nat} {w : List Nat} (hw : Arr tNat F b n d w) (hw12 : w.length ≤ 12) (hw2 : ∀ t ∈ w, t < g.terms)
    {a : Option Addr} {m c : Nat} {E : List (List Nat)} (hE : Arr (tList tU32) F a m c E) (hE2 : EndsOk g.nons w.length E) (hlow : LowOk E) :
    Abs.Spec CC 25 [.agg ⟨gramCells g ga gm gc⟩, .slice b n d, .slice a m c] F [] fun F' v o => o = [] ∧ MakeRes g w E F' v := by
  unfold gramCells
  have hwl := hw.len
  subst hwl
  have hEl := hE.len
  have hEs := hE2.size
  have pwl : 2 ^ (w.length + 1) ≤ 8192 := Nat.pow_le_pow_right (j := 13) (by decide) (by omega)
  have hgn := hg.range.nons
  refine Abs.Spec.fn (n := 73) Tryd.func25 rfl rfl fun own => ?_
  refine AW.seq (AW.reg ?_)
  refine WT.boxT zr zr zr zr zr zr (fun i3 hi3 => ?_)
  refine WT.allocT hT zr zr zr zr zr zr (fun i6 hi6 => ?_)
  refine ze hT zr zr zr zr zr ?_; refine WT.nil ?_; (iterate 2 refine AW.seq ?_); refine AW.reg ?_; refine zl hT 1 zr zr zr zr zr zr me zr ?_; refine ze hT zr zr zr zr zr ?_
  refine WT.callV Tryd.func47 zr zr zr zr zr zr (accepts_spec _ hL g hg hr hw hw12 hw2) (fun v hv => ?_)
  subst hv
  (iterate 5 refine ze hT zr zr zr zr zr ?_); refine WT.nil ?_; refine AW.seq ?_; refine AW.reg ?_; (iterate 2 refine ze hT zr zr zr zr zr ?_); refine WT.nil ?_
  refine AW.cond rfl (fun h => (by cases h)) (fun h => ?_)
  refine AW.skip ?_; (iterate 2 refine AW.seq ?_); refine AW.reg ?_; (iterate 3 refine ze hT zr zr zr zr zr ?_); refine zl hT 1 zr zr zr zr zr zr me zr ?_; refine ze hT zr zr zr zr zr ?_; refine WT.nil ?_
  refine AW.cond rfl (fun h => (by exfalso; simp at h; omega)) (fun h => ?_)
  refine AW.skip ?_; (iterate 2 refine AW.seq ?_); refine AW.reg ?_; (iterate 3 refine ze hT zr zr zr zr zr ?_); refine WT.nil ?_
  refine AW.range (S := Unit) (fun _ => []) (fun _ => _) (fun j _ G => True) m () zr zr zr zr zr zr zr zr zr (by omega) rfl rfl (fun _ => rfl) (fun _ => rfl) (SubK.of_map rfl) (OwnLe.refl _) trivial ?_ ?_
  · intro j _ F1 hF1 hj _
    have hE1 := hE.mono hF1
    refine AW.seq ?_; refine AW.reg ?_
    refine WT.idxL hT hE1 zr zr zr zr zr zr zr zr zr (by omega) (fun row hrow b1 off ro cs lx hb1 hp1 hrel => ?_)
    obtain ⟨a2, n2, c2, rfl, hrow2⟩ := hrel
    have hrl := hE2.row row (List.mem_of_getElem? hrow)
    have hr2l := hrow2.len
    refine zi (fo := 0) hT (by assumption) (by assumption) zr zr zr zr zr zr ?_; refine ze hT zr zr zr zr zr ?_; refine WT.nil ?_; (iterate 2 refine AW.seq ?_); refine AW.reg ?_; (iterate 4 refine ze hT zr zr zr zr zr ?_); refine WT.add1 zr zr zr zr zr zr (by omega) ?_; refine ze hT zr zr zr zr zr ?_; refine WT.nil ?_
    refine AW.cond rfl (fun h => (by exfalso; simp at h; omega)) (fun h => ?_)
    refine AW.skip ?_; refine AW.seq ?_; refine AW.reg ?_; (iterate 3 refine ze hT zr zr zr zr zr ?_); refine WT.nil ?_
    refine AW.range (S := Unit) (fun _ => []) (fun _ => _) (fun p _ G => True) n2 () zr zr zr zr zr zr zr zr zr (by omega) rfl rfl (fun _ => rfl) (fun _ => rfl) (SubK.of_map rfl) (OwnLe.refl _) trivial ?_ ?_
    · intro p _ F2 hF2 hp _
      have hrow3 := hrow2.mono hF2
      refine AW.seq ?_; refine AW.reg ?_; refine ze hT zr zr zr zr zr ?_
      refine WT.idxL hT hrow3 zr zr zr zr zr zr zr zr zr (by omega) (fun x hx b3 off3 ro3 cs3 lx3 hb3 hp3 hrel3 => ?_)
      obtain rfl : lx3 = _ := hrel3
      have hxb := hE2.bit row (List.mem_of_getElem? hrow) x (List.mem_of_getElem? hx)
      have hxl := hlow row (List.mem_of_getElem? hrow) p x hx
      have pp : 2 ^ p ≤ 4096 := Nat.pow_le_pow_right (j := 12) (by decide) (by omega)
      have pp0 : 0 < 2 ^ p := Nat.two_pow_pos p
      refine zi (fo := 0) hT (by assumption) (by assumption) zr zr zr zr zr zr ?_; (iterate 2 refine ze hT zr zr zr zr zr ?_); refine WT.nil ?_; refine AW.seq ?_; refine AW.reg ?_; (iterate 2 refine ze hT zr zr zr zr zr ?_)
      refine WT.shl32 (x := 1) (y := p) zr zr zr zr zr zr (by omega) (by omega) ?_
      refine WT.binV zr zr zr zr zr zr (by decide) (sub32 (x := 1 * 2 ^ p) (y := 1) (by omega) (by omega)) ?_
      refine WT.and32 (x := x) (y := 1 * 2 ^ p - 1) zr zr zr zr zr zr (by omega) (by omega) ?_
      refine WT.know (v' := .int .u32 ((0 : Nat) : Int)) 54 rfl (by rw [Nat.one_mul, low_and hxl]) ?_
      refine WT.binV zr zr zr zr zr zr (by decide) (v := .bool false) rfl ?_
      (iterate 4 refine ze hT zr zr zr zr zr ?_); refine WT.add1 zr zr zr zr zr zr (by omega) ?_
      refine WT.shr32 (x := x) (y := w.length + 1) zr zr zr zr zr zr (by omega) ?_
      refine WT.know (v' := .int .u32 ((0 : Nat) : Int)) 61 rfl (by rw [Nat.div_eq_of_lt hxb]) ?_
      refine WT.binV zr zr zr zr zr zr (by decide) (v := .bool false) rfl ?_
      refine ze hT zr zr zr zr zr ?_; refine WT.nil ?_
      refine AW.cond rfl (fun h => (by cases h)) (fun h => ?_)
      refine AW.skip ?_
      exact ⟨(), SubK.of_map rfl, OwnLe.refl _, trivial⟩
    · intro _ F2 hF2 _
      skip
      exact ⟨(), SubK.of_map rfl, OwnLe.refl _, trivial⟩
  · intro _ F1 hF1 _
    have hL1 := hL.mono hF1
    refine AW.seq ?_; refine AW.reg ?_; refine zl hT 1 zr zr zr zr zr zr me zr ?_; (iterate 2 refine ze hT zr zr zr zr zr ?_)
    refine WT.callF0 Tryd.func48 zr zr zr zr zr zr (make_spec _ hL1 g hg (hr.mono hF1) (hw.mono hF1) hw12 (hE.mono hF1) hE2) (fun F2 v hF2 hv => ?_)
    rcases hv with ⟨s, xa, xn, xc, xr, rfl, rfl, hx, hx2⟩ | ⟨rfl, hx, hx2⟩
    · (iterate 2 refine ze hT zr zr zr zr zr ?_); refine zs hT 0 0 zr zr zr zr zr zr zr zr zr zr zr zr ?_; refine ze hT zr zr zr zr zr ?_; refine WT.nil ?_
      exact AW.ret ⟨_, [], ⟨_, _, ⟨_, rfl, fun G h0 s0 => loadA_cells (s0.has (p := 0) rfl (List.mem_cons_self ..)) (readT_ok hT rfl)⟩, ⟨_, _, rfl, rfl, rfl⟩, rfl⟩, (by repeat (first | exact List.Sublist.refl _ | refine List.Sublist.cons _ ?_)), rfl, .inl ⟨_, _, _, _, _, rfl, rfl, hx, hx2⟩⟩
    · (iterate 2 refine ze hT zr zr zr zr zr ?_); refine zs hT 0 0 zr zr zr zr zr zr zr zr zr zr zr zr ?_; refine ze hT zr zr zr zr zr ?_; refine WT.nil ?_
      exact AW.ret ⟨_, [], ⟨_, _, ⟨_, rfl, fun G h0 s0 => loadA_cells (s0.has (p := 0) rfl (List.mem_cons_self ..)) (readT_ok hT rfl)⟩, ⟨_, _, rfl, rfl, rfl⟩, rfl⟩, (by repeat (first | exact List.Sublist.refl _ | refine List.Sublist.cons _ ?_)), rfl, .inr ⟨rfl, hx, hx2⟩⟩
end Go.Proofs.D

set_option linter.unusedVariables false
set_option maxRecDepth 20000
set_option maxHeartbeats 0
open Go Go.Abs Go.Proofs Go.Proofs.D
namespace Go.Proofs.D

theorem endsOf_uniq {g : Gram} {w : List Nat} {E E' : List (List Nat)} (h : EndsOf g w E) (h' : EndsOf g w E') : E = E' := by
  refine List.ext_getElem (by rw [h.ok.size, h'.ok.size]) fun n h1 h2 => ?_
  have l1 := h.ok.row _ (List.getElem_mem h1)
  have l2 := h'.ok.row _ (List.getElem_mem h2)
  refine List.ext_getElem (by rw [l1, l2]) fun i h3 h4 => ?_
  refine Nat.eq_of_testBit_eq fun q => ?_
  rw [Bool.eq_iff_iff]
  have e1 : (E[n][i]).testBit q = true ↔ Der g w ⟨false, n⟩ i q := by
    rw [← h.iff n i q (by omega)]
    constructor
    · intro hb; exact ⟨_, _, List.getElem?_eq_getElem h1, List.getElem?_eq_getElem h3, hb⟩
    · rintro ⟨row, x, r1, r2, r3⟩
      rw [List.getElem?_eq_getElem h1] at r1; cases r1
      rw [List.getElem?_eq_getElem h3] at r2; cases r2
      exact r3
  have e2 : (E'[n][i]).testBit q = true ↔ Der g w ⟨false, n⟩ i q := by
    rw [← h'.iff n i q (by omega)]
    constructor
    · intro hb; exact ⟨_, _, List.getElem?_eq_getElem h2, List.getElem?_eq_getElem h4, hb⟩
    · rintro ⟨row, x, r1, r2, r3⟩
      rw [List.getElem?_eq_getElem h2] at r1; cases r1
      rw [List.getElem?_eq_getElem h4] at r2; cases r2
      exact r3
  rw [e1, e2]

theorem sum_sub {α : Type} [DecidableEq α] (f : α → Nat) : ∀ (L S : List α), L.Nodup → (∀ x ∈ L, x ∈ S) → (L.map f).sum ≤ (S.map f).sum
  | [], S, _, _ => Nat.zero_le _
  | x :: L, S, hn, hs => by
    obtain ⟨h1, h2⟩ := List.nodup_cons.1 hn
    have hp := List.perm_cons_erase (hs x (List.mem_cons_self ..))
    have := (hp.map f).sum_nat
    rw [this, List.map_cons, List.map_cons, List.sum_cons, List.sum_cons]
    refine Nat.add_le_add_left (sum_sub f L (S.erase x) h2 fun y hy => ?_) _
    rw [List.mem_erase_of_ne (by rintro rfl; exact h1 hy)]
    exact hs y (List.mem_cons_of_mem _ hy)

theorem makeRes_form {g : Gram} {w : List Nat} {E : List (List Nat)} {F : Frz} {v : Value} (h : MakeRes g w E F v) : ∃ a n c r e, v = .tuple ⟨[.agg ⟨[.slice a n c, .int .i64 r]⟩, .int .i64 e]⟩ := by
  rcases h with ⟨s, a, n, c, r, rfl, rfl, _⟩ | ⟨rfl, _⟩
  · exact ⟨_, _, _, _, _, rfl⟩
  · exact ⟨_, _, _, _, _, rfl⟩

theorem makeRes_cases {g : Gram} {w : List Nat} {E : List (List Nat)} {F : Frz} {a : Option Addr} {n c : Nat} {r e : Int} (h : MakeRes g w E F (.tuple ⟨[.agg ⟨[.slice a n c, .int .i64 r]⟩, .int .i64 e]⟩)) :
    (e = 0 ∧ ((stepB w E ⟨false, g.start⟩ 0 w.length = false ∧ a = none ∧ n = 0 ∧ c = 0 ∧ r = -1) ∨
      (stepB w E ⟨false, g.start⟩ 0 w.length = true ∧ ∃ S, r = (place S (rootKey g w) : Nat) ∧ Keys g w E (rootKey g w) S ∧ Arr tNode F a n c (S.map (mkNode g w E S)) ∧ packSum g w E S ≤ 20000))) ∨
    (e = 2 ∧ a = none ∧ n = 0 ∧ c = 0 ∧ r = 0 ∧ stepB w E ⟨false, g.start⟩ 0 w.length = true ∧ ∃ L : List Key, L.Nodup ∧ (∀ k ∈ L, Reachable g w E (rootKey g w) k) ∧ 20000 < packSum g w E L) := by
  rcases h with ⟨s, a', n', c', r', hs, he, hx, hx2⟩ | ⟨he, hx, hx2⟩
  · subst hs
    cases he
    refine .inl ⟨rfl, ?_⟩
    rcases hx with ⟨h1, h2⟩ | ⟨h1, S, a2, n2, c2, h2, hK, hA⟩
    · cases h2
      exact .inl ⟨h1, rfl, rfl, rfl, rfl⟩
    · cases h2
      exact .inr ⟨h1, S, rfl, hK, hA, hx2 S hK h1⟩
  · cases he
    exact .inr ⟨rfl, rfl, rfl, rfl, rfl, hx, hx2⟩

theorem makeRes_pair {g : Gram} (hg : Valid g) {w : List Nat} (hw12 : w.length ≤ 12) {E : List (List Nat)} {F F' : Frz} {a a' : Option Addr} {n n' c c' : Nat} {r r' e e' : Int} (h : MakeRes g w E F (.tuple ⟨[.agg ⟨[.slice a n c, .int .i64 r]⟩, .int .i64 e]⟩)) (h' : MakeRes g w E F' (.tuple ⟨[.agg ⟨[.slice a' n' c', .int .i64 r']⟩, .int .i64 e']⟩)) :
    n' = n ∧ r' = r ∧ e' = e ∧ n ≤ 1000000 ∧ ∃ Ns, (∀ x ∈ Ns, x.packs.length ≤ 1000000) ∧ Arr tNode F a n c Ns ∧ Arr tNode F' a' n c' Ns := by
  have big : ∀ {S L : List Key}, Keys g w E (rootKey g w) S → packSum g w E S ≤ 20000 → L.Nodup → (∀ k ∈ L, Reachable g w E (rootKey g w) k) → 20000 < packSum g w E L → False := fun {S L} hK h1 h2 h3 h4 => by
    have : packSum g w E L ≤ packSum g w E S := sum_sub _ L S h2 fun x hx => hK.all (h3 x hx)
    omega
  rcases makeRes_cases h with ⟨he, h1⟩ | ⟨he, ha, hn, hc, hr, hst, L, hL1, hL2, hL3⟩
  · rcases makeRes_cases h' with ⟨he', h1'⟩ | ⟨he', ha', hn', hc', hr', hst', L, hL1, hL2, hL3⟩
    · rcases h1 with ⟨h2, ha, hn, hc, hr⟩ | ⟨h2, S, hr, hK, hA, hS⟩
      · rcases h1' with ⟨h2', ha', hn', hc', hr'⟩ | ⟨h2', _⟩
        · subst ha hn hc hr ha' hn' hc' hr'
          exact ⟨rfl, rfl, by rw [he, he'], by omega, [], fun x hx => (by cases hx), Arr.nil_ _ _, Arr.nil_ _ _⟩
        · rw [h2] at h2'; cases h2'
      · rcases h1' with ⟨h2', _⟩ | ⟨h2', S', hr', hK', hA', hS'⟩
        · rw [h2] at h2'; cases h2'
        · obtain rfl := keys_uniq hK hK'
          have hnn : n' = n := by rw [hA.len, hA'.len]
          subst hnn
          have hok := nodes_ok hg hw12 hK (root_good hg w)
          exact ⟨rfl, by rw [hr, hr'], by rw [he, he'], by have := hok.few; rw [← hA.len] at this; exact this, _, hok.packs, hA, hA'⟩
    · exfalso
      rcases h1 with ⟨h2, _⟩ | ⟨h2, S, hr, hK, hA, hS⟩
      · rw [hst'] at h2; cases h2
      · exact big hK hS hL1 hL2 hL3
  · rcases makeRes_cases h' with ⟨he', h1'⟩ | ⟨he', ha', hn', hc', hr', _⟩
    · exfalso
      rcases h1' with ⟨h2, _⟩ | ⟨h2, S, hr, hK, hA, hS⟩
      · rw [hst] at h2; cases h2
      · exact big hK hS hL1 hL2 hL3
    · subst ha hn hc hr ha' hn' hc' hr'
      exact ⟨rfl, rfl, by rw [he, he'], by omega, [], fun x hx => (by cases hx), Arr.nil_ _ _, Arr.nil_ _ _⟩

theorem rows_arr {F G : Frz} {a : Option Addr} {n c : Nat} {B bs : List (Nat × Blk)} {vs : List Value} {E : List (List Nat)} (hn : n ≠ 0) (hb : Bld tRaw F a n c B vs) (hR : Abs.Rows cU32 vs bs E) (hEl : E.length = n) (hG : ∀ i b, (i, b) ∈ B ++ bs → G i = some b) : Arr (tList tU32) G a n c E := by
  have hblen := hb.len
  obtain ⟨io, cs, hia, hic, hiB, hcells, _⟩ := hb.at_.resolve_left (fun h => by rw [h.1] at hblen; simp at hblen; omega)
  have hcs := cells_raw hcells
  subst hcs
  have hic : c = 1 := hic
  have := Abs.Rows.arr (K := cU32) (R := tU32) rfl (fun _ _ => rfl) (F := G) (o := io) (c := if E.length = 0 then 0 else 1) (ro := false) hR (fun i b hm => hG i b (List.mem_append_right _ hm)) rfl (hG io _ (by rw [hiB]; exact List.mem_append_left _ (List.mem_cons_self ..)))
  rw [hEl, if_neg hn] at this
  rw [hia, hic]
  exact this

theorem forestBuilt_law (F : Frz) (hL : Laid F) {a b : Option Addr} {m n c d : Nat} {l w0 : List Int} (hl : Arr tInt F a m c l) (hw0 : Arr tInt F b n d w0) (hm : n ≤ 9223372036854775807) :
    Abs.Spec CC 5 [.slice a m c, .slice b n d] F [] fun _ v o => o = [] ∧ v = .bool true := by
  refine Abs.Spec.fn (n := 42) Tryd.func5 rfl rfl fun own => ?_
  refine AW.seq ?_; refine AW.reg ?_; refine ze hT zr zr zr zr zr ?_; refine WT.nil ?_; refine AW.seq ?_; refine AW.reg ?_; (iterate 2 refine ze hT zr zr zr zr zr ?_)
  refine WT.callF0 Tryd.func13 zr zr zr zr zr zr (made_spec _ hl hw0 hm 6 (by decide)) (fun F1 v hF1 hv => ?_)
  obtain ⟨g, ga, gm, gc, wa, wn, wc, w, rfl, hg, hr, hw, hw1, hw2⟩ := hv
  have hL1 := hL.mono hF1
  have hwlen := hw.len
  subst hwlen
  have hgn := hg.nons
  have hv := hg.valid
  unfold gramCells
  (iterate 3 refine ze hT zr zr zr zr zr ?_)
  refine WT.allocT hT zr zr zr zr zr zr (fun i5 hi5 => ?_)
  refine zs hT 0 0 zr zr zr zr zr zr zr zr zr zr zr zr ?_; refine ze hT zr zr zr zr zr ?_; refine WT.nil ?_; refine AW.seq ?_; refine AW.reg ?_; refine zl hT 0 zr zr zr zr zr zr me zr ?_; refine ze hT zr zr zr zr zr ?_
  refine WT.callF0 Tryd.func16 zr zr zr zr zr zr (forestOf_spec _ hL1 g hv hr hw (by omega) hw2) (fun F2 v hF2 hv2 => ?_)
  obtain ⟨E, hE, hv2⟩ := hv2
  obtain ⟨fa, fn, fc, fr, fe, rfl⟩ := makeRes_form hv2
  have hL2 := hL1.mono hF2
  have hw3 := hw.mono hF2
  have hr3 := hr.mono hF2
  (iterate 3 refine ze hT zr zr zr zr zr ?_)
  refine WT.allocT hT zr zr zr zr zr zr (fun i6 hi6 => ?_)
  refine zs hT 0 0 zr zr zr zr zr zr zr zr zr zr zr zr ?_; refine ze hT zr zr zr zr zr ?_; refine WT.nil ?_; refine AW.seq ?_
  refine AW.draw (ps := [(0, 4), (0, 9), (2, 9)]) rfl rfl ?_
  refine zl hT 1 zr zr zr zr zr zr me zr ?_; refine ze hT zr zr zr zr zr ?_; refine zl hT 1 zr zr zr zr zr zr me zr ?_; refine ze hT zr zr zr zr zr ?_
  refine WT.callN Tryd.func26 zr zr zr zr zr zr (mparts_spec _ hL2 g hv hr3 hw3 (by omega) hw2) (fun F3 v B3 hF3 hv3 => ?_)
  obtain ⟨B, bs, pa, pc, vs, E2, rfl, rfl, hb, hR, hE2⟩ := hv3
  obtain rfl := endsOf_uniq hE hE2
  refine WT.freezeAll 0 rfl rfl (fun F4 hF4 hB4 => ?_)
  have hEa : Arr (tList tU32) F4 pa g.nons pc E := rows_arr (by omega) hb hR hE.ok.size hB4
  have hF24 := hF3.trans hF4
  refine WT.callF0 Tryd.func25 zr zr zr zr zr zr (fbuild_spec _ (hL2.mono hF24) g hv (hr3.mono hF24) (hw3.mono hF24) (by omega) hw2 hEa hE.ok hE.low) (fun F5 v hF5 hv5 => ?_)
  obtain ⟨ga2, gn2, gc2, gr2, ge2, rfl⟩ := makeRes_form hv5
  obtain ⟨rfl, rfl, rfl, hfew, Ns, hpk, hN1, hN2⟩ := makeRes_pair hv (by omega) hv2 hv5
  (iterate 3 refine ze hT zr zr zr zr zr ?_)
  refine WT.allocT hT zr zr zr zr zr zr (fun i8 hi8 => ?_)
  refine zs hT 0 0 zr zr zr zr zr zr zr zr zr zr zr zr ?_; refine ze hT zr zr zr zr zr ?_; refine WT.nil ?_
  refine ⟨(by repeat (first | exact trivial | refine recs_pair rfl rfl (by first | exact keep0 | exact keep1 (keeps_frz (by assumption)) | exact kp 0 0 me me | exact kp 1 1 me me | exact kp 2 2 me me | exact kp 3 3 me me | exact kp 4 4 me me | exact kp 5 5 me me | exact kp 6 6 me me | exact kp 0 1 me me | exact kp 1 2 me me | exact kp 2 3 me me | exact kp 3 4 me me | exact kp 4 5 me me | exact kp 5 6 me me | exact kp 6 7 me me) ?_)), ?_⟩
  refine AW.seq ?_; refine AW.reg ?_
  refine WT.callV Tryd.func18 zr zr zr zr zr zr (Abs.Spec.fact rfl ((hL2.mono hF24).mono hF5)) (fun v hv => ?_)
  subst hv
  (iterate 6 refine ze hT zr zr zr zr zr ?_)
  refine WT.know (v' := .bool true) 37 rfl (by congr 1; simp) ?_
  refine zl hT 2 zr zr zr zr zr zr me zr ?_; refine zl hT 0 zr zr zr zr zr zr me zr ?_
  refine WT.callV Tryd.func27 zr zr zr zr zr zr (same_spec _ hpk hfew ((hN1.mono hF24).mono hF5) hN2) (fun v hv => ?_)
  subst hv
  (iterate 2 refine ze hT zr zr zr zr zr ?_); refine WT.nil ?_
  exact AW.ret ⟨_, [], ⟨_, _, rfl, rfl, rfl⟩, (by repeat (first | exact List.Sublist.refl _ | refine List.Sublist.cons _ ?_)), rfl, rfl⟩
end Go.Proofs.D

set_option linter.unusedVariables false
set_option maxRecDepth 20000
set_option maxHeartbeats 0
open Go Go.Abs Go.Proofs Go.Proofs.D
namespace Go.Abs
/-- Lent blocks, where the call's result is frozen: it is told in a frame that holds the lent blocks too. -/
theorem Spec.lendBF {C : Ctx} {f : FuncId} {args : List Value} {F : Frz} {P : Frz → Value → Prop} {B : List (Nat × Blk)}
    (spec : ∀ G, Frz.le F G → (∀ i b, (i, b) ∈ B → G i = some b) → Spec C f args G [] fun F' v o => o = [] ∧ P F' v) :
    Spec C f args F [B] fun F2 v o => ∃ B', o = [B'] ∧ B' = B ∧ ∃ F', P F' v ∧ ∀ i b, F' i = some b → F2 i = some b ∨ (i, b) ∈ B := by
  intro own h hs
  have hs : St F (B :: own) h := hs
  obtain ⟨s1, hle, hB⟩ := hs.freezeAll
  obtain ⟨v, h', F', oout, h1, h2, h3, rfl, h4⟩ := spec _ hle hB own h s1
  have s0 : StF F (B ++ own.flatten) h := by simpa [St] using hs
  have hnd := s0.nodup
  rw [List.map_append, List.nodup_append] at hnd
  have h3' : StF F' own.flatten h' := h3
  have hF' : ∀ i b, (i, b) ∈ B → F' i = some b := fun i b hm => h2 i b (hB i b hm)
  refine ⟨v, h', fun i => if (B.map (·.1)).contains i = true then none else F' i, [B], h1, fun i b q => ?_, ?_, B, rfl, rfl, F', h4, fun i b q => ?_⟩
  · have hn : (B.map (·.1)).contains i = false := by
      cases hc : (B.map (·.1)).contains i with
      | false => rfl
      | true =>
        obtain ⟨p, hp, rfl⟩ := List.mem_map.1 (List.contains_iff_mem.1 hc)
        have := s0.apart p (List.mem_append_left _ hp)
        rw [q] at this; cases this
    simp only [hn, Bool.false_eq_true, if_false]
    exact h2 i b (hle i b q)
  · show StF _ (B ++ own.flatten) h'
    refine ⟨fun i b q => ?_, fun p hp => ?_, fun p hp => ?_, ?_, h3'.wf⟩
    · split at q
      · cases q
      · exact h3'.frz i b q
    · rcases List.mem_append.1 hp with hp | hp
      · exact h3'.frz _ _ (hF' p.1 p.2 hp)
      · exact h3'.has p hp
    · rcases List.mem_append.1 hp with hp | hp
      · show (if _ then _ else _) = _
        rw [if_pos (List.contains_iff_mem.2 (List.mem_map_of_mem hp))]
      · show (if _ then _ else _) = _
        split
        · rfl
        · exact h3'.apart p hp
    · rw [List.map_append, List.nodup_append]
      refine ⟨hnd.1, h3'.nodup, fun a ha b hb => ?_⟩
      obtain ⟨p, hp, rfl⟩ := List.mem_map.1 ha
      obtain ⟨q, hq, rfl⟩ := List.mem_map.1 hb
      intro e
      have h5 := h3'.apart q hq
      rw [← e, hF' p.1 p.2 hp] at h5
      cases h5
  · show (if _ then _ else _) = _ ∨ _
    by_cases hc : (B.map (·.1)).contains i = true
    · right
      obtain ⟨p, hp, rfl⟩ := List.mem_map.1 (List.contains_iff_mem.1 hc)
      have := hF' p.1 p.2 hp
      rw [q] at this
      obtain rfl := Option.some.inj this
      exact hp
    · left
      rw [if_neg hc]; exact q
end Go.Abs
namespace Go.Proofs.D

/-- What a table of ends is made of. -/
def BV (v : Value) : Prop := (∃ x : Int, v = .int .u32 x) ∨ ∃ a n c, v = .slice a n c
def BLike (b : Blk) : Prop := ∃ cs, b = .cells false cs ∧ ∀ v ∈ cs, BV v

theorem rows_like {vs : List Value} {bs : List (Nat × Blk)} {E : List (List Nat)} (h : Abs.Rows cU32 vs bs E) : (∀ p ∈ bs, BLike p.2) ∧ ∀ v ∈ vs, BV v := by
  induction h with
  | nil => exact ⟨fun p hp => (by cases hp), fun v hv => (by cases hv)⟩
  | cons hc _ ih =>
    refine ⟨fun p hp => ?_, fun v hv => ?_⟩
    · rcases List.mem_cons.1 hp with rfl | hp
      · refine ⟨_, rfl, fun v hv => ?_⟩
        obtain ⟨x, _, rfl⟩ := List.mem_map.1 hv
        exact .inl ⟨_, rfl⟩
      · exact ih.1 p hp
    · rcases List.mem_cons.1 hv with rfl | hv
      · exact .inr ⟨_, _, _, rfl⟩
      · exact ih.2 v hv

theorem partL_mem {cs l : List Value} {off n : Nat} (h : partL cs off n = some l) : ∀ v ∈ l, v ∈ cs := by
  unfold partL at h
  simp only at h
  cases hb : ((cs.drop off).take n).length == n with
  | false => rw [hb] at h; cases h
  | true =>
    rw [hb] at h
    obtain rfl := Option.some.inj h
    exact fun v hv => List.mem_of_mem_drop (List.mem_of_mem_take hv)

/-- A frame without the blocks of a table. -/
def Less (F' F2 : Frz) : Prop := ∀ i b, F' i = some b → F2 i = some b ∨ BLike b

theorem Arr.less {α : Type} {R : Ty α} {F' F2 : Frz} (hF : Less F' F2) (hR : ∀ l x, R.rel F' l x → R.rel F2 l x ∧ ∃ v ∈ l, ¬ BV v) {a : Option Addr} {n c : Nat} {xs : List α} (h : Arr R F' a n c xs) : Arr R F2 a n c xs :=
  ⟨h.len, h.cap, h.zero, h.nil, h.spot, fun j x hj => by
    obtain ⟨b, off, ro, cs, l, h1, h2, h3, h4⟩ := h.el j x hj
    obtain ⟨h5, v, hv, hn⟩ := hR l x h4
    rcases hF b _ h2 with h6 | ⟨cs', h6, h7⟩
    · exact ⟨b, off, ro, cs, l, h1, h6, h3, h5⟩
    · cases h6
      exact absurd (h7 v (partL_mem h3 v hv)) hn⟩

theorem not_bv_int {x : Int} : ¬ BV (.int .i64 x) := by
  rintro (⟨y, h⟩ | ⟨a, n, c, h⟩)
  · cases h
  · cases h

theorem not_bv_bool {x : Bool} : ¬ BV (.bool x) := by
  rintro (⟨y, h⟩ | ⟨a, n, c, h⟩)
  · cases h
  · cases h

theorem nats_less {F' F2 : Frz} (hF : Less F' F2) {a : Option Addr} {n c : Nat} {xs : List Nat} (h : Arr tNat F' a n c xs) : Arr tNat F2 a n c xs :=
  Arr.less hF (fun l x h => by
    have h0 : l = [.int .i64 x] := h
    exact ⟨h, .int .i64 x, by rw [h0]; exact List.mem_cons_self .., not_bv_int⟩) h

theorem npacks_less {F' F2 : Frz} (hF : Less F' F2) {a : Option Addr} {n c : Nat} {xs : List NPack} (h : Arr tNPack F' a n c xs) : Arr tNPack F2 a n c xs :=
  Arr.less hF (fun l x h => by
    obtain ⟨a, n, c, rfl, h1, h2⟩ := h
    exact ⟨⟨a, n, c, rfl, nats_less hF h1, h2⟩, _, List.mem_cons_self .., not_bv_int⟩) h

theorem nodes_less {F' F2 : Frz} (hF : Less F' F2) {a : Option Addr} {n c : Nat} {xs : List Node} (h : Arr tNode F' a n c xs) : Arr tNode F2 a n c xs :=
  Arr.less hF (fun l x h => by
    obtain ⟨a, n, c, rfl, h1⟩ := h
    exact ⟨⟨a, n, c, rfl, npacks_less hF h1⟩, _, List.mem_cons_self .., not_bv_bool⟩) h

theorem makeRes_less {g : Gram} {w : List Nat} {E : List (List Nat)} {F' F2 : Frz} (hF : Less F' F2) {v : Value} (h : MakeRes g w E F' v) : MakeRes g w E F2 v := by
  rcases h with ⟨s, a, n, c, r, h1, h2, h3, h4⟩ | h
  · refine .inl ⟨s, a, n, c, r, h1, h2, ?_, h4⟩
    rcases h3 with h3 | ⟨h5, S, a', n', c', h6, h7, h8⟩
    · exact .inl h3
    · exact .inr ⟨h5, S, a', n', c', h6, h7, nodes_less hF h8⟩
  · exact .inr h

/-! ### smaller tables -/
/-- The bits of the one are bits of the other. -/
structure Sub (E' E : List (List Nat)) : Prop where
  size : E'.length = E.length
  row : ∀ (n : Nat) (r' : List Nat), E'[n]? = some r' → ∃ r, E[n]? = some r ∧ r'.length = r.length ∧ ∀ (i x' : Nat), r'[i]? = some x' → ∃ x, r[i]? = some x ∧ ∀ q, x'.testBit q = true → x.testBit q = true

theorem Sub.refl (E : List (List Nat)) : Sub E E := ⟨rfl, fun n r h => ⟨r, h, rfl, fun i x h => ⟨x, h, fun _ h => h⟩⟩⟩

theorem Sub.step {w : List Nat} {E' E : List (List Nat)} (h : Sub E' E) {s : Sym} {i j : Nat} (hs : stepB w E' s i j = true) : stepB w E s i j = true := by
  rw [stepB_iff] at hs ⊢
  unfold Step at hs ⊢
  split
  · rename_i ht
    rw [if_pos ht] at hs
    exact hs
  · rename_i ht
    rw [if_neg ht] at hs
    obtain ⟨r', x', h1, h2, h3⟩ := hs
    obtain ⟨r, h4, _, h5⟩ := h.row _ _ h1
    obtain ⟨x, h6, h7⟩ := h5 _ _ h2
    exact ⟨r, x, h4, h6, h7 _ h3⟩

theorem Sub.ok {n len : Nat} {E' E : List (List Nat)} (h : Sub E' E) (hE : EndsOk n len E) : EndsOk n len E' where
  size := by rw [h.size, hE.size]
  row := fun r' hr' => by
    obtain ⟨k, hk, rfl⟩ := List.getElem_of_mem hr'
    obtain ⟨r, h1, h2, _⟩ := h.row k _ (List.getElem?_eq_getElem hk)
    rw [h2, hE.row r (List.mem_of_getElem? h1)]
  bit := fun r' hr' x' hx' => by
    obtain ⟨k, hk, rfl⟩ := List.getElem_of_mem hr'
    obtain ⟨i, hi, rfl⟩ := List.getElem_of_mem hx'
    obtain ⟨r, h1, _, h2⟩ := h.row k _ (List.getElem?_eq_getElem hk)
    obtain ⟨x, h3, h4⟩ := h2 i _ (List.getElem?_eq_getElem hi)
    have hb := hE.bit r (List.mem_of_getElem? h1) x (List.mem_of_getElem? h3)
    refine Nat.lt_pow_two_of_testBit _ fun q hq => ?_
    cases hbq : (E'[k][i]).testBit q with
    | false => rfl
    | true =>
      have := testBit_lt hb (h4 q hbq)
      omega

theorem Sub.low {E' E : List (List Nat)} (h : Sub E' E) (hE : LowOk E) : LowOk E' := by
  intro r' hr' p x' hx' q hq
  obtain ⟨k, hk, rfl⟩ := List.getElem_of_mem hr'
  obtain ⟨r, h1, _, h2⟩ := h.row k _ (List.getElem?_eq_getElem hk)
  obtain ⟨x, h3, h4⟩ := h2 p _ hx'
  exact hE r (List.mem_of_getElem? h1) p x h3 q (h4 q hq)

theorem flat_sub {α β : Type} (f h : α → List β) : ∀ (l : List α), (∀ x ∈ l, (f x).Sublist (h x)) → (l.flatMap f).Sublist (l.flatMap h)
  | [], _ => List.Sublist.refl _
  | x :: l, hs => by
    rw [List.flatMap_cons, List.flatMap_cons]
    exact (hs x (List.mem_cons_self ..)).append (flat_sub f h l fun y hy => hs y (List.mem_cons_of_mem _ hy))

theorem Sub.splitsL {w : List Nat} {E' E : List (List Nat)} (h : Sub E' E) {to : Nat} : ∀ (l : List Sym) (i : Nat), (splits w E' to l i).Sublist (splits w E to l i)
  | [], i => by unfold splits; exact List.Sublist.refl _
  | s :: l, i => by
    unfold splits
    refine flat_sub _ _ _ fun m _ => ?_
    split
    · rename_i hs
      rw [if_pos (h.step hs)]
      exact (h.splitsL l m).map _
    · exact List.nil_sublist _

theorem Sub.packs {g : Gram} {w : List Nat} {E' E : List (List Nat)} (h : Sub E' E) (k : Key) : (packsOf g w E' k).Sublist (packsOf g w E k) := by
  unfold packsOf
  refine flat_sub _ _ _ fun i _ => ?_
  unfold packsAt
  split
  · split
    · exact (h.splitsL _ _).map _
    · exact List.Sublist.refl _
  · exact List.Sublist.refl _

theorem Sub.reach {g : Gram} {w : List Nat} {E' E : List (List Nat)} (h : Sub E' E) {root k : Key} (hr : Reachable g w E' root k) : Reachable g w E root k := by
  induction hr with
  | root => exact .root
  | kid _ hp hq ih => exact .kid ih ((h.packs _).subset hp) hq

theorem Sub.sum {g : Gram} {w : List Nat} {E' E : List (List Nat)} (h : Sub E' E) (L : List Key) : packSum g w E' L ≤ packSum g w E L := by
  unfold packSum
  induction L with
  | nil => exact Nat.le_refl _
  | cons k L ih =>
    rw [List.map_cons, List.map_cons, List.sum_cons, List.sum_cons]
    exact Nat.add_le_add (h.packs k).length_le ih
end Go.Proofs.D

set_option linter.unusedVariables false
set_option maxRecDepth 20000
set_option maxHeartbeats 0
open Go Go.Abs Go.Proofs Go.Proofs.D
namespace Go.Proofs.D

theorem nodeIndex_spec (F : Frz) {a : Option Addr} {m c : Nat} {xs : List Node} (hx : Arr tNode F a m c xs) (hm : m ≤ 1000000) (p : Node → Bool) {g : Nat} {fn : Func} {first capt : List Value} (hg : CC.func g = some fn) (hgb : fn.body.isSome = true)
    (hp : ∀ x ∈ xs, ∀ b n d, Arr tNPack F b n d x.packs → Abs.Spec CC g (first ++ [.agg ⟨[.bool x.key.sym.term, .int .i64 x.key.sym.n, .int .i64 x.key.frm, .int .i64 x.key.to, .slice b n d]⟩] ++ capt) F [] fun _ v o => o = [] ∧ v = .bool (p x)) :
    Abs.Spec CC 54 [.slice a m c, .func (.func g) ⟨first⟩ ⟨capt⟩] F [] fun _ v o => o = [] ∧ v = .int .i64 (idxOf p xs) := by
  refine Abs.Spec.fn (n := 19) Tryd.func54 rfl rfl fun own => ?_
  have hxlen := hx.len
  refine AW.seq ?_; refine AW.reg ?_; refine ze hT zr zr zr zr zr ?_; refine WT.nil ?_; (iterate 2 refine AW.seq ?_); refine AW.reg ?_; (iterate 3 refine ze hT zr zr zr zr zr ?_); refine WT.nil ?_
  refine AW.range (S := Unit) (fun _ => []) (fun _ => _) (fun j _ G => G = F ∧ ∀ y ∈ xs.take j, p y = false) m () zr zr zr zr zr zr zr zr zr (by omega) rfl rfl (fun _ => rfl) (fun _ => rfl) (SubK.of_map rfl) (OwnLe.refl _) ⟨rfl, by simp⟩ ?_ ?_
  · intro j _ F1 hF1 hj hP
    obtain ⟨rfl, hP⟩ := hP
    refine AW.seq ?_; refine AW.reg ?_; (iterate 2 refine ze hT zr zr zr zr zr ?_); refine WT.nil ?_; refine AW.seq ?_; refine AW.reg ?_; (iterate 3 refine ze hT zr zr zr zr zr ?_)
    refine WT.idxL hT hx zr zr zr zr zr zr zr zr zr (by omega) (fun x hxj b1 off ro cs lx hb hp1 hrel => ?_)
    obtain ⟨b2, n2, d2, rfl, hx2⟩ := hrel
    refine zi (fo := 0) hT (by assumption) (by assumption) zr zr zr zr zr zr ?_
    refine WT.callC hg hgb zr zr zr zr zr zr zr (hp x (List.mem_of_getElem? hxj) _ _ _ hx2) (fun v hv => ?_)
    subst hv
    refine WT.nil ?_
    refine AW.cond rfl (fun hc => ?_) (fun hc => ?_)
    · refine AW.seq ?_; refine AW.reg ?_; (iterate 2 refine ze hT zr zr zr zr zr ?_); refine WT.nil ?_
      refine AW.ret ⟨_, [], ⟨_, _, rfl, rfl, rfl⟩, (by repeat (first | exact List.Sublist.refl _ | refine List.Sublist.cons _ ?_)), rfl, ?_⟩
      rw [idxOf_at hxj hc hP]; rfl
    · refine AW.skip ?_
      exact ⟨(), SubK.of_map rfl, (by repeat (first | exact OwnLe.refl _ | refine OwnLe.skip _ ?_)), rfl, take_all hxj hP hc⟩
  · intro _ F1 hF1 hP
    obtain ⟨rfl, hP⟩ := hP
    rw [List.take_of_length_le (by omega)] at hP
    refine AW.seq ?_; refine AW.reg ?_; refine ze hT zr zr zr zr zr ?_; refine WT.nil ?_
    refine AW.ret ⟨_, [], ⟨_, _, rfl, rfl, rfl⟩, (by repeat (first | exact List.Sublist.refl _ | refine List.Sublist.cons _ ?_)), rfl, ?_⟩
    rw [idxOf_none hP]; rfl

theorem nodeAny_spec (F : Frz) {a : Option Addr} {m c : Nat} {xs : List Node} (hx : Arr tNode F a m c xs) (hm : m ≤ 1000000) (p : Node → Bool) {g : Nat} {fn : Func} {first capt : List Value} (hg : CC.func g = some fn) (hgb : fn.body.isSome = true)
    (hp : ∀ x ∈ xs, ∀ b n d, Arr tNPack F b n d x.packs → Abs.Spec CC g (first ++ [.agg ⟨[.bool x.key.sym.term, .int .i64 x.key.sym.n, .int .i64 x.key.frm, .int .i64 x.key.to, .slice b n d]⟩] ++ capt) F [] fun _ v o => o = [] ∧ v = .bool (p x)) :
    Abs.Spec CC 20 [.slice a m c, .func (.func g) ⟨first⟩ ⟨capt⟩] F [] fun _ v o => o = [] ∧ v = .bool (xs.any p) := by
  refine Abs.Spec.fn (n := 9) Tryd.func20 rfl rfl fun own => ?_
  refine AW.seq ?_; refine AW.reg ?_; refine ze hT zr zr zr zr zr ?_; refine WT.nil ?_; refine AW.seq ?_; refine AW.reg ?_; (iterate 2 refine ze hT zr zr zr zr zr ?_)
  refine WT.callV Tryd.func54 zr zr zr zr zr zr (nodeIndex_spec _ hx hm p hg hgb hp) (fun v hv => ?_)
  subst hv
  (iterate 2 refine ze hT zr zr zr zr zr ?_); refine WT.nil ?_
  refine AW.ret ⟨_, [], ⟨_, _, rfl, rfl, rfl⟩, (by repeat (first | exact List.Sublist.refl _ | refine List.Sublist.cons _ ?_)), rfl, ?_⟩
  rw [← idxOf_nonneg]; rfl


/-- The same place, with as many packs or more. -/
def lessP (x m : Node) : Bool := (((m.key.sym.term == x.key.sym.term) && (((m.key.sym.n : Int) == (x.key.sym.n : Int)) && true)) && (((m.key.frm : Int) == (x.key.frm : Int)) && (((m.key.to : Int) == (x.key.to : Int)) && decide ((m.packs.length : Int) ≥ (x.packs.length : Int)))))

theorem lessK_spec (F : Frz) {i : Nat} {x y : Node} {xa ya : Option Addr} {xn xc yn yc : Nat} (hi : F i = some (.cells false [.bool x.key.sym.term, .int .i64 x.key.sym.n, .int .i64 x.key.frm, .int .i64 x.key.to, .slice xa xn xc])) (hxn : xn = x.packs.length) (hyn : yn = y.packs.length) :
    Abs.Spec CC 29 [.agg ⟨[.bool y.key.sym.term, .int .i64 y.key.sym.n, .int .i64 y.key.frm, .int .i64 y.key.to, .slice ya yn yc]⟩, .pointer (some ⟨i, 0, none⟩)] F [] fun _ v o => o = [] ∧ v = .bool (lessP x y) := by
  subst hxn
  subst hyn
  refine Abs.Spec.fn (n := 32) Tryd.func29 rfl rfl fun own => ?_
  refine AW.seq (AW.reg ?_)
  refine WT.boxT zr zr zr zr zr zr (fun i2 hi2 => ?_)
  refine ze hT zr zr zr zr zr ?_; refine WT.nil ?_; refine AW.seq ?_; refine AW.reg ?_; refine ze hT zr zr zr zr zr ?_; refine zl hT 0 zr zr zr zr zr zr me zr ?_; refine ze hT zr zr zr zr zr ?_; refine zf hT (by assumption) zr zr zr zr zr zr ?_; refine zq hT zr zr zr zr zr zr zr ?_; refine ze hT zr zr zr zr zr ?_
  refine WT.split 9 rfl (fun h1 => ?_) (fun h1 => ?_)
  · refine ze hT zr zr zr zr zr ?_; refine zl hT 0 zr zr zr zr zr zr me zr ?_; refine ze hT zr zr zr zr zr ?_; refine zf hT (by assumption) zr zr zr zr zr zr ?_; (iterate 3 refine ze hT zr zr zr zr zr ?_)
    refine WT.split 16 rfl (fun h2 => ?_) (fun h2 => ?_)
    · refine ze hT zr zr zr zr zr ?_; refine zl hT 0 zr zr zr zr zr zr me zr ?_; refine ze hT zr zr zr zr zr ?_; refine zf hT (by assumption) zr zr zr zr zr zr ?_; (iterate 3 refine ze hT zr zr zr zr zr ?_)
      refine WT.split 23 rfl (fun h3 => ?_) (fun h3 => ?_)
      · refine ze hT zr zr zr zr zr ?_; refine zl hT 0 zr zr zr zr zr zr me zr ?_; (iterate 2 refine ze hT zr zr zr zr zr ?_); refine zf hT (by assumption) zr zr zr zr zr zr ?_; (iterate 4 refine ze hT zr zr zr zr zr ?_); refine WT.nil ?_
        refine AW.ret ⟨_, [], ⟨_, _, rfl, rfl, rfl⟩, (by repeat (first | exact List.Sublist.refl _ | refine List.Sublist.cons _ ?_)), rfl, ?_⟩
        unfold lessP
        rw [h1, h2, h3]; rfl
      · (iterate 7 refine zx zr zr zr zr ?_); (iterate 2 refine ze hT zr zr zr zr zr ?_); refine WT.nil ?_
        refine AW.ret ⟨_, [], ⟨_, _, rfl, rfl, rfl⟩, (by repeat (first | exact List.Sublist.refl _ | refine List.Sublist.cons _ ?_)), rfl, ?_⟩
        unfold lessP
        rw [h1, h2, h3]; rfl
    · (iterate 5 refine zx zr zr zr zr ?_); (iterate 2 refine ze hT zr zr zr zr zr ?_); (iterate 7 refine zx zr zr zr zr ?_); (iterate 2 refine ze hT zr zr zr zr zr ?_); refine WT.nil ?_
      refine AW.ret ⟨_, [], ⟨_, _, rfl, rfl, rfl⟩, (by repeat (first | exact List.Sublist.refl _ | refine List.Sublist.cons _ ?_)), rfl, ?_⟩
      unfold lessP
      rw [h1, h2]; rfl
  · (iterate 5 refine zx zr zr zr zr ?_); (iterate 2 refine ze hT zr zr zr zr zr ?_); (iterate 5 refine zx zr zr zr zr ?_); (iterate 2 refine ze hT zr zr zr zr zr ?_); (iterate 7 refine zx zr zr zr zr ?_); (iterate 2 refine ze hT zr zr zr zr zr ?_); refine WT.nil ?_
    refine AW.ret ⟨_, [], ⟨_, _, rfl, rfl, rfl⟩, (by repeat (first | exact List.Sublist.refl _ | refine List.Sublist.cons _ ?_)), rfl, ?_⟩
    unfold lessP
    rw [h1]; rfl
end Go.Proofs.D

set_option linter.unusedVariables false
set_option maxRecDepth 20000
set_option maxHeartbeats 0
open Go Go.Abs Go.Proofs Go.Proofs.D
namespace Go.Proofs.D

structure MkS where
  bs : List (Nat × Blk)
  E : List (List Nat)

theorem Sub.put {E' E : List (List Nat)} (h : Sub E' E) {n i x y : Nat} {r : List Nat} (hr : E'[n]? = some r) (hx : r[i]? = some x) (hy : ∀ q, y.testBit q = true → x.testBit q = true) : Sub (E'.set n (r.set i y)) E where
  size := by rw [List.length_set, h.size]
  row := fun m r' hm => by
    by_cases e : m = n
    · subst e
      rw [List.getElem?_set_self (List.getElem?_eq_some_iff.1 hr).1] at hm
      obtain rfl := Option.some.inj hm
      obtain ⟨r0, h1, h2, h3⟩ := h.row _ _ hr
      refine ⟨r0, h1, by rw [List.length_set, h2], fun j z hz => ?_⟩
      by_cases e2 : j = i
      · subst e2
        rw [List.getElem?_set_self (List.getElem?_eq_some_iff.1 hx).1] at hz
        obtain rfl := Option.some.inj hz
        obtain ⟨x0, h4, h5⟩ := h3 _ _ hx
        exact ⟨x0, h4, fun q hq => h5 q (hy q hq)⟩
      · rw [List.getElem?_set_ne (Ne.symm e2)] at hz
        exact h3 j z hz
    · rw [List.getElem?_set_ne (Ne.symm e)] at hm
      exact h.row m r' hm

theorem makeRes_less_pair {g : Gram} (hg : Valid g) {w : List Nat} (hw12 : w.length ≤ 12) {E E' : List (List Nat)} (hS : Sub E' E) {F F' : Frz} {a a' : Option Addr} {n n' c c' : Nat} {r r' e e' : Int} (h : MakeRes g w E F (.tuple ⟨[.agg ⟨[.slice a n c, .int .i64 r]⟩, .int .i64 e]⟩)) (h' : MakeRes g w E' F' (.tuple ⟨[.agg ⟨[.slice a' n' c', .int .i64 r']⟩, .int .i64 e']⟩)) (he : e = 0) :
    e' = 0 ∧ ∃ Ns Ns', Arr tNode F a n c Ns ∧ Arr tNode F' a' n' c' Ns' ∧ n ≤ 1000000 ∧ n' ≤ 1000000 ∧ ∀ x ∈ Ns', Ns.any (lessP x) = true := by
  rcases makeRes_cases h with ⟨_, h1⟩ | ⟨he2, _⟩
  · rcases makeRes_cases h' with ⟨he', h1'⟩ | ⟨he', ha', hn', hc', hr', hst', L, hL1, hL2, hL3⟩
    · refine ⟨he', ?_⟩
      rcases h1' with ⟨h2', ha', hn', hc', hr'⟩ | ⟨h2', S', hr', hK', hA', hS'⟩
      · subst ha' hn' hc' hr'
        rcases h1 with ⟨h2, ha, hn, hc, hr⟩ | ⟨h2, S, hr, hK, hA, hS⟩
        · subst ha hn hc hr
          exact ⟨[], [], Arr.nil_ _ _, Arr.nil_ _ _, by omega, by omega, fun x hx => (by cases hx)⟩
        · have hok := nodes_ok hg hw12 hK (root_good hg w)
          exact ⟨_, [], hA, Arr.nil_ _ _, by have := hok.few; rw [← hA.len] at this; exact this, by omega, fun x hx => (by cases hx)⟩
      · rcases h1 with ⟨h2, _⟩ | ⟨h2, S, hr, hK, hA, hS2⟩
        · have := hS.step h2'
          rw [h2] at this; cases this
        · have hok := nodes_ok hg hw12 hK (root_good hg w)
          have hok' := nodes_ok hg hw12 hK' (root_good hg w)
          refine ⟨_, _, hA, hA', by have := hok.few; rw [← hA.len] at this; exact this, by have := hok'.few; rw [← hA'.len] at this; exact this, fun x hx => ?_⟩
          obtain ⟨k, hk, rfl⟩ := List.mem_map.1 hx
          have hkS : k ∈ S := hK.all (hS.reach (hK'.reach k hk))
          rw [List.any_eq_true]
          refine ⟨mkNode g w E S k, List.mem_map.2 ⟨k, hkS, rfl⟩, ?_⟩
          have hle := (hS.packs (g := g) (w := w) k).length_le
          unfold lessP mkNode
          simp
          omega
    · exfalso
      rcases h1 with ⟨h2, _⟩ | ⟨h2, S, hr, hK, hA, hS2⟩
      · have := hS.step hst'
        rw [h2] at this; cases this
      · have h3 : packSum g w E L ≤ packSum g w E S := sum_sub _ L S hL1 fun x hx => hK.all (hS.reach (hL2 x hx))
        have h4 := hS.sum (g := g) (w := w) L
        omega
  · rw [he] at he2; cases he2

theorem forestLess_law (F : Frz) (hL : Laid F) {a b b3 : Option Addr} {m n c d n3 d3 : Nat} {l w0 mask : List Int} (hl : Arr tInt F a m c l) (hw0 : Arr tInt F b n d w0) (hmask : Arr tInt F b3 n3 d3 mask) (hm : n ≤ 9223372036854775807) (hm3 : n3 ≤ 9223372036854775807) :
    Abs.Spec CC 6 [.slice a m c, .slice b n d, .slice b3 n3 d3] F [] fun _ v o => o = [] ∧ v = .bool true := by
  refine Abs.Spec.fn (n := 104) Tryd.func6 rfl rfl fun own => ?_
  refine AW.seq ?_; refine AW.reg ?_; refine ze hT zr zr zr zr zr ?_; refine WT.nil ?_; refine AW.seq ?_; refine AW.reg ?_; (iterate 2 refine ze hT zr zr zr zr zr ?_)
  refine WT.callF0 Tryd.func13 zr zr zr zr zr zr (made_spec _ hl hw0 hm 6 (by decide)) (fun F1 v hF1 hv => ?_)
  obtain ⟨g, ga, gm, gc, wa, wn, wc, w, rfl, hg, hr, hw, hw1, hw2⟩ := hv
  have hL1 := hL.mono hF1
  have hwlen := hw.len
  subst hwlen
  have hgn := hg.nons
  have hv := hg.valid
  unfold gramCells
  (iterate 3 refine ze hT zr zr zr zr zr ?_)
  refine WT.allocT hT zr zr zr zr zr zr (fun i7 hi7 => ?_)
  refine zs hT 0 0 zr zr zr zr zr zr zr zr zr zr zr zr ?_; refine ze hT zr zr zr zr zr ?_; refine WT.nil ?_; refine AW.seq ?_; refine AW.reg ?_; refine zl hT 0 zr zr zr zr zr zr me zr ?_; refine ze hT zr zr zr zr zr ?_
  refine WT.callN Tryd.func26 zr zr zr zr zr zr (mparts_spec _ hL1 g hv hr hw (by omega) hw2) (fun F2 v B2 hF2 hv2 => ?_)
  obtain ⟨B, bs, pa, pc, vs, E, rfl, rfl, hb, hR, hE⟩ := hv2
  have hL2 := hL1.mono hF2
  have hw3 := hw.mono hF2
  have hr3 := hr.mono hF2
  have hmask2 := (hmask.mono hF1).mono hF2
  have hblen := hb.len
  have hEs := hE.ok.size
  have hlike := rows_like hR
  obtain ⟨io, cs, hia, hic, hiB, hcells, _⟩ := hb.at_.resolve_left (fun h => by rw [h.1] at hblen; simp at hblen; omega)
  have hcs := cells_raw hcells
  subst hcs
  have hic : pc = 1 := hic
  subst hia hic hiB
  refine ze hT zr zr zr zr zr ?_; refine WT.nil ?_; refine AW.seq ?_; refine AW.reg ?_; refine zl hT 1 zr zr zr zr zr zr me zr ?_; (iterate 2 refine ze hT zr zr zr zr zr ?_)
  refine WT.call1F 0 Tryd.func25 zr zr zr zr zr zr zr (fun _ => rfl) (Spec.lendBF fun G hG hBG => fbuild_spec G (hL2.mono hG) g hv (hr3.mono hG) (hw3.mono hG) (by omega) hw2 (rows_arr (by omega) hb hR hEs hBG) hE.ok hE.low) (fun F3 v B3 hF3 hv3 => ?_)
  obtain ⟨rfl, F', hv3, hless⟩ := hv3
  have hless : Less F' F3 := fun i b q => by
    rcases hless i b q with h | h
    · exact .inl h
    · refine .inr ?_
      rcases List.mem_append.1 h with h | h
      · cases List.mem_singleton.1 h
        exact ⟨_, rfl, hlike.2⟩
      · exact hlike.1 _ h
  have hv4 := makeRes_less hless hv3
  obtain ⟨fa, fn, fc, fr, fe, rfl⟩ := makeRes_form hv4
  have hL3 := hL2.mono hF3
  have hw4 := hw3.mono hF3
  have hr4 := hr3.mono hF3
  have hmask3 := hmask2.mono hF3
  (iterate 3 refine ze hT zr zr zr zr zr ?_)
  refine WT.allocT hT zr zr zr zr zr zr (fun i9 hi9 => ?_)
  refine zs hT 0 0 zr zr zr zr zr zr zr zr zr zr zr zr ?_; refine ze hT zr zr zr zr zr ?_; refine WT.nil ?_; (iterate 2 refine AW.seq ?_); refine AW.reg ?_; (iterate 3 refine ze hT zr zr zr zr zr ?_); refine WT.nil ?_
  refine AW.range (S := MkS) (fun _ => []) (fun s => [(i9, .cells false [.slice fa fn fc, .int .i64 fr])] :: ([(io, .cells false cs)] ++ s.bs) :: [(i7, .cells false [.int .i64 g.terms, .int .i64 g.nons, .int .i64 g.start, .slice ga gm gc])] :: own)
    (fun k s G => Abs.Rows cU32 cs s.bs s.E ∧ Sub s.E E) g.nons ⟨bs, E⟩
    zr zr zr zr zr zr zr zr zr (by omega) rfl rfl (fun _ => rfl) (fun _ => rfl) (SubK.of_map rfl) (OwnLe.refl _) ⟨hR, Sub.refl E⟩ ?_ ?_
  · intro k s F4 hF4 hk hP
    obtain ⟨hR4, hS4⟩ := hP
    have hmask4 := hmask3.mono hF4
    have hEl4 := hS4.size
    obtain ⟨row, hrow⟩ : ∃ row, s.E[k]? = some row := ⟨_, List.getElem?_eq_getElem (by omega)⟩
    have hrl := (hS4.ok hE.ok).row row (List.mem_of_getElem? hrow)
    obtain ⟨id, c1, hvs, hbs, hc1⟩ := hR4.at k row hrow
    rw [if_neg (by omega)] at hc1
    subst hc1
    rw [hrl] at hvs
    have hcell : cs[0 + k * 1]? = some (.slice (some ⟨id, 0, none⟩) (w.length + 1) 1) := by rw [Nat.zero_add, Nat.mul_one]; exact hvs
    refine AW.seq ?_; refine AW.reg ?_; refine ze hT zr zr zr zr zr ?_
    refine WT.idxA (j := k) (s := 1) hT zr zr zr zr zr zr zr zr zr (by omega) ?_
    refine WT.loadAt hT 1 zr zr zr zr zr zr (List.mem_cons_self ..) rfl rfl hcell ?_
    (iterate 2 refine ze hT zr zr zr zr zr ?_); refine WT.nil ?_; refine AW.seq ?_; refine AW.reg ?_; (iterate 3 refine ze hT zr zr zr zr zr ?_); refine WT.nil ?_
    refine AW.range (S := MkS) (fun _ => []) (fun s => [(i9, .cells false [.slice fa fn fc, .int .i64 fr])] :: ([(io, .cells false cs)] ++ s.bs) :: [(i7, .cells false [.int .i64 g.terms, .int .i64 g.nons, .int .i64 g.start, .slice ga gm gc])] :: own)
      (fun i s G => Abs.Rows cU32 cs s.bs s.E ∧ Sub s.E E) (w.length + 1) s
      zr zr zr zr zr zr zr zr zr (by omega) rfl rfl (fun _ => rfl) (fun _ => rfl) (SubK.of_map rfl) (OwnLe.refl _) ⟨hR4, hS4⟩ ?_ ?_
    · intro i u F5 hF5 hi hP
      obtain ⟨hR5, hS5⟩ := hP
      have hmask5 := hmask4.mono hF5
      have hml := hmask5.len
      have hEl5 := hS5.size
      obtain ⟨row', hrow'⟩ : ∃ row, u.E[k]? = some row := ⟨_, List.getElem?_eq_getElem (by omega)⟩
      have hok5 := hS5.ok hE.ok
      have hrl' := hok5.row row' (List.mem_of_getElem? hrow')
      obtain ⟨id', c2, hvs', hbs', hc2⟩ := hR5.at k row' hrow'
      have hid : id' = id := by
        have h1 := Option.some.inj (hvs.symm.trans hvs')
        injection h1 with h1
        injection h1 with h1
        injection h1 with h1
        exact h1.symm
      subst hid
      obtain ⟨x, hx⟩ : ∃ x, row'[i]? = some x := ⟨_, List.getElem?_eq_getElem (by omega)⟩
      have hxb := hok5.bit row' (List.mem_of_getElem? hrow') x (List.mem_of_getElem? hx)
      have pwl : 2 ^ (w.length + 1) ≤ 8192 := Nat.pow_le_pow_right (j := 13) (by decide) (by omega)
      have hcell2 : (row'.map cU32.cell)[0 + i * 1]? = some (.int .u32 x) := by rw [Nat.zero_add, Nat.mul_one, List.getElem?_map, hx]; rfl
      refine AW.seq ?_; refine AW.reg ?_; (iterate 2 refine ze hT zr zr zr zr zr ?_); refine WT.nil ?_; refine AW.seq ?_; refine AW.reg ?_; (iterate 3 refine ze hT zr zr zr zr zr ?_); refine WT.nil ?_
      refine AW.cond rfl (fun h => ?_) (fun h => ?_)
      · have h : 0 < n3 := by have h := of_decide_eq_true h; omega
        refine AW.draw (ps := [(3, 14)]) rfl rfl ?_
        (iterate 2 refine ze hT zr zr zr zr zr ?_)
        refine WT.idxA (j := i) (s := 1) hT zr zr zr zr zr zr zr zr zr (by omega) ?_
        refine WT.loadAt hT 1 zr zr zr zr zr zr (List.mem_cons_of_mem _ (List.mem_of_getElem? hbs')) rfl rfl hcell2 ?_
        (iterate 2 refine ze hT zr zr zr zr zr ?_)
        refine WT.mulT (x := k) (y := 7) zr zr zr zr zr zr (by omega) ?_
        refine WT.know (v' := .int .i64 ((k * 7 : Nat) : Int)) 55 rfl (by congr 1) ?_
        refine ze hT zr zr zr zr zr ?_; refine WT.addN zr zr zr zr zr zr (by omega) ?_; (iterate 2 refine ze hT zr zr zr zr zr ?_)
        refine WT.remT zr zr zr zr zr zr (by omega) ?_
        refine WT.know (v' := .int .i64 (((k * 7 + i) % n3 : Nat) : Int)) 60 rfl (by congr 1) ?_
        refine WT.idxL (j := (k * 7 + i) % n3) hT hmask5 zr zr zr zr zr zr zr zr zr (by have := Nat.mod_lt (k * 7 + i) h; omega) (fun z hzj b8 off8 ro8 cs8 lx8 hb8 hp8 hrel8 => ?_)
        obtain rfl : lx8 = _ := hrel8
        refine zi (fo := 0) hT (by assumption) (by assumption) zr zr zr zr zr zr ?_
        refine WT.callV Tryd.func28 zr zr zr zr zr zr (below_spec _ z 8192 (by decide) (by decide)) (fun v hv => ?_)
        subst hv
        have hbl := below_lt z (m := 8192) (by decide)
        have hmem : (id', Blk.cells false (row'.map cU32.cell)) ∈ [(io, Blk.cells false cs)] ++ u.bs := List.mem_cons_of_mem _ (List.mem_of_getElem? hbs')
        skip
        refine WT.conv hT (k2 := .u32) zr zr zr zr zr zr zr zr (wrapU32 (by omega)) ?_
        refine WT.andNot32 (x := x) (y := below z 8192) zr zr zr zr zr zr (by omega) (by omega) ?_
        refine WT.idxA (j := i) (s := 1) hT zr zr zr zr zr zr zr zr zr (by omega) ?_
        refine WT.storeAt hT 1 (k + 1) zr zr zr zr zr zr hbs' zr zr zr (by simp; omega) rfl rfl ?_
        refine WT.nil ?_
        refine ⟨(by repeat (first | exact trivial | refine recs_pair rfl rfl (by first | exact keep0 | exact keep1 (keeps_frz (by assumption)) | exact kp 0 0 me me | exact kp 1 1 me me | exact kp 2 2 me me | exact kp 3 3 me me | exact kp 4 4 me me | exact kp 5 5 me me | exact kp 6 6 me me | exact kp 0 1 me me | exact kp 1 2 me me | exact kp 2 3 me me | exact kp 3 4 me me | exact kp 4 5 me me | exact kp 5 6 me me | exact kp 6 7 me me | exact kp 0 0 (by assumption) (by assumption) | exact kp 1 1 (by assumption) (by assumption) | exact kp 2 2 (by assumption) (by assumption) | exact kp 3 3 (by assumption) (by assumption) | exact kp 4 4 (by assumption) (by assumption) | exact kp 5 5 (by assumption) (by assumption) | exact kp 6 6 (by assumption) (by assumption) | exact kp 0 1 (by assumption) (by assumption) | exact kp 1 2 (by assumption) (by assumption) | exact kp 2 3 (by assumption) (by assumption) | exact kp 3 4 (by assumption) (by assumption) | exact kp 4 5 (by assumption) (by assumption) | exact kp 5 6 (by assumption) (by assumption) | exact kp 6 7 (by assumption) (by assumption)) ?_)), ?_⟩
        skip
        refine ⟨⟨u.bs.set k (id', .cells false ((row'.set i (andNot x (below z 8192))).map cU32.cell)), u.E.set k (row'.set i (andNot x (below z 8192)))⟩, SubK.of_map rfl, OwnLe.flat ?_, hR5.set k row' _ id' hrow' (by simp) hbs', hS5.put hrow' hx fun q hq => ?_⟩
        · rw [List.map_set, show 0 + i * 1 = i by omega]
          exact List.Perm.refl _
        · rw [testBit_andNot (by omega) (by omega)] at hq
          exact (Bool.and_eq_true_iff.1 hq).1
      · refine AW.skip ?_
        exact ⟨u, SubK.of_map rfl, OwnLe.refl _, hR5, hS5⟩
    · intro u F5 hF5 hP
      skip
      exact ⟨u, SubK.of_map rfl, OwnLe.refl _, hP⟩
  · intro s F4 hF4 hP
    obtain ⟨hR4, hS4⟩ := hP
    refine AW.freezeAll 1 rfl rfl (fun F5 hF5 hB5 => ?_)
    have hL5 := (hL3.mono hF4).mono hF5
    have hw5 := (hw4.mono hF4).mono hF5
    have hr5 := (hr4.mono hF4).mono hF5
    have hEa : Arr (tList tU32) F5 (some ⟨io, 0, none⟩) g.nons 1 s.E := rows_arr (by omega) hb hR4 (by rw [hS4.size, hEs]) hB5
    refine AW.seq ?_; refine AW.reg ?_; refine zl hT 2 zr zr zr zr zr zr me zr ?_; (iterate 2 refine ze hT zr zr zr zr zr ?_)
    refine WT.callF0 Tryd.func25 zr zr zr zr zr zr (fbuild_spec _ hL5 g hv hr5 hw5 (by omega) hw2 hEa (hS4.ok hE.ok) (hS4.low hE.low)) (fun F6 v hF6 hv6 => ?_)
    obtain ⟨qa, qn, qc, qr, qe, rfl⟩ := makeRes_form hv6
    have hL6 := hL5.mono hF6
    (iterate 3 refine ze hT zr zr zr zr zr ?_)
    refine WT.allocT hT zr zr zr zr zr zr (fun i14 hi14 => ?_)
    refine zs hT 0 0 zr zr zr zr zr zr zr zr zr zr zr zr ?_; refine ze hT zr zr zr zr zr ?_; refine WT.nil ?_; (iterate 2 refine AW.seq ?_); refine AW.reg ?_
    refine WT.callV Tryd.func18 zr zr zr zr zr zr (Abs.Spec.fact rfl hL6) (fun v hv => ?_)
    subst hv
    (iterate 6 refine ze hT zr zr zr zr zr ?_)
    refine WT.split 82 rfl (fun he => ?_) (fun he => ?_)
    · (iterate 2 refine zx zr zr zr zr ?_); refine ze hT zr zr zr zr zr ?_; refine WT.nil ?_
      refine AW.cond rfl (fun _ => ?_) (fun h => (by cases h))
      refine AW.seq ?_; refine AW.reg ?_
      refine WT.callV Tryd.func18 zr zr zr zr zr zr (Abs.Spec.fact rfl hL6) (fun v hv => ?_)
      subst hv
      (iterate 5 refine ze hT zr zr zr zr zr ?_); refine WT.nil ?_
      refine AW.ret ⟨_, [], ⟨_, _, rfl, rfl, rfl⟩, (by repeat (first | exact List.Sublist.refl _ | refine List.Sublist.cons _ ?_)), rfl, ?_⟩
      exact congrArg Value.bool he
    · have he : fe = 0 := by simpa using he
      obtain ⟨rfl, Ns, Ns2, hN1, hN2, hf1, hf2, hall⟩ := makeRes_less_pair hv (by omega) hS4 hv4 hv6 he
      have hN3 := ((hN1.mono hF4).mono hF5).mono hF6
      (iterate 3 refine ze hT zr zr zr zr zr ?_); refine WT.nil ?_
      refine AW.cond rfl (fun h => (by cases h)) (fun _ => ?_)
      refine AW.skip ?_; (iterate 2 refine AW.seq ?_); refine AW.reg ?_; refine ze hT zr zr zr zr zr ?_; refine zl hT 0 zr zr zr zr zr zr me zr ?_; (iterate 2 refine ze hT zr zr zr zr zr ?_); refine WT.nil ?_
      refine AW.range (S := Unit) (fun _ => []) (fun _ => _) (fun j _ G => True) qn () zr zr zr zr zr zr zr zr zr (by omega) rfl rfl (fun _ => rfl) (fun _ => rfl) (SubK.of_map rfl) (OwnLe.refl _) trivial ?_ ?_
      · intro j _ F7 hF7 hj _
        have hN2b := hN2.mono hF7
        have hn2l := hN2b.len
        refine AW.seq ?_; refine AW.reg ?_
        refine WT.idxL hT hN2b zr zr zr zr zr zr zr zr zr (by omega) (fun x hxj b8 off8 ro8 cs8 lx8 hb8 hp8 hrel8 => ?_)
        obtain ⟨xa, xn, xc, rfl, hxa⟩ := hrel8
        refine zi (fo := 0) hT (by assumption) (by assumption) zr zr zr zr zr zr ?_
        refine WT.allocT hT zr zr zr zr zr zr (fun i17 hi17 => ?_)
        refine zs hT 0 0 zr zr zr zr zr zr zr zr zr zr zr zr ?_; refine WT.nil ?_; refine AW.seq ?_; refine AW.reg ?_; refine ze hT zr zr zr zr zr ?_; refine zl hT 2 zr zr zr zr zr zr me zr ?_; refine ze hT zr zr zr zr zr ?_
        refine WT.freezeAll 0 rfl rfl (fun F8 hF8 hB8 => ?_)
        have hfi := hB8 i17 _ (List.mem_cons_self ..)
        have hN8 := (hN3.mono hF7).mono hF8
        skip
        refine WT.callV Tryd.func20 zr zr zr zr zr zr (nodeAny_spec _ hN8 hf1 (lessP x) (g := 29) (first := []) (capt := [.pointer (some ⟨i17, 0, none⟩)]) Tryd.func29 rfl (fun y hy b n d hyp => lessK_spec _ hfi hxa.len hyp.len)) (fun v hv => ?_)
        subst hv
        rw [hall x (List.mem_of_getElem? hxj)]
        refine ze hT zr zr zr zr zr ?_; refine WT.nil ?_
        refine AW.cond rfl (fun h => (by cases h)) (fun _ => ?_)
        refine AW.skip ?_
        exact ⟨(), SubK.of_map rfl, OwnLe.skip _ (OwnLe.refl _), trivial⟩
      · intro _ F7 hF7 _
        refine AW.seq ?_; refine AW.reg ?_; refine ze hT zr zr zr zr zr ?_; refine WT.nil ?_
        exact AW.ret ⟨_, [], ⟨_, _, rfl, rfl, rfl⟩, (by repeat (first | exact List.Sublist.refl _ | refine List.Sublist.cons _ ?_)), rfl, rfl⟩
end Go.Proofs.D

