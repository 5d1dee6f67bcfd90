/-
  Walks: what functions of the program do, over the abstract machine.
-/
import Derived.Test.YtfnleneclialjaaDoorWk1
set_option linter.unusedVariables false
set_option maxRecDepth 20000
set_option maxHeartbeats 0
open Go Go.Abs Go.Proofs Go.Proofs.D
namespace Go.Proofs.D

/-! ### trees of a grammar, counted -/
def listT (f : Sym → Nat → Nat → Nat) : List Sym → Nat → Nat → Nat
  | [], i, j => if i = j then 1 else 0
  | s :: l, i, j => ((List.range (j + 1)).map fun m => f s i m * listT f l m j).sum

/-- How many trees of a depth a symbol has over a part of a word. -/
def symT (g : Gram) (w : List Nat) : Nat → Sym → Nat → Nat → Nat
  | 0, _, _, _ => 0
  | d + 1, s, i, j => if s.term = true then (if w[i]? = some s.n ∧ j = i + 1 then 1 else 0)
      else (g.rules.map fun r => if r.left = s.n then listT (symT g w d) r.right i j else 0).sum

theorem sum_zero {l : List Nat} (h : ∀ x ∈ l, x = 0) : l.sum = 0 := by
  induction l with
  | nil => rfl
  | cons a l ih => rw [List.sum_cons, h a (List.mem_cons_self ..), ih fun x hx => h x (List.mem_cons_of_mem _ hx)]

theorem sum_pos {l : List Nat} (h : 1 ≤ l.sum) : ∃ x ∈ l, 1 ≤ x := by
  induction l with
  | nil => simp at h
  | cons a l ih =>
    by_cases ha : 1 ≤ a
    · exact ⟨a, List.mem_cons_self .., ha⟩
    · rw [List.sum_cons] at h
      obtain ⟨x, hx, h2⟩ := ih (by omega)
      exact ⟨x, List.mem_cons_of_mem _ hx, h2⟩

theorem listT_pos {g : Gram} {w : List Nat} {f : Sym → Nat → Nat → Nat} (hf : ∀ s i j, 1 ≤ f s i j → Der g w s i j) : ∀ {l : List Sym} {i j : Nat}, 1 ≤ listT f l i j → Ders g w l i j
  | [], i, j, h => by
    unfold listT at h
    split at h
    · rename_i e; subst e; exact .nil
    · omega
  | s :: l, i, j, h => by
    unfold listT at h
    obtain ⟨x, hx, h2⟩ := sum_pos h
    obtain ⟨m, _, rfl⟩ := List.mem_map.1 hx
    have h3 : 1 ≤ f s i m := by
      rcases Nat.eq_zero_or_pos (f s i m) with e | e
      · rw [e, Nat.zero_mul] at h2; omega
      · exact e
    have h4 : 1 ≤ listT f l m j := by
      rcases Nat.eq_zero_or_pos (listT f l m j) with e | e
      · rw [e, Nat.mul_zero] at h2; omega
      · exact e
    exact .cons (hf s i m h3) (listT_pos hf h4)

theorem symT_der {g : Gram} {w : List Nat} : ∀ {d : Nat} {s : Sym} {i j : Nat}, 1 ≤ symT g w d s i j → Der g w s i j
  | 0, s, i, j, h => absurd h (by simp [symT])
  | d + 1, s, i, j, h => by
    obtain ⟨st, sn⟩ := s
    unfold symT at h
    cases st with
    | true =>
      simp only [if_true] at h
      split at h
      · rename_i e
        obtain ⟨e1, rfl⟩ := e
        exact .term e1
      · omega
    | false =>
      simp only [Bool.false_eq_true, if_false] at h
      obtain ⟨x, hx, h2⟩ := sum_pos h
      obtain ⟨r, hr, rfl⟩ := List.mem_map.1 hx
      split at h2
      · rename_i e
        subst e
        exact .non hr (listT_pos (fun s i j h => symT_der h) h2)
      · omega

theorem listT_mono {f h : Sym → Nat → Nat → Nat} (hf : ∀ s i j, f s i j ≤ h s i j) : ∀ (l : List Sym) (i j : Nat), listT f l i j ≤ listT h l i j
  | [], i, j => Nat.le_refl _
  | s :: l, i, j => sumN_le _ fun m _ => Nat.mul_le_mul (hf s i m) (listT_mono hf l m j)

theorem symT_mono (g : Gram) (w : List Nat) : ∀ (d : Nat) (s : Sym) (i j : Nat), symT g w d s i j ≤ symT g w (d + 1) s i j
  | 0, s, i, j => Nat.zero_le _
  | d + 1, s, i, j => by
    show symT g w (d + 1) s i j ≤ symT g w (d + 1 + 1) s i j
    unfold symT
    split
    · exact Nat.le_refl _
    · refine sumN_le _ fun r _ => ?_
      split
      · exact listT_mono (fun s i j => symT_mono g w d s i j) _ _ _
      · exact Nat.le_refl _

theorem symT_le (g : Gram) (w : List Nat) {d e : Nat} (h : d ≤ e) (s : Sym) (i j : Nat) : symT g w d s i j ≤ symT g w e s i j := by
  induction e with
  | zero => obtain rfl : d = 0 := by omega
            exact Nat.le_refl _
  | succ e ih =>
    rcases Nat.lt_or_ge d (e + 1) with h2 | h2
    · exact Nat.le_trans (ih (by omega)) (symT_mono g w e s i j)
    · obtain rfl : d = e + 1 := by omega
      exact Nat.le_refl _

theorem der_symT {g : Gram} {w : List Nat} {s : Sym} {i j : Nat} (h : Der g w s i j) : ∃ d, 1 ≤ symT g w d s i j := by
  refine Der.rec (motive_1 := fun s i j _ => ∃ d, 1 ≤ symT g w d s i j) (motive_2 := fun l i j _ => ∃ d, 1 ≤ listT (symT g w d) l i j) ?_ ?_ ?_ ?_ h
  · intro t i h
    exact ⟨1, by unfold symT; simp [h]⟩
  · intro r i j hr _ ih
    obtain ⟨d, hd⟩ := ih
    refine ⟨d + 1, ?_⟩
    unfold symT
    simp only [Bool.false_eq_true, if_false]
    refine Nat.le_trans ?_ (sumN_mem (f := fun r' : Rule => if r'.left = r.left then listT (symT g w d) r'.right i j else 0) hr)
    simpa using hd
  · intro i; exact ⟨0, by simp [listT]⟩
  · intro s l i m j h1 h2 ih1 ih2
    obtain ⟨d1, h3⟩ := ih1
    obtain ⟨d2, h4⟩ := ih2
    have hmj := ders_le h2
    refine ⟨max d1 d2, ?_⟩
    unfold listT
    refine Nat.le_trans ?_ (sumN_mem (f := fun m => symT g w (max d1 d2) s i m * listT (symT g w (max d1 d2)) l m j) (List.mem_range.2 (show m < j + 1 by omega)))
    exact Nat.mul_le_mul (Nat.le_trans h3 (symT_le g w (by omega) s i m)) (Nat.le_trans h4 (listT_mono (fun s i j => symT_le g w (by omega) s i j) l m j))

/-! ### a forest's nodes have as many trees as the grammar says -/
theorem sum_flat {α β : Type} (f : α → List β) (h : β → Nat) : ∀ l : List α, ((l.flatMap f).map h).sum = (l.map fun a => ((f a).map h).sum).sum
  | [] => rfl
  | a :: l => by rw [List.flatMap_cons, List.map_append, List.sum_append, List.map_cons, List.sum_cons, sum_flat f h l]

theorem splits_sum {w : List Nat} {E : List (List Nat)} {to : Nat} {f : Sym → Nat → Nat → Nat} (hf : ∀ s i m, stepB w E s i m = false → i ≤ w.length → m ≤ to → f s i m = 0) (hto : to ≤ w.length) : ∀ (l : List Sym) (i : Nat), i ≤ w.length →
    ((splits w E to l i).map fun ks => prodN (ks.map fun q => f q.sym q.frm q.to)).sum = listT f l i to
  | [], i, hi => by
    unfold splits listT
    split <;> simp [prodN]
  | s :: l, i, hi => by
    unfold splits listT
    rw [sum_flat]
    congr 1
    apply List.map_congr_left
    intro m hm
    have hm := List.mem_range.1 hm
    split
    · rw [List.map_map, ← splits_sum hf hto l m (by omega)]
      clear hf
      generalize splits w E to l m = L
      induction L with
      | nil => simp
      | cons a L ih =>
        simp only [List.map_cons, List.sum_cons, Function.comp_apply, prodN, Nat.mul_add]
        simp only [Function.comp_def] at ih
        rw [← ih]
        simp [Function.comp_def, prodN]
    · rename_i h
      rw [hf s i m (by simpa using h) hi (by omega)]
      simp

theorem rules_sum {α : Type} (h : α → Nat) (f : Nat → Rule → List α) : ∀ (rs : List Rule) (k : Nat), (((List.range rs.length).flatMap fun i => match rs[i]? with | some r => f (k + i) r | none => []).map h).sum = (rs.zipIdx k |>.map fun p => ((f p.2 p.1).map h).sum).sum
  | [], k => by simp
  | r :: rs, k => by
    have ih := rules_sum h f rs (k + 1)
    rw [List.length_cons, List.range_succ_eq_map, List.flatMap_cons, List.map_append, List.sum_append, List.zipIdx_cons, List.map_cons, List.sum_cons, ← ih]
    simp only [List.getElem?_cons_zero, Nat.add_zero, List.flatMap_map]
    congr 4
    funext i
    simp only [List.getElem?_cons_succ, Nat.succ_eq_add_one]
    rw [show k + (i + 1) = k + 1 + i by omega]

theorem zip_sum {f : Rule → Nat} : ∀ (rs : List Rule) (k : Nat), (rs.zipIdx k |>.map fun p => f p.1).sum = (rs.map f).sum
  | [], k => by simp
  | r :: rs, k => by rw [List.zipIdx_cons, List.map_cons, List.map_cons, List.sum_cons, List.sum_cons, zip_sum rs (k + 1)]

/-- A key that the table of ends lets stand. -/
def StepK (w : List Nat) (E : List (List Nat)) (k : Key) : Prop := stepB w E k.sym k.frm k.to = true

theorem splits_step {w : List Nat} {E : List (List Nat)} {to : Nat} : ∀ {l : List Sym} {i : Nat} {ks : List Key}, ks ∈ splits w E to l i → ∀ q ∈ ks, StepK w E q
  | [], i, ks, h, q, hq => by
    unfold splits at h
    split at h
    · rw [List.mem_singleton.1 h] at hq; cases hq
    · cases h
  | s :: l, i, ks, h, q, hq => by
    unfold splits at h
    obtain ⟨m, _, hm⟩ := List.mem_flatMap.1 h
    split at hm
    · rename_i hs
      obtain ⟨ks', h2, rfl⟩ := List.mem_map.1 hm
      rcases List.mem_cons.1 hq with rfl | hq
      · exact hs
      · exact splits_step h2 q hq
    · cases hm

theorem Reachable.step {g : Gram} {w : List Nat} {E : List (List Nat)} {root k : Key} (h : Reachable g w E root k) (hr : StepK w E root) : StepK w E k := by
  cases h with
  | root => exact hr
  | kid _ hp hq =>
    obtain ⟨r, _, _, _, h3⟩ := mem_packsOf.1 hp
    exact splits_step h3 _ hq

theorem step_der {g : Gram} {w : List Nat} {E : List (List Nat)} (hE : EndsOf g w E) {s : Sym} {i j : Nat} (hi : i ≤ w.length) : stepB w E s i j = true ↔ Der g w s i j := by
  rw [stepB_iff]
  unfold Step
  obtain ⟨b, n⟩ := s
  cases b with
  | true => simp only [if_true]; rw [der_term]
  | false =>
    simp only [Bool.false_eq_true, if_false]
    exact hE.iff n i j hi

theorem packs_sum {g : Gram} {w : List Nat} {E : List (List Nat)} {k : Key} (hk : k.sym.term = false) {f : Sym → Nat → Nat → Nat} (hf : ∀ s i m, stepB w E s i m = false → i ≤ w.length → m ≤ k.to → f s i m = 0) (hi : k.frm ≤ w.length) (hto : k.to ≤ w.length) :
    ((packsOf g w E k).map fun p => prodN (p.kids.map fun q => f q.sym q.frm q.to)).sum = (g.rules.map fun r => if r.left = k.sym.n then listT f r.right k.frm k.to else 0).sum := by
  have e : packsOf g w E k = (List.range g.rules.length).flatMap fun i => match g.rules[i]? with | some r => (if r.left = k.sym.n ∧ k.sym.term = false then (splits w E k.to r.right k.frm).map (KPack.mk (0 + i)) else []) | none => [] := by
    unfold packsOf
    congr 1
    funext i
    unfold packsAt
    rw [Nat.zero_add]
    cases g.rules[i]? <;> rfl
  rw [e]
  refine (rules_sum (fun p : KPack => prodN (p.kids.map fun q => f q.sym q.frm q.to)) (fun i r => if r.left = k.sym.n ∧ k.sym.term = false then (splits w E k.to r.right k.frm).map (KPack.mk i) else []) g.rules 0).trans ?_
  rw [← zip_sum g.rules 0]
  congr 1
  apply List.map_congr_left
  intro p _
  by_cases h : p.1.left = k.sym.n
  · rw [if_pos ⟨h, hk⟩, if_pos h, ← splits_sum hf hto p.1.right k.frm hi, List.map_map]
    rfl
  · rw [if_neg (fun h2 => h h2.1), if_neg h]; rfl

theorem node_sym {g : Gram} (hg : Valid g) {w : List Nat} {E : List (List Nat)} (hE : EndsOf g w E) {root : Key} {S : List Key} (hK : Keys g w E root S) (hroot : GoodKey g w root) (hrs : StepK w E root) :
    ∀ (d : Nat) (k : Key), k ∈ S → nodeT (S.map (mkNode g w E S)) d (place S k) = symT g w d k.sym k.frm k.to
  | 0, k, _ => rfl
  | d + 1, k, hk => by
    have hgood := (hK.reach k hk).good hg hroot
    have hstep := (hK.reach k hk).step hrs
    have hat : (S.map (mkNode g w E S))[place S k]? = some (mkNode g w E S k) := by rw [List.getElem?_map, place_at hk]; rfl
    have hsum : ((mkNode g w E S k).packs.map (packN (nodeT (S.map (mkNode g w E S)) d))).sum = ((packsOf g w E k).map fun p => prodN (p.kids.map fun q => symT g w d q.sym q.frm q.to)).sum := by
      unfold mkNode
      simp only
      rw [List.map_map]
      congr 1
      apply List.map_congr_left
      intro p hp
      simp only [Function.comp_apply, packN, numPack, List.map_map]
      congr 1
      apply List.map_congr_left
      intro q hq
      exact node_sym hg hE hK hroot hrs d q (hK.closed k hk p hp q hq)
    rw [nodeT, hat]
    simp only
    rw [hsum, symT]
    unfold leafN
    cases ht : k.sym.term with
    | true =>
      have hno : packsOf g w E k = [] := by
        rw [List.eq_nil_iff_forall_not_mem]
        intro p hp
        obtain ⟨_, _, _, h3, _⟩ := mem_packsOf.1 hp
        rw [ht] at h3; cases h3
      have h2 := (stepB_iff.1 hstep)
      unfold Step at h2
      rw [if_pos ht] at h2
      rw [hno]
      simp [mkNode, ht, h2]
    | false =>
      rw [packs_sum ht (fun s i m h1 h2 _ => ?_) hgood.2.1 hgood.2.2]
      · simp [mkNode, ht]
      · rcases Nat.eq_zero_or_pos (symT g w d s i m) with e | e
        · exact e
        · have := (step_der hE h2).2 (symT_der e)
          rw [h1] at this; cases this

theorem nodes_prod {g : Gram} (hg : Valid g) {w : List Nat} {E : List (List Nat)} (hE : EndsOf g w E) {root : Key} {S : List Key} (hK : Keys g w E root S) (hroot : GoodKey g w root) (hrs : StepK w E root) : Prod (S.map (mkNode g w E S)) := by
  intro v hv
  rw [List.length_map] at hv
  obtain ⟨k, hk⟩ : ∃ k, S[v]? = some k := ⟨_, List.getElem?_eq_getElem hv⟩
  have hkm := List.mem_of_getElem? hk
  have hgood := (hK.reach k hkm).good hg hroot
  obtain ⟨d, hd⟩ := der_symT ((step_der hE hgood.2.1).1 ((hK.reach k hkm).step hrs))
  refine ⟨d, ?_⟩
  rw [← place_of hK.nodup hk, node_sym hg hE hK hroot hrs d k hkm]
  exact hd

theorem nodes_ok {g : Gram} (hg : Valid g) {w : List Nat} (hw : w.length ≤ 12) {E : List (List Nat)} {root : Key} {S : List Key} (hK : Keys g w E root S) (hroot : GoodKey g w root) : FOk (S.map (mkNode g w E S)) where
  few := by
    rw [List.length_map]
    exact Nat.le_trans (good_few hg (by omega) (fun k hk => (hK.reach k hk).good hg hroot) hK.nodup) (by decide)
  packs := fun x hx => by
    obtain ⟨k, hk, rfl⟩ := List.mem_map.1 hx
    have hgood := (hK.reach k hk).good hg hroot
    have := packsOf_len12 hg (E := E) (w := w) (show k.to ≤ 12 by have := hgood.2.2; omega)
    unfold mkNode
    rw [List.length_map]; omega
  kid := fun u v h => by
    obtain ⟨x, p, hx, hp, hu⟩ := h
    rw [List.getElem?_map] at hx
    cases hk : S[v]? with
    | none => rw [hk] at hx; cases hx
    | some k =>
      rw [hk] at hx
      obtain rfl := Option.some.inj hx
      obtain ⟨p', hp', rfl⟩ := List.mem_map.1 hp
      obtain ⟨q, hq, rfl⟩ := List.mem_map.1 hu
      have := hK.closed k (List.mem_of_getElem? hk) p' hp' q hq
      rw [List.length_map]
      exact List.idxOf_lt_length_of_mem this
end Go.Proofs.D

set_option linter.unusedVariables false
set_option maxRecDepth 20000
set_option maxHeartbeats 0
open Go Go.Abs Go.Proofs Go.Proofs.D
namespace Go.Proofs.D

theorem packSum_le12 {g : Gram} (hg : Valid g) {w : List Nat} {E : List (List Nat)} : ∀ (L : List Key), (∀ k ∈ L, k.to ≤ 12) → packSum g w E L ≤ L.length * 913952
  | [], _ => by simp [packSum]
  | k :: L, h => by
    have h1 := packSum_le12 hg (E := E) (w := w) L fun k hk => h k (List.mem_cons_of_mem _ hk)
    have h2 := packsOf_len12 hg (E := E) (w := w) (h k (List.mem_cons_self ..))
    unfold packSum at h1 ⊢
    rw [List.map_cons, List.sum_cons, List.length_cons, Nat.add_mul, Nat.one_mul]
    omega

def rootKey (g : Gram) (w : List Nat) : Key := ⟨⟨false, g.start⟩, 0, w.length⟩

theorem root_good {g : Gram} (hg : Valid g) (w : List Nat) : GoodKey g w (rootKey g w) := ⟨by unfold SymOk rootKey; simpa using hg.range.start, Nat.zero_le _, Nat.le_refl _⟩

/-- The forest over a table of ends. -/
def ForestV (g : Gram) (w : List Nat) (E : List (List Nat)) (F : Frz) (v : Value) : Prop :=
  (stepB w E ⟨false, g.start⟩ 0 w.length = false ∧ v = .agg ⟨[.slice none 0 0, .int .i64 (-1)]⟩) ∨
  (stepB w E ⟨false, g.start⟩ 0 w.length = true ∧ ∃ S a n c, v = .agg ⟨[.slice a n c, .int .i64 (place S (rootKey g w) : Nat)]⟩ ∧ Keys g w E (rootKey g w) S ∧ Arr tNode F a n c (S.map (mkNode g w E S)))

theorem ForestV.mono {g : Gram} {w : List Nat} {E : List (List Nat)} {F G : Frz} {v : Value} (h : ForestV g w E F v) (hF : Frz.le F G) : ForestV g w E G v := by
  rcases h with h | ⟨h1, S, a, n, c, h2, h3, h4⟩
  · exact .inl h
  · exact .inr ⟨h1, S, a, n, c, h2, h3, h4.mono hF⟩

theorem few_packs {g : Gram} (hg : Valid g) {w : List Nat} (hw : w.length ≤ 12) {E : List (List Nat)} {L : List Key} (hn : L.Nodup) (hr : ∀ k ∈ L, Reachable g w E (rootKey g w) k) : packSum g w E L ≤ 200000 * 913952 := by
  have hgood : ∀ k ∈ L, GoodKey g w k := fun k hk => (hr k hk).good hg (root_good hg w)
  refine Nat.le_trans (packSum_le12 hg L fun k hk => by have := (hgood k hk).2.2; omega) ?_
  exact Nat.mul_le_mul_right _ (good_few hg (by omega) hgood hn)

theorem countNone_spec (F : Frz) : Abs.Spec CC 66 [.agg ⟨[.slice none 0 0, .int .i64 (-1)]⟩] F [] fun F' r o => o = [] ∧ r = .int .i64 0 := by
  refine Abs.Spec.fn (n := 28) Tryd.func66 rfl rfl fun own => ?_
  refine AW.seq (AW.reg ?_)
  refine WT.boxT zr zr zr zr zr zr (fun i1 hi1 => ?_)
  refine ze hT zr zr zr zr zr ?_; refine WT.nil ?_; (iterate 2 refine AW.seq ?_); refine AW.reg ?_; refine ze hT zr zr zr zr zr ?_; refine zl hT 0 zr zr zr zr zr zr me zr ?_; refine ze hT zr zr zr zr zr ?_; refine WT.nil ?_
  refine AW.cond rfl (fun _ => ?_) (fun h => (by cases h))
  refine AW.seq ?_; refine AW.reg ?_; refine ze hT zr zr zr zr zr ?_; refine WT.nil ?_
  exact AW.ret ⟨_, [], ⟨_, _, rfl, rfl, rfl⟩, (by repeat (first | exact List.Sublist.refl _ | refine List.Sublist.cons _ ?_)), rfl, rfl⟩

theorem meanOf_spec (F : Frz) (hL : Laid F) (g : Gram) (hg : Valid g) {ga : Option Addr} {gm gc : Nat} (hr : Arr tRule F ga gm gc g.rules) {b : Option Addr} {n d : Nat} {w : List Nat} (hw : Arr tNat F b n d w) (hw12 : w.length ≤ 12) :
    Abs.Spec CC 67 [.agg ⟨gramCells g ga gm gc⟩, .slice b n d] F [] fun F' v o => o = [] ∧ ∃ E, EndsOf g w E ∧ ForestV g w E F' v := by
  unfold gramCells
  refine Abs.Spec.fn (n := 17) Tryd.func67 rfl rfl fun own => ?_
  refine AW.seq (AW.reg ?_)
  refine WT.boxT zr zr zr zr zr zr (fun i2 hi2 => ?_)
  refine WT.allocT hT zr zr zr zr zr zr (fun i4 hi4 => ?_)
  refine WT.nil ?_; refine AW.seq ?_
  refine AW.draw (ps := [(0, 4), (0, 9), (2, 9)]) rfl rfl ?_
  refine zl hT 1 zr zr zr zr zr zr me zr ?_; refine ze hT zr zr zr zr zr ?_; refine zl hT 1 zr zr zr zr zr zr me zr ?_; refine ze hT zr zr zr zr zr ?_
  refine WT.callF0 Tryd.func49 zr zr zr zr zr zr (ends_spec _ hL g hg hr hw (by omega)) (fun F1 v hF1 hv => ?_)
  obtain ⟨ea, ec, E, rfl, hE, hE2⟩ := hv
  have hEl := hE2.ok.size
  refine WT.callF0 Tryd.func70 zr zr zr zr zr zr (build_spec _ (hL.mono hF1) g hg (hr.mono hF1) (hw.mono hF1) hw12 hE hE2.ok 1099511627776 (by decide)) (fun F2 v hF2 hv => ?_)
  have hres : ∃ x, v = .tuple ⟨[.agg ⟨x⟩, .bool true]⟩ ∧ ForestV g w E F2 (.agg ⟨x⟩) ∧ ∃ a n c r, x = [.slice a n c, .int .i64 r] := by
    rcases hv with ⟨h1, rfl⟩ | ⟨h1, h2⟩
    · exact ⟨_, rfl, .inl ⟨h1, rfl⟩, _, _, _, _, rfl⟩
    · rcases h2 with ⟨S, a, n, c, rfl, hK, hA, _⟩ | ⟨_, L, h3, h4, h5⟩
      · exact ⟨_, rfl, .inr ⟨h1, S, a, n, c, rfl, hK, hA⟩, _, _, _, _, rfl⟩
      · have := few_packs hg hw12 h3 h4
        omega
  clear hv
  obtain ⟨x, rfl, hx, xa, xn, xc, xr, rfl⟩ := hres
  (iterate 3 refine ze hT zr zr zr zr zr ?_)
  refine WT.allocT hT zr zr zr zr zr zr (fun i5 hi5 => ?_)
  refine zs hT 0 0 zr zr zr zr zr zr zr zr zr zr zr zr ?_; refine ze hT zr zr zr zr zr ?_; refine WT.nil ?_
  refine ⟨(by repeat (first | exact trivial | refine recs_pair rfl rfl (by first | exact keep0 | exact keep1 (keeps_frz (by assumption)) | exact kp 0 0 me me | exact kp 1 1 me me | exact kp 2 2 me me | exact kp 3 3 me me | exact kp 4 4 me me | exact kp 5 5 me me | exact kp 6 6 me me | exact kp 0 1 me me | exact kp 1 2 me me | exact kp 2 3 me me | exact kp 3 4 me me | exact kp 4 5 me me | exact kp 5 6 me me | exact kp 6 7 me me) ?_)), ?_⟩
  refine AW.seq ?_; refine AW.reg ?_; refine zl hT 0 zr zr zr zr zr zr me zr ?_; refine zs hT 1 0 zr zr zr zr zr zr zr zr zr zr zr zr ?_; refine WT.nil ?_
  exact AW.ret ⟨_, [], ⟨_, _, ⟨_, rfl, fun G h0 s0 => loadA_cells (s0.has (p := 1) rfl (List.mem_cons_self ..)) (readT_ok hT rfl)⟩, rfl, rfl⟩, (by repeat (first | exact List.Sublist.refl _ | refine List.Sublist.cons _ ?_)), rfl, E, hE2, hx⟩

theorem still_zero {T : Nat → Nat} (h : ∀ d, T d = 0) : Still T 0 := ⟨0, fun d _ => h d⟩

theorem mcount_spec (F : Frz) (hL : Laid F) (g : Gram) (hg : Valid g) {ga : Option Addr} {gm gc : Nat} (hr : Arr tRule F ga gm gc g.rules) {b : Option Addr} {n d : Nat} {w : List Nat} (hw : Arr tNat F b n d w) (hw12 : w.length ≤ 12) (hw2 : ∀ t ∈ w, t < g.terms) :
    Abs.Spec CC 32 [.agg ⟨gramCells g ga gm gc⟩, .slice b n d] F [] fun F' v o => o = [] ∧ ∃ c, v = .tuple ⟨[.int .i64 c, .int .i64 0]⟩ ∧ CountVal (fun d => symT g w d ⟨false, g.start⟩ 0 w.length) c := by
  unfold gramCells
  refine Abs.Spec.fn (n := 17) Tryd.func32 rfl rfl fun own => ?_
  refine AW.seq (AW.reg ?_)
  refine WT.boxT zr zr zr zr zr zr (fun i2 hi2 => ?_)
  (iterate 2 refine ze hT zr zr zr zr zr ?_); refine WT.nil ?_; (iterate 2 refine AW.seq ?_); refine AW.reg ?_; refine zl hT 0 zr zr zr zr zr zr me zr ?_; refine ze hT zr zr zr zr zr ?_
  refine WT.callV Tryd.func65 zr zr zr zr zr zr (mcheck_spec _ g hg hr hw hw12 hw2) (fun v hv => ?_)
  subst hv
  refine ze hT zr zr zr zr zr ?_; refine WT.nil ?_; refine AW.seq ?_; refine AW.reg ?_; (iterate 2 refine ze hT zr zr zr zr zr ?_); refine WT.nil ?_
  refine AW.cond rfl (fun h => (by cases h)) (fun h => ?_)
  refine AW.skip ?_; refine AW.seq ?_; refine AW.reg ?_; refine zl hT 0 zr zr zr zr zr zr me zr ?_; refine ze hT zr zr zr zr zr ?_
  refine WT.callF0 Tryd.func67 zr zr zr zr zr zr (meanOf_spec _ hL g hg hr hw hw12) (fun F2 v hF2 hv => ?_)
  obtain ⟨E, hE, hv⟩ := hv
  rcases hv with ⟨h1, rfl⟩ | ⟨h1, S, a, n', c, rfl, hK, hA⟩
  · refine WT.callV Tryd.func66 zr zr zr zr zr zr (countNone_spec _) (fun v hv => ?_)
    subst hv
    (iterate 2 refine ze hT zr zr zr zr zr ?_); refine WT.nil ?_
    refine AW.ret ⟨_, [], ⟨_, _, rfl, ⟨_, _, rfl, rfl, rfl⟩, rfl⟩, (by repeat (first | exact List.Sublist.refl _ | refine List.Sublist.cons _ ?_)), rfl, 0, rfl, .inl ⟨0, still_zero fun d => ?_, rfl⟩⟩
    rcases Nat.eq_zero_or_pos (symT g w d ⟨false, g.start⟩ 0 w.length) with e | e
    · exact e
    · have := (step_der hE (Nat.zero_le _)).2 (symT_der e)
      rw [h1] at this; cases this
  · have hroot := root_good hg w
    have hrm := hK.first
    have hpl := place_at hrm
    have hlt := (List.getElem?_eq_some_iff.1 hpl).1
    refine WT.callV Tryd.func66 zr zr zr zr zr zr (count_spec _ (nodes_ok hg hw12 hK hroot) (nodes_prod hg hE hK hroot h1) hA (place S (rootKey g w)) (by rw [List.length_map]; exact hlt)) (fun v hv => ?_)
    obtain ⟨c', rfl, hc⟩ := hv
    (iterate 2 refine ze hT zr zr zr zr zr ?_); refine WT.nil ?_
    refine AW.ret ⟨_, [], ⟨_, _, rfl, ⟨_, _, rfl, rfl, rfl⟩, rfl⟩, (by repeat (first | exact List.Sublist.refl _ | refine List.Sublist.cons _ ?_)), rfl, c', rfl, ?_⟩
    have : (fun d => nodeT (S.map (mkNode g w E S)) d (place S (rootKey g w))) = fun d => symT g w d ⟨false, g.start⟩ 0 w.length := by
      funext d
      exact node_sym hg hE hK hroot h1 d _ hrm
    rw [this] at hc
    exact hc

/-! ### forest.Make, forest.Of -/
/-- A forest, or too many packs. -/
def MakeRes (g : Gram) (w : List Nat) (E : List (List Nat)) (F : Frz) (v : Value) : Prop :=
  (∃ s a n c r, s = .agg ⟨[.slice a n c, .int .i64 r]⟩ ∧ v = .tuple ⟨[s, .int .i64 0]⟩ ∧ ForestV g w E F s ∧ ∀ S, Keys g w E (rootKey g w) S → stepB w E ⟨false, g.start⟩ 0 w.length = true → packSum g w E S ≤ 20000) ∨
  (v = .tuple ⟨[.agg ⟨[.slice none 0 0, .int .i64 0]⟩, .int .i64 2]⟩ ∧ stepB w E ⟨false, g.start⟩ 0 w.length = true ∧ ∃ L : List Key, L.Nodup ∧ (∀ k ∈ L, Reachable g w E (rootKey g w) k) ∧ 20000 < packSum g w E L)

theorem keys_uniq {g : Gram} {w : List Nat} {E : List (List Nat)} {root : Key} {S S' : List Key} (h : Keys g w E root S) (h' : Keys g w E root S') : S = S' := by
  have hp : S.Perm S' := by
    rw [List.perm_ext_iff_of_nodup h.nodup h'.nodup]
    exact fun k => ⟨fun hk => h'.all (h.reach k hk), fun hk => h.all (h'.reach k hk)⟩
  refine List.Perm.eq_of_pairwise (le := fun x y => ltKey x y = true) (fun a b _ _ h1 h2 => ?_) h.sorted h'.sorted hp
  have := ltKey_swo.trans _ _ _ h1 h2
  rw [ltKey_swo.irrefl] at this; cases this

theorem make_spec (F : Frz) (hL : Laid F) (g : Gram) (hg : Valid g) {ga : Option Addr} {gm gc : Nat} (hr : Arr tRule F ga gm gc g.rules) {b : Option Addr} {n d : Nat} {w : List Nat} (hw : Arr tNat F b n d w) (hw12 : w.length ≤ 12)
    {a : Option Addr} {m c : Nat} {E : List (List Nat)} (hE : Arr (tList tU32) F a m c E) (hE2 : EndsOk g.nons w.length E) :
    Abs.Spec CC 48 [.agg ⟨gramCells g ga gm gc⟩, .slice b n d, .slice a m c] F [] fun F' v o => o = [] ∧ MakeRes g w E F' v := by
  unfold gramCells
  refine Abs.Spec.fn (n := 21) Tryd.func48 rfl rfl fun own => ?_
  refine AW.seq (AW.reg ?_)
  refine WT.boxT zr zr zr zr zr zr (fun i2 hi2 => ?_)
  refine WT.allocT hT zr zr zr zr zr zr (fun i4 hi4 => ?_)
  refine ze hT zr zr zr zr zr ?_; refine WT.nil ?_; refine AW.seq ?_; refine AW.reg ?_; refine zl hT 1 zr zr zr zr zr zr me zr ?_; (iterate 2 refine ze hT zr zr zr zr zr ?_)
  refine WT.callF0 Tryd.func70 zr zr zr zr zr zr (build_spec _ hL g hg hr hw hw12 hE hE2 20000 (by decide)) (fun F2 v hF2 hv => ?_)
  have hres : (∃ a n c r, v = .tuple ⟨[.agg ⟨[.slice a n c, .int .i64 r]⟩, .bool true]⟩ ∧ ForestV g w E F2 (.agg ⟨[.slice a n c, .int .i64 r]⟩) ∧ ∀ S, Keys g w E (rootKey g w) S → stepB w E ⟨false, g.start⟩ 0 w.length = true → packSum g w E S ≤ 20000) ∨
      (v = .tuple ⟨[.agg ⟨[.slice none 0 0, .int .i64 0]⟩, .bool false]⟩ ∧ stepB w E ⟨false, g.start⟩ 0 w.length = true ∧ ∃ L : List Key, L.Nodup ∧ (∀ k ∈ L, Reachable g w E (rootKey g w) k) ∧ 20000 < packSum g w E L) := by
    rcases hv with ⟨h1, rfl⟩ | ⟨h1, h2⟩
    · exact .inl ⟨_, _, _, _, rfl, .inl ⟨h1, rfl⟩, fun S _ h2 => by rw [h1] at h2; cases h2⟩
    · rcases h2 with ⟨S, a, n, c, rfl, hK, hA, hs⟩ | ⟨rfl, hL⟩
      · exact .inl ⟨_, _, _, _, rfl, .inr ⟨h1, S, a, n, c, rfl, hK, hA⟩, fun S' hS' _ => by rw [keys_uniq hS' hK]; exact hs⟩
      · exact .inr ⟨rfl, h1, hL⟩
  clear hv
  rcases hres with ⟨xa, xn, xc, xr, rfl, hx, hx2⟩ | ⟨rfl, hx, hx2⟩
  · (iterate 3 refine ze hT zr zr zr zr zr ?_)
    refine WT.allocT hT zr zr zr zr zr zr (fun i5 hi5 => ?_)
    refine zs hT 0 0 zr zr zr zr zr zr zr zr zr zr zr zr ?_; refine ze hT zr zr zr zr zr ?_; refine WT.nil ?_; (iterate 2 refine AW.seq ?_); refine AW.reg ?_; (iterate 2 refine ze hT zr zr zr zr zr ?_); refine WT.nil ?_
    refine AW.cond rfl (fun h => (by cases h)) (fun h => ?_)
    refine AW.skip ?_; refine AW.seq ?_; refine AW.reg ?_; refine zl hT 0 zr zr zr zr zr zr me zr ?_; refine zs hT 1 0 zr zr zr zr zr zr zr zr zr zr zr zr ?_; refine ze hT zr zr zr zr zr ?_; refine WT.nil ?_
    exact AW.ret ⟨_, [], ⟨_, _, ⟨_, rfl, fun G h0 s0 => loadA_cells (s0.has (p := 1) rfl (List.mem_cons_self ..)) (readT_ok hT rfl)⟩, ⟨_, _, rfl, rfl, rfl⟩, rfl⟩, (by repeat (first | exact List.Sublist.refl _ | refine List.Sublist.cons _ ?_)), rfl, .inl ⟨_, _, _, _, _, rfl, rfl, hx, hx2⟩⟩
  · (iterate 3 refine ze hT zr zr zr zr zr ?_)
    refine WT.allocT hT zr zr zr zr zr zr (fun i5 hi5 => ?_)
    refine zs hT 0 0 zr zr zr zr zr zr zr zr zr zr zr zr ?_; refine ze hT zr zr zr zr zr ?_; refine WT.nil ?_; (iterate 2 refine AW.seq ?_); refine AW.reg ?_; (iterate 2 refine ze hT zr zr zr zr zr ?_); refine WT.nil ?_
    refine AW.cond rfl (fun _ => ?_) (fun h => (by cases h))
    refine AW.seq ?_; refine AW.reg ?_; refine ze hT zr zr zr zr zr ?_; refine zs hT 1 0 zr zr zr zr zr zr zr zr zr zr zr zr ?_; refine ze hT zr zr zr zr zr ?_; refine WT.nil ?_
    exact AW.ret ⟨_, [], ⟨_, _, ⟨_, rfl, fun G h0 s0 => loadA_cells (s0.has (p := 1) rfl (List.mem_cons_self ..)) (readT_ok hT rfl)⟩, ⟨_, _, rfl, rfl, rfl⟩, rfl⟩, (by repeat (first | exact List.Sublist.refl _ | refine List.Sublist.cons _ ?_)), rfl, .inr ⟨rfl, hx, hx2⟩⟩

theorem forestOf_spec (F : Frz) (hL : Laid F) (g : Gram) (hg : Valid g) {ga : Option Addr} {gm gc : Nat} (hr : Arr tRule F ga gm gc g.rules) {b : Option Addr} {n d : Nat} {w : List Nat} (hw : Arr tNat F b n d w) (hw12 : w.length ≤ 12) (hw2 : ∀ t ∈ w, t < g.terms) :
    Abs.Spec CC 16 [.agg ⟨gramCells g ga gm gc⟩, .slice b n d] F [] fun F' v o => o = [] ∧ ∃ E, EndsOf g w E ∧ MakeRes g w E F' v := by
  unfold gramCells
  refine Abs.Spec.fn (n := 26) Tryd.func16 rfl rfl fun own => ?_
  refine AW.seq (AW.reg ?_)
  refine WT.boxT zr zr zr zr zr zr (fun i2 hi2 => ?_)
  refine WT.allocT hT zr zr zr zr zr zr (fun i4 hi4 => ?_)
  refine ze hT zr zr zr zr zr ?_; refine WT.nil ?_; (iterate 2 refine AW.seq ?_); refine AW.reg ?_; refine zl hT 1 zr zr zr zr zr zr me zr ?_; refine ze hT zr zr zr zr zr ?_
  refine WT.callV Tryd.func47 zr zr zr zr zr zr (accepts_spec _ hL g hg hr hw hw12 hw2) (fun v hv => ?_)
  subst hv
  (iterate 5 refine ze hT zr zr zr zr zr ?_); refine WT.nil ?_; refine AW.seq ?_; refine AW.reg ?_; (iterate 2 refine ze hT zr zr zr zr zr ?_); refine WT.nil ?_
  refine AW.cond rfl (fun h => (by cases h)) (fun h => ?_)
  refine AW.skip ?_; refine AW.seq ?_
  refine AW.draw (ps := [(0, 4)]) rfl rfl ?_
  refine zl hT 1 zr zr zr zr zr zr me zr ?_; refine ze hT zr zr zr zr zr ?_; refine zl hT 1 zr zr zr zr zr zr me zr ?_; refine ze hT zr zr zr zr zr ?_
  refine WT.callF0 Tryd.func49 zr zr zr zr zr zr (ends_spec _ hL g hg hr hw (by omega)) (fun F1 v hF1 hv => ?_)
  obtain ⟨ea, ec, E, rfl, hE, hE2⟩ := hv
  refine WT.callF0 Tryd.func48 zr zr zr zr zr zr (make_spec _ (hL.mono hF1) g hg (hr.mono hF1) (hw.mono hF1) hw12 hE hE2.ok) (fun F2 v hF2 hv => ?_)
  rcases hv with ⟨s, a, n', c, r, rfl, rfl, hx, hx2⟩ | ⟨rfl, hx, hx2⟩
  · (iterate 2 refine ze hT zr zr zr zr zr ?_); refine zs hT 0 0 zr zr zr zr zr zr zr zr zr zr zr zr ?_; refine ze hT zr zr zr zr zr ?_; refine WT.nil ?_
    refine ⟨(by repeat (first | exact trivial | refine recs_pair rfl rfl (by first | exact keep0 | exact keep1 (keeps_frz (by assumption)) | exact kp 0 0 me me | exact kp 1 1 me me | exact kp 2 2 me me | exact kp 3 3 me me | exact kp 4 4 me me | exact kp 5 5 me me | exact kp 6 6 me me | exact kp 0 1 me me | exact kp 1 2 me me | exact kp 2 3 me me | exact kp 3 4 me me | exact kp 4 5 me me | exact kp 5 6 me me | exact kp 6 7 me me) ?_)), ?_⟩
    exact AW.ret ⟨_, [], ⟨_, _, ⟨_, rfl, fun G h0 s0 => loadA_cells (s0.has (p := 0) rfl (List.mem_cons_self ..)) (readT_ok hT rfl)⟩, ⟨_, _, rfl, rfl, rfl⟩, rfl⟩, (by repeat (first | exact List.Sublist.refl _ | refine List.Sublist.cons _ ?_)), rfl, E, hE2, .inl ⟨_, _, _, _, _, rfl, rfl, hx, hx2⟩⟩
  · (iterate 2 refine ze hT zr zr zr zr zr ?_); refine zs hT 0 0 zr zr zr zr zr zr zr zr zr zr zr zr ?_; refine ze hT zr zr zr zr zr ?_; refine WT.nil ?_
    refine ⟨(by repeat (first | exact trivial | refine recs_pair rfl rfl (by first | exact keep0 | exact keep1 (keeps_frz (by assumption)) | exact kp 0 0 me me | exact kp 1 1 me me | exact kp 2 2 me me | exact kp 3 3 me me | exact kp 4 4 me me | exact kp 5 5 me me | exact kp 6 6 me me | exact kp 0 1 me me | exact kp 1 2 me me | exact kp 2 3 me me | exact kp 3 4 me me | exact kp 4 5 me me | exact kp 5 6 me me | exact kp 6 7 me me) ?_)), ?_⟩
    exact AW.ret ⟨_, [], ⟨_, _, ⟨_, rfl, fun G h0 s0 => loadA_cells (s0.has (p := 0) rfl (List.mem_cons_self ..)) (readT_ok hT rfl)⟩, ⟨_, _, rfl, rfl, rfl⟩, rfl⟩, (by repeat (first | exact List.Sublist.refl _ | refine List.Sublist.cons _ ?_)), rfl, E, hE2, .inr ⟨rfl, hx, hx2⟩⟩
end Go.Proofs.D

set_option linter.unusedVariables false
set_option maxRecDepth 20000
set_option maxHeartbeats 0
open Go Go.Abs Go.Proofs Go.Proofs.D
namespace Go.Proofs.D

structure CpS where
  j : Nat
  a : Option Addr
  c : Nat
  B : List (Nat × Blk)

theorem perm_cp3 {α : Type} (x a b c : α) (l : List α) : (x :: a :: b :: c :: l).Perm (a :: b :: c :: x :: l) := (List.perm_middle (l₁ := [a, b, c])).symm

theorem copyOf_spec (F : Frz) (g : Gram) {a : Option Addr} {m c : Nat} (hr : Arr tRule F a m c g.rules) (hm : m ≤ 1000000) (hrr : ∀ r ∈ g.rules, r.right.length ≤ 1000000) :
    Abs.Spec CC 30 [.agg ⟨gramCells g a m c⟩] F [] fun F' v o => ∃ B', o = [B'] ∧ ∃ a' c', v = .agg ⟨gramCells g a' m c'⟩ ∧ Bld tRule F' a' m c' B' g.rules := by
  unfold gramCells
  have hrl := hr.len
  refine Abs.Spec.fn (n := 28) Tryd.func30 rfl rfl fun own => ?_
  refine AW.seq (AW.reg ?_)
  refine WT.boxT zr zr zr zr zr zr (fun i1 hi1 => ?_)
  refine WT.allocT hT zr zr zr zr zr zr (fun i2 hi2 => ?_)
  refine WT.nil ?_; refine AW.seq ?_; refine AW.reg ?_; refine zl hT 1 zr zr zr zr zr zr me zr ?_
  refine WT.allocT hT zr zr zr zr zr zr (fun i3 hi3 => ?_)
  refine zs hT 0 0 zr zr zr zr zr zr zr zr zr zr zr zr ?_; refine WT.nil ?_; refine AW.seq ?_; refine AW.reg ?_; refine ze hT zr zr zr zr zr ?_; refine zs hT 0 0 zr zr zr zr zr zr zr zr zr zr zr zr ?_; refine WT.nil ?_; (iterate 2 refine AW.seq ?_); refine AW.reg ?_; refine ze hT zr zr zr zr zr ?_; refine zl hT 2 zr zr zr zr zr zr me zr ?_; (iterate 2 refine ze hT zr zr zr zr zr ?_); refine WT.nil ?_
  refine AW.range (S := CpS) (fun _ => []) (fun s => s.B :: [(i3, .cells false [.int .i64 g.terms, .int .i64 g.nons, .int .i64 g.start, .slice s.a (g.rules.take s.j).length s.c])] :: [(i2, .cells false [.int .i64 0, .int .i64 0, .int .i64 0, .slice none 0 0])] :: [(i1, .cells false [.int .i64 g.terms, .int .i64 g.nons, .int .i64 g.start, .slice a m c])] :: own)
    (fun j s G => s.j = j ∧ Bld tRule G s.a (g.rules.take s.j).length s.c s.B (g.rules.take s.j)) m ⟨0, none, 0, []⟩
    zr zr zr zr zr zr zr zr zr (by omega) rfl rfl (fun _ => rfl) (fun _ => rfl) (SubK.of_map rfl) (OwnLe.flat (List.Perm.refl _)) ⟨rfl, by simpa using Bld.nil_ _ _⟩ ?_ ?_
  · intro j s F1 hF1 hj hP
    obtain ⟨rfl, hb⟩ := hP
    have hr1 := hr.mono hF1
    refine AW.seq ?_; refine AW.reg ?_
    refine WT.idxL hT hr1 zr zr zr zr zr zr zr zr zr (by omega) (fun r hrj b off ro cs lx hb1 hp1 hrel => ?_)
    obtain ⟨ra, rn, rc, rfl, hra⟩ := hrel
    have hral := hra.len
    have hrn := hrr r (List.mem_of_getElem? hrj)
    refine zi (fo := 0) hT (by assumption) (by assumption) zr zr zr zr zr zr ?_
    refine WT.allocT hT zr zr zr zr zr zr (fun i5 hi5 => ?_)
    refine zs hT 0 0 zr zr zr zr zr zr zr zr zr zr zr zr ?_; refine WT.nil ?_
    refine AW.draw (ps := [(1, 6), (1, 8), (3, 6)]) rfl rfl ?_
    refine ze hT zr zr zr zr zr ?_; refine zl hT 2 zr zr zr zr zr zr me zr ?_; refine ze hT zr zr zr zr zr ?_; refine zl hT 0 zr zr zr zr zr zr me zr ?_; refine ze hT zr zr zr zr zr ?_; refine zl hT 0 zr zr zr zr zr zr me zr ?_
    refine WT.callN Tryd.func62 zr zr zr zr zr zr (symClone_spec _ hra (by omega)) (fun F2 v B2 hF2 hv => ?_)
    obtain ⟨ca, cc, rfl, hcv⟩ := hv
    refine WT.freezeAll 0 rfl rfl (fun F3 hF3 hB3 => ?_)
    have hca := hcv.arr hF3 hB3
    have hb3 := (hb.mono hF2).mono hF3
    refine ze hT zr zr zr zr zr ?_
    refine WT.buildT hT zr zr zr zr zr zr zr zr zr zr zr zr zr zr (fun i9 hi9 => ?_)
    have hlt : (g.rules.take s.j).length ≤ 1000000 := by simp; omega
    refine WT.appendT (ys := [r]) hT 3 hb3 rfl (fun _ => rfl) zr zr zr zr zr zr zr zr zr zr zr (fun h0 s0 => news_own hT s0 0 zr zr zr zr) (Cells.single (R := tRule) (x := r) ⟨_, _, _, rfl, hca⟩) rfl (by decide) (by first | omega | (dsimp only at *; omega)) (fun a3 c3 B3 hB3 => ?_)
    have he : g.rules.take (s.j + 1) = g.rules.take s.j ++ [r] := by rw [List.take_add_one, hrj]; rfl
    have hl2 : (g.rules.take (s.j + 1)).length = (g.rules.take s.j).length + 1 := by rw [he]; simp
    rw [← he, ← hl2] at hB3
    rw [← hl2]
    refine ze hT zr zr zr zr zr ?_; refine zs hT 4 0 zr zr zr zr zr zr zr zr zr zr zr zr ?_; refine WT.nil ?_
    refine ⟨(by repeat (first | exact trivial | refine recs_pair rfl rfl (by first | exact keep0 | exact keep1 (keeps_frz (by assumption)) | exact kp 0 0 me me | exact kp 1 1 me me | exact kp 2 2 me me | exact kp 3 3 me me | exact kp 4 4 me me | exact kp 5 5 me me | exact kp 6 6 me me | exact kp 0 1 me me | exact kp 1 2 me me | exact kp 2 3 me me | exact kp 3 4 me me | exact kp 4 5 me me | exact kp 5 6 me me | exact kp 6 7 me me) ?_)), ?_⟩
    exact ⟨⟨s.j + 1, a3, c3, B3⟩, SubK.of_map rfl, (by repeat (first | exact OwnLe.refl _ | refine OwnLe.skip _ ?_)), rfl, hB3⟩
  · intro s F1 hF1 hP
    obtain ⟨rfl, hb⟩ := hP
    rw [List.take_of_length_le (by omega), ← hrl] at hb
    rw [List.take_of_length_le (by omega), ← hrl]
    refine AW.seq ?_; refine AW.reg ?_; refine zl hT 1 zr zr zr zr zr zr me zr ?_; refine zs hT 2 0 zr zr zr zr zr zr zr zr zr zr zr zr ?_; refine WT.nil ?_
    refine AW.perm (perm_cp3 _ _ _ _ _) ?_
    refine AW.ret ⟨_, [_], ⟨_, _, ⟨_, rfl, fun G h0 s0 => loadA_cells (s0.has (p := 1) rfl (List.mem_cons_self ..)) (readT_ok hT rfl)⟩, rfl, rfl⟩, (by repeat (first | exact List.Sublist.refl _ | refine List.Sublist.cons _ ?_)), _, rfl, _, _, rfl, ?_⟩
    exact hb


/-! ### trees of a part -/
theorem sum_congr {α : Type} {f h : α → Nat} {l : List α} (e : ∀ x ∈ l, f x = h x) : (l.map f).sum = (l.map h).sum := by
  congr 1
  exact List.map_congr_left e

theorem sum_shift (f : Nat → Nat) (a : Nat) : ∀ n, (∀ m, m < a → f m = 0) → ((List.range (a + n)).map f).sum = ((List.range n).map fun m => f (a + m)).sum
  | 0, h => by
    rw [Nat.add_zero]
    exact sum_zero fun x hx => by
      obtain ⟨m, hm, rfl⟩ := List.mem_map.1 hx
      exact h m (List.mem_range.1 hm)
  | n + 1, h => by
    rw [show a + (n + 1) = (a + n) + 1 by omega, List.range_succ, List.range_succ, List.map_append, List.map_append, List.sum_append, List.sum_append, sum_shift f a n h]
    simp

theorem listT_part {f h : Sym → Nat → Nat → Nat} {a : Nat} (hz : ∀ s i m, m < i → h s i m = 0) : ∀ (l : List Sym) (i j : Nat), (∀ s ∈ l, ∀ i m, m ≤ j → f s i m = h s (a + i) (a + m)) → listT f l i j = listT h l (a + i) (a + j)
  | [], i, j, _ => by
    unfold listT
    by_cases e : i = j
    · subst e; simp
    · rw [if_neg e, if_neg (by omega)]
  | s :: l, i, j, hf => by
    unfold listT
    rw [show a + j + 1 = a + (j + 1) by omega, sum_shift _ a (j + 1) fun m hm => by rw [hz s (a + i) m (by omega), Nat.zero_mul]]
    refine sum_congr fun m hm => ?_
    have hm := List.mem_range.1 hm
    rw [hf s (List.mem_cons_self ..) i m (by omega), listT_part hz l m j fun s hs i m hm => hf s (List.mem_cons_of_mem _ hs) i m hm]

theorem symT_lt {g : Gram} {w : List Nat} {d : Nat} {s : Sym} {i j : Nat} (h : j < i) : symT g w d s i j = 0 := by
  rcases Nat.eq_zero_or_pos (symT g w d s i j) with e | e
  · exact e
  · have := der_le (symT_der e)
    omega

/-- A part of a word alone has the trees that it has in the word. -/
theorem symT_part {g : Gram} {w : List Nat} {a b : Nat} : ∀ (d : Nat) (s : Sym) (i j : Nat), a + j ≤ b → symT g ((w.take b).drop a) d s i j = symT g w d s (a + i) (a + j)
  | 0, s, i, j, _ => rfl
  | d + 1, s, i, j, hj => by
    rw [symT, symT]
    split
    · rw [List.getElem?_drop, List.getElem?_take]
      by_cases h : j = i + 1
      · subst h
        rw [if_pos (show a + i < b by omega)]
        by_cases e : w[a + i]? = some s.n
        · rw [if_pos ⟨e, rfl⟩, if_pos ⟨e, by omega⟩]
        · rw [if_neg (fun h => e h.1), if_neg (fun h => e h.1)]
      · rw [if_neg (fun h2 => h h2.2), if_neg (fun h2 => h (by omega))]
    · refine sum_congr fun r _ => ?_
      split
      · exact listT_part (fun s i m hm => symT_lt hm) r.right i j fun s _ i m hm => symT_part d s i m (by omega)
      · rfl

/-! ### counts -/
theorem CountVal.uniq {T : Nat → Nat} (hm : ∀ d, T d ≤ T (d + 1)) {a b : Int} (h : CountVal T a) (h2 : CountVal T b) : a = b := by
  have clash : ∀ {n}, Still T n → Unbound T → False := by
    intro n hs hu
    obtain ⟨D, hD⟩ := hs
    obtain ⟨d, hd⟩ := hu (n + 1)
    have mono : ∀ e, T d ≤ T (d + e) := by
      intro e
      induction e with
      | zero => exact Nat.le_refl _
      | succ e ih => exact Nat.le_trans ih (hm (d + e))
    have h1 := mono D
    have h2 := hD (d + D) (by omega)
    omega
  rcases h with ⟨n, h1, rfl⟩ | ⟨h1, rfl⟩ <;> rcases h2 with ⟨n', h3, rfl⟩ | ⟨h3, rfl⟩
  · rw [h1.uniq h3]
  · exact (clash h1 h3).elim
  · exact (clash h3 h1).elim
  · rfl

theorem Still.add {A B : Nat → Nat} {a b : Nat} (h : Still A a) (h2 : Still B b) : Still (fun d => A d + B d) (a + b) := by
  obtain ⟨D, h⟩ := h
  obtain ⟨E, h2⟩ := h2
  exact ⟨max D E, fun d hd => by dsimp only; rw [h d (by omega), h2 d (by omega)]⟩
theorem Still.mul {A B : Nat → Nat} {a b : Nat} (h : Still A a) (h2 : Still B b) : Still (fun d => A d * B d) (a * b) := by
  obtain ⟨D, h⟩ := h
  obtain ⟨E, h2⟩ := h2
  exact ⟨max D E, fun d hd => by dsimp only; rw [h d (by omega), h2 d (by omega)]⟩

theorem mono_le {T : Nat → Nat} (hm : ∀ d, T d ≤ T (d + 1)) {d e : Nat} (h : d ≤ e) : T d ≤ T e := by
  induction e with
  | zero => obtain rfl : d = 0 := by omega
            exact Nat.le_refl _
  | succ e ih =>
    rcases Nat.lt_or_ge d (e + 1) with h2 | h2
    · exact Nat.le_trans (ih (by omega)) (hm e)
    · obtain rfl : d = e + 1 := by omega
      exact Nat.le_refl _

theorem Unbound.addR {A B : Nat → Nat} (h : Unbound B) : Unbound fun d => A d + B d := fun n => by
  obtain ⟨d, hd⟩ := h n
  exact ⟨d, by dsimp only; omega⟩
theorem Unbound.addL {A B : Nat → Nat} (h : Unbound A) : Unbound fun d => A d + B d := fun n => by
  obtain ⟨d, hd⟩ := h n
  exact ⟨d, by dsimp only; omega⟩
theorem Unbound.mul {A B : Nat → Nat} (hA : ∀ d, A d ≤ A (d + 1)) (hB : ∀ d, B d ≤ B (d + 1)) (h : Unbound A) (h2 : ∃ d, 1 ≤ B d) : Unbound fun d => A d * B d := fun n => by
  obtain ⟨d, hd⟩ := h n
  obtain ⟨e, he⟩ := h2
  refine ⟨max d e, ?_⟩
  have h3 := mono_le hA (show d ≤ max d e by omega)
  have h4 := mono_le hB (show e ≤ max d e by omega)
  have : A d * 1 ≤ A (max d e) * B (max d e) := Nat.mul_le_mul h3 (by omega)
  dsimp only; omega

/-- What MeanJoined adds up. -/
def joinSum (s a b : Int) : Int := if a = 0 ∨ b = 0 then s else if a = -1 ∨ b = -1 ∨ s = -1 then -1 else min (s + min (a * b) 1000000000) 1000000000

theorem CountVal.zero {T : Nat → Nat} (hm : ∀ d, T d ≤ T (d + 1)) (h : CountVal T 0) : ∀ d, T d = 0 := by
  rcases h with ⟨n, ⟨D, hD⟩, h2⟩ | ⟨_, h⟩
  · have hn : n = 0 := by
      unfold MAXC at h2
      omega
    subst hn
    intro d
    have h3 := mono_le hm (show d ≤ max d D by omega)
    have h4 := hD (max d D) (by omega)
    omega
  · cases h

theorem CountVal.some {T : Nat → Nat} {c : Int} (h : CountVal T c) (hc : c ≠ 0) : ∃ d, 1 ≤ T d := by
  rcases h with ⟨n, ⟨D, hD⟩, h2⟩ | ⟨h, _⟩
  · refine ⟨D, ?_⟩
    rw [hD D (Nat.le_refl _)]
    rcases Nat.eq_zero_or_pos n with e | e
    · subst e; exact absurd h2 (by simpa using hc)
    · exact e
  · exact h 1

theorem count_join {S A B : Nat → Nat} (hA : ∀ d, A d ≤ A (d + 1)) (hB : ∀ d, B d ≤ B (d + 1)) {s a b : Int} (hs : CountVal S s) (ha : CountVal A a) (hb : CountVal B b) : CountVal (fun d => S d + A d * B d) (joinSum s a b) := by
  unfold joinSum
  by_cases h0 : a = 0 ∨ b = 0
  · rw [if_pos h0]
    have : (fun d => S d + A d * B d) = S := by
      funext d
      rcases h0 with rfl | rfl
      · rw [ha.zero hA d, Nat.zero_mul, Nat.add_zero]
      · rw [hb.zero hB d, Nat.mul_zero, Nat.add_zero]
    rw [this]; exact hs
  · rw [if_neg h0]
    have ha1 := ha.some (fun e => h0 (.inl e))
    have hb1 := hb.some (fun e => h0 (.inr e))
    have hcomm : (fun d => B d * A d) = fun d => A d * B d := by funext d; exact Nat.mul_comm _ _
    rcases ha with ⟨na, ha, rfl⟩ | ⟨ha, rfl⟩
    · rcases hb with ⟨nb, hb, rfl⟩ | ⟨hb, rfl⟩
      · rcases hs with ⟨ns, hs, rfl⟩ | ⟨hs, rfl⟩
        · rw [if_neg (by omega)]
          refine .inl ⟨ns + na * nb, hs.add (ha.mul hb), ?_⟩
          have e1 := min_mul na nb
          have e2 := min_add ns (na * nb)
          have hM : (1000000000 : Int) = ((MAXC : Nat) : Int) := rfl
          rw [hM, ← e2, ← e1]
          have e3 : ((min na MAXC : Nat) : Int) * ((min nb MAXC : Nat) : Int) = ((min na MAXC * min nb MAXC : Nat) : Int) := by push_cast; rfl
          rw [e3]
          generalize min na MAXC * min nb MAXC = z
          generalize min ns MAXC = y
          omega
        · rw [if_pos (by simp)]
          exact .inr ⟨hs.addL, rfl⟩
      · rw [if_pos (by simp)]
        refine .inr ⟨Unbound.addR ?_, rfl⟩
        rw [← hcomm]
        exact hb.mul hB hA ha1
    · rw [if_pos (by simp)]
      exact .inr ⟨Unbound.addR (ha.mul hA hB hb1), rfl⟩

/-! ### a grammar with a new start symbol -/
def joined (g : Gram) : Gram := ⟨g.terms, g.nons + 1, g.nons, g.rules ++ [⟨g.nons, [⟨false, g.start⟩, ⟨false, g.start⟩]⟩]⟩

theorem symT_joined {g : Gram} (hg : Valid g) {w : List Nat} : ∀ (d : Nat) (s : Sym) (i j : Nat), SymOk g.terms g.nons s → symT (joined g) w d s i j = symT g w d s i j
  | 0, s, i, j, _ => rfl
  | d + 1, s, i, j, hs => by
    rw [symT, symT]
    split
    · rfl
    · rename_i hst
      have hn : s.n < g.nons := by unfold SymOk at hs; rw [if_neg hst] at hs; exact hs
      show ((g.rules ++ [_]).map _).sum = _
      rw [List.map_append, List.sum_append]
      have h0 : (⟨g.nons, [⟨false, g.start⟩, ⟨false, g.start⟩]⟩ : Rule).left ≠ s.n := by show g.nons ≠ s.n; omega
      simp only [List.map_cons, List.map_nil, List.sum_cons, List.sum_nil, if_neg h0, Nat.add_zero]
      refine sum_congr fun r hr => ?_
      split
      · have hok := (hg.right r hr).2.2
        have := listT_part (f := symT (joined g) w d) (h := symT g w d) (a := 0) (fun s i m hm => symT_lt hm) r.right i j fun s hs i m _ => by
          rw [Nat.zero_add, Nat.zero_add]; exact symT_joined hg d s i m (hok s hs)
        rw [Nat.zero_add, Nat.zero_add] at this
        exact this
      · rfl

theorem joined_start {g : Gram} (hg : Valid g) {w : List Nat} (d : Nat) : symT (joined g) w (d + 1) ⟨false, g.nons⟩ 0 w.length = ((List.range (w.length + 1)).map fun m => symT g w d ⟨false, g.start⟩ 0 m * symT g w d ⟨false, g.start⟩ m w.length).sum := by
  have hst : SymOk g.terms g.nons ⟨false, g.start⟩ := by unfold SymOk; simpa using hg.range.start
  rw [symT]
  simp only [Bool.false_eq_true, if_false]
  show ((g.rules ++ [_]).map _).sum = _
  rw [List.map_append, List.sum_append, sum_zero (l := g.rules.map _) (fun x hx => ?_)]
  · simp only [List.map_cons, List.map_nil, List.sum_cons, List.sum_nil, if_true, Nat.add_zero, Nat.zero_add]
    rw [listT]
    refine sum_congr fun m hm => ?_
    have hm := List.mem_range.1 hm
    rw [symT_joined hg d _ _ _ hst]
    congr 1
    rw [listT, List.range_succ, List.map_append, List.sum_append, sum_zero (l := (List.range w.length).map _) (fun x hx => ?_)]
    · simp [listT, symT_joined hg d _ _ _ hst]
    · obtain ⟨m', hm', rfl⟩ := List.mem_map.1 hx
      have := List.mem_range.1 hm'
      rw [listT, if_neg (by omega), Nat.mul_zero]
  · obtain ⟨r, hr, rfl⟩ := List.mem_map.1 hx
    have := (hg.right r hr).1
    rw [if_neg (by omega)]

theorem joined_valid {g : Gram} (hg : Small g) : Valid (joined g) := by
  have hv := hg.valid
  have hr := hv.range
  have hmem : ∀ r, r ∈ (joined g).rules → r ∈ g.rules ∨ r = ⟨g.nons, [⟨false, g.start⟩, ⟨false, g.start⟩]⟩ := fun r h => by
    rcases List.mem_append.1 h with h | h
    · exact .inl h
    · exact .inr (List.mem_singleton.1 h)
  have hst := hg.start
  have hn := hg.nons
  have hl := hg.rules
  refine ⟨⟨hr.terms, ⟨by show 1 ≤ g.nons + 1; omega, by show g.nons + 1 ≤ 10; omega⟩, Nat.lt_succ_self _, ?_, fun r hm => ?_⟩, fun r hm => ?_, ?_⟩
  · show (g.rules ++ [_]).length ≤ 32
    rw [List.length_append]
    simp; omega
  · rcases hmem r hm with h | rfl
    · exact hr.right r h
    · simp
  · rcases hmem r hm with h | rfl
    · obtain ⟨h1, h2, h3⟩ := hv.right r h
      refine ⟨Nat.lt_succ_of_lt h1, h2, fun y hy => ?_⟩
      have := h3 y hy
      unfold SymOk at this ⊢
      split
      · rename_i e; rw [if_pos e] at this; exact this
      · rename_i e; rw [if_neg e] at this; exact Nat.lt_succ_of_lt this
    · refine ⟨Nat.lt_succ_self _, by simp, fun y hy => ?_⟩
      have : y = ⟨false, g.start⟩ := by simpa using hy
      subst this
      unfold SymOk
      simp only [Bool.false_eq_true, if_false]
      exact Nat.lt_succ_of_lt hst
  · show (g.rules ++ [_]).Nodup
    rw [List.nodup_append]
    refine ⟨hv.nodup, by simp, fun a ha b hb e => ?_⟩
    rw [List.mem_singleton.1 hb] at e
    have := (hv.right a ha).1
    rw [e] at this
    exact Nat.lt_irrefl _ this
end Go.Proofs.D

set_option linter.unusedVariables false
set_option maxRecDepth 20000
set_option maxHeartbeats 0
open Go Go.Abs Go.Proofs Go.Proofs.D
namespace Go.Abs
section
variable {C : Ctx} {T : RT} {n : Nat} {k : Kno} {F : Frz} {own : Own} {ops rest : List Oper} {o : Oper} {Q : Kno → Frz → Own → List Rec → Prop} {args' : List Value}
/-- A call of a function value whose result is frozen. -/
theorem WT.callCF0 {f : FuncId} {fn : Func} {fo : Operand} {as_ : Array Operand} {ts : Array TypeId} {args args' first capt : List Value} {P : Frz → Value → Prop} (hf : C.func f = some fn) (hb : fn.body.isSome = true) (hop : o.op = .call ⟨.value fo, as_, ts⟩)
    (hw : wantK ops k o = some true) {dst : Nat} (hdst : o.dst = some dst) (hn : Nat.blt dst n = true) (hfo : evK C k fo = some (.func (.func f) ⟨first⟩ ⟨capt⟩)) (hv : vals (evK C k) as_.toList = some args) (hargs : first ++ args ++ capt = args') (spec : Spec C f args' F [] fun F' v o => o = [] ∧ P F' v)
    (h : ∀ F' v, Frz.le F F' → P F' v → WT C n ops rest ((dst, v) :: k) F' own (fun k2 F2 own2 rs => Q k2 F2 own2 (⟨F, own, F', own, []⟩ :: rs))) :
    WT C n ops (o :: rest) k F own Q := by
  subst hargs
  refine WT.step (l := []) (by rw [hop]; rfl) fun e h' hk hs => ?_
  obtain ⟨v, h1, F1, oout, ⟨m, hd⟩, hF, hs1, rfl, hp⟩ := spec own h' hs
  refine ⟨v, h1, F1, own, ⟨m, fun N hN => ?_⟩, hF, hs1, by rw [hdst, putK_some hn]; exact h F1 v hF hp⟩
  unfold stepA
  rw [wantK_ok hk hw]
  have : opA C (evK C k) h' o.op = some (.call f (first ++ args ++ capt)) := by
    rw [hop]
    simp only [opA, hfo, hv, callA_func hf hb]
  simp only [opA_mono hk.eval this, hd N hN]
theorem firstZ {h : Heap} {s m c : Nat} {a : Option Addr} (ha : ∀ p, a = some p → p.spot = none) : firstA h s 0 (.slice a m c) = some [] := by
  match a, ha with
  | none, _ => rfl
  | some ⟨b, off, none⟩, _ => rfl
  | some ⟨b, off, some _⟩, ha => have := ha _ rfl; cases this

/-- A frozen slice, empty or not, is appended to an own block that is not empty. -/
theorem WT.appendA {α : Type} {R : Ty α} (hT : rowsOk C T = true) (p : Nat) {B : List (Nat × Blk)} {upd : List (Nat × Blk) → Own} {a b2 : Option Addr} {m c d c2 by_ : Nat} {xs ys : List α} {t e t2 e2 : Nat} {r r2 : Row} {z : Value} {xo so : Operand}
    (hb : Bld R F a m c B xs) (hy : Arr R F b2 d c2 ys) (hp : own[p]? = some B) (hupd : ∀ B', setO own p B' = some (upd B')) (hop : o.op = .call ⟨.builtin .append, ⟨[so, xo]⟩, ⟨[t, t2]⟩⟩) (hw : wantK ops k o = some true) {dst : Nat} (hdst : o.dst = some dst) (hn : Nat.blt dst n = true)
    (hs : evK C k so = some (.slice a m c)) (hx : evK C k xo = some (.slice b2 d c2)) (hr : rowOf T t = some r) (hd : r.d = .slice e) (hsz : sizeT T e = some R.size) (hz : zeroT T e = some z) (hby : bytesT T e = some by_)
    (hr2 : rowOf T t2 = some r2) (hd2 : r2.d = .slice e2) (hpos : 0 < R.size ∧ 0 < by_) (hroom : (m + d) * by_ ≤ 140737488355328)
    (h : ∀ a' c' B', Bld R F a' (m + d) c' B' (xs ++ ys) → WT C n ops rest ((dst, .slice a' (m + d) c') :: k) F (upd B') (fun k2 F2 own2 rs => Q k2 F2 own2 (⟨F, own, F, upd B', []⟩ :: rs))) :
    WT C n ops (o :: rest) k F own Q := by
  by_cases hd0 : d = 0
  · subst hd0
    obtain rfl : ys = [] := List.eq_nil_of_length_eq_zero hy.len.symm
    have e : upd B = own := by
      rw [← setO_ok _ _ _ _ (hupd B)]
      obtain ⟨hlt, rfl⟩ := List.getElem?_eq_some_iff.1 hp
      exact List.set_getElem_self hlt
    have := h a c B (by simpa using hb)
    rw [e] at this
    exact WT.append0 hT hop hw hdst hn hs hx hr hd hsz hz hby hr2 hd2 (fun h0 s0 => firstZ hy.spot) hpos (by simpa using hroom) this
  · obtain ⟨ds, hds, hcs⟩ := news_arr hT hy hr2 hd2 e
    exact WT.appendT hT p hb hp hupd hop hw hdst hn hs hx hr hd hsz hz hby (fun h0 s0 => hds _ h0 s0) hcs hy.len ⟨by omega, hpos⟩ hroom h
end
end Go.Abs
namespace Go.Proofs.D

/-! ### the order of nodes -/
def rankL (k : Key) : List Nat := [k.frm, k.to, if k.sym.term = true then 0 else 1, k.sym.n]

theorem rank_spec (F : Frz) {l : List Value} (x : Node) (hx : tNode.rel F l x) : Abs.Spec CC 55 [.agg ⟨l⟩] F [] fun F' v o => o = [] ∧ ∃ a c, v = .slice a 4 c ∧ Arr tNat F' a 4 c (rankL x.key) := by
  obtain ⟨a, n, c, rfl, _⟩ := hx
  obtain ⟨⟨⟨kt, kn⟩, kf, ko⟩, ps⟩ := x
  refine Abs.Spec.fn (n := 22) Tryd.func55 rfl rfl fun own => ?_
  refine AW.seq (AW.reg ?_)
  refine WT.boxT zr zr zr zr zr zr (fun i1 hi1 => ?_)
  refine ze hT zr zr zr zr zr ?_; refine WT.nil ?_; (iterate 2 refine AW.seq ?_); refine AW.reg ?_; (iterate 2 refine ze hT zr zr zr zr zr ?_); refine zl hT 0 zr zr zr zr zr zr me zr ?_; refine WT.nil ?_
  refine AW.cond rfl (fun ht => ?_) (fun ht => ?_)
  · have ht : kt = true := by simpa using ht
    subst ht
    refine AW.seq ?_; refine AW.reg ?_; refine ze hT zr zr zr zr zr ?_; refine zl hT 0 zr zr zr zr zr zr me zr ?_; refine ze hT zr zr zr zr zr ?_; refine zl hT 0 zr zr zr zr zr zr me zr ?_; (iterate 2 refine ze hT zr zr zr zr zr ?_); refine zl hT 0 zr zr zr zr zr zr me zr ?_
    refine WT.buildT hT zr zr zr zr zr zr zr zr zr zr zr zr zr zr (fun i2 hi2 => ?_)
    refine WT.freezeAll 0 rfl rfl (fun G1 hG1 hB1 => ?_)
    have hra : Arr tNat G1 (some ⟨i2, 0, none⟩) 4 1 (rankL ⟨⟨true, kn⟩, kf, ko⟩) := Bld.frozen (F := F) (B := [(i2, .cells false [.int .i64 kf, .int .i64 ko, .int .i64 0, .int .i64 kn])]) ⟨rfl, .inr ⟨i2, _, rfl, rfl, rfl, Cells.cons (l := [_]) (x := kf) rfl (Cells.cons (l := [_]) (x := ko) rfl (Cells.cons (l := [_]) (x := (0 : Nat)) rfl (Cells.single (R := tNat) (x := kn) rfl))), (by decide : 0 < tNat.size)⟩⟩ hG1 hB1
    refine ze hT zr zr zr zr zr ?_; refine WT.nil ?_
    exact AW.ret ⟨_, [], ⟨_, _, rfl, rfl, rfl⟩, (by repeat (first | exact List.Sublist.refl _ | refine List.Sublist.cons _ ?_)), rfl, _, _, rfl, hra⟩
  · have ht : kt = false := by simpa using ht
    subst ht
    refine AW.skip ?_; refine AW.seq ?_; refine AW.reg ?_; refine ze hT zr zr zr zr zr ?_; refine zl hT 0 zr zr zr zr zr zr me zr ?_; refine ze hT zr zr zr zr zr ?_; refine zl hT 0 zr zr zr zr zr zr me zr ?_; (iterate 2 refine ze hT zr zr zr zr zr ?_); refine zl hT 0 zr zr zr zr zr zr me zr ?_
    refine WT.buildT hT zr zr zr zr zr zr zr zr zr zr zr zr zr zr (fun i2 hi2 => ?_)
    refine WT.freezeAll 0 rfl rfl (fun G1 hG1 hB1 => ?_)
    have hra : Arr tNat G1 (some ⟨i2, 0, none⟩) 4 1 (rankL ⟨⟨false, kn⟩, kf, ko⟩) := Bld.frozen (F := F) (B := [(i2, .cells false [.int .i64 kf, .int .i64 ko, .int .i64 1, .int .i64 kn])]) ⟨rfl, .inr ⟨i2, _, rfl, rfl, rfl, Cells.cons (l := [_]) (x := kf) rfl (Cells.cons (l := [_]) (x := ko) rfl (Cells.cons (l := [_]) (x := (1 : Nat)) rfl (Cells.single (R := tNat) (x := kn) rfl))), (by decide : 0 < tNat.size)⟩⟩ hG1 hB1
    refine ze hT zr zr zr zr zr ?_; refine WT.nil ?_
    exact AW.ret ⟨_, [], ⟨_, _, rfl, rfl, rfl⟩, (by repeat (first | exact List.Sublist.refl _ | refine List.Sublist.cons _ ?_)), rfl, _, _, rfl, hra⟩

theorem less_spec (F : Frz) {l m : List Value} (x y : Node) (hx : tNode.rel F l x) (hy : tNode.rel F m y) : Abs.Spec CC 22 [.agg ⟨l⟩, .agg ⟨m⟩] F [] fun _ v o => o = [] ∧ v = .bool (decide (cmpNats (rankL x.key) (rankL y.key) < 0)) := by
  have hx0 := hx
  have hy0 := hy
  obtain ⟨a, n, c, rfl, _⟩ := hx
  obtain ⟨a', n', c', rfl, _⟩ := hy
  refine Abs.Spec.fn (n := 14) Tryd.func22 rfl rfl fun own => ?_
  refine AW.seq (AW.reg ?_)
  refine WT.boxT zr zr zr zr zr zr (fun i2 hi2 => ?_)
  refine WT.boxT zr zr zr zr zr zr (fun i3 hi3 => ?_)
  refine ze hT zr zr zr zr zr ?_; refine WT.nil ?_; refine AW.seq ?_; refine AW.reg ?_; refine ze hT zr zr zr zr zr ?_; refine WT.nil ?_; refine AW.seq ?_
  refine AW.draw (ps := [(4, 2)]) rfl rfl ?_
  refine ze hT zr zr zr zr zr ?_; refine zl hT 1 zr zr zr zr zr zr me zr ?_
  refine WT.callCF0 Tryd.func55 zr zr zr zr zr zr zr zr (rank_spec _ x hx0) (fun F1 v hF1 hv => ?_)
  obtain ⟨ra, rc, rfl, hra⟩ := hv
  refine ze hT zr zr zr zr zr ?_; refine zl hT 0 zr zr zr zr zr zr me zr ?_
  refine WT.callCF0 Tryd.func55 zr zr zr zr zr zr zr zr (rank_spec _ y (tNode.mono _ _ _ _ hF1 hy0)) (fun F2 v hF2 hv => ?_)
  obtain ⟨sa, sc, rfl, hsa⟩ := hv
  skip
  refine WT.callV Tryd.func23 zr zr zr zr zr zr (numCompare_spec _ (hra.mono hF2) hsa (by decide) (by decide)) (fun v hv => ?_)
  subst hv
  (iterate 2 refine ze hT zr zr zr zr zr ?_); refine WT.nil ?_
  refine ⟨(by repeat (first | exact trivial | refine recs_pair rfl rfl (by first | exact keep0 | exact keep1 (keeps_frz (by assumption)) | exact kp 0 0 me me | exact kp 1 1 me me | exact kp 2 2 me me | exact kp 3 3 me me | exact kp 4 4 me me | exact kp 5 5 me me | exact kp 6 6 me me | exact kp 0 1 me me | exact kp 1 2 me me | exact kp 2 3 me me | exact kp 3 4 me me | exact kp 4 5 me me | exact kp 5 6 me me | exact kp 6 7 me me) ?_)), ?_⟩
  skip
  exact AW.ret ⟨_, [], ⟨_, _, rfl, rfl, rfl⟩, (by repeat (first | exact List.Sublist.refl _ | refine List.Sublist.cons _ ?_)), rfl, rfl⟩

theorem rank_lt {x y : Key} (h : ltKey x y = true) : cmpNats (rankL x) (rankL y) < 0 := by
  rw [ltKey_iff] at h
  obtain ⟨⟨xt, xn⟩, xf, xo⟩ := x
  obtain ⟨⟨yt, yn⟩, yf, yo⟩ := y
  rw [cmpSym_lt] at h
  simp only at h
  unfold rankL
  simp only [cmpNats, cmpInt]
  cases xt <;> cases yt <;> simp at h ⊢ <;> repeat' split <;> omega

/-! ### Index and Contains of truth values -/
def tBool : Ty Bool where
  size := 1
  rel := fun _ l x => l = [.bool x]
  len := fun _ _ _ h => by subst h; rfl
  one := fun _ _ _ h => by subst h; rfl
  mono := fun _ _ _ _ _ h => h

theorem boolIdx_spec (F : Frz) {a : Option Addr} {m c : Nat} {xs : List Bool} (hx : Arr tBool F a m c xs) (hm : m ≤ 1000000) (y : Bool) :
    Abs.Spec CC 57 [.slice a m c, .bool y] F [] fun _ v o => o = [] ∧ v = .int .i64 (idxOf (fun x => decide (y = x)) xs) := by
  refine Abs.Spec.fn (n := 19) Tryd.func57 rfl rfl fun own => ?_
  have hxlen := hx.len
  refine AW.seq ?_; refine AW.reg ?_; refine ze hT zr zr zr zr zr ?_; refine WT.nil ?_; (iterate 2 refine AW.seq ?_); refine AW.reg ?_; (iterate 3 refine ze hT zr zr zr zr zr ?_); refine WT.nil ?_
  refine AW.range (S := Unit) (fun _ => []) (fun _ => _) (fun j _ G => ∀ z ∈ xs.take j, decide (y = z) = false) m () zr zr zr zr zr zr zr zr zr (by omega) rfl rfl (fun _ => rfl) (fun _ => rfl) (SubK.of_map rfl) (OwnLe.refl _) (by simp) ?_ ?_
  · intro j _ F1 hF1 hj hP
    have hx1 := hx.mono hF1
    refine AW.seq ?_; refine AW.reg ?_; (iterate 2 refine ze hT zr zr zr zr zr ?_); refine WT.nil ?_; refine AW.seq ?_; refine AW.reg ?_; (iterate 3 refine ze hT zr zr zr zr zr ?_)
    refine WT.idxL hT hx1 zr zr zr zr zr zr zr zr zr (by omega) (fun x hxj b1 off ro cs lx hb hp1 hrel => ?_)
    obtain rfl : lx = _ := hrel
    refine zi (fo := 0) hT (by assumption) (by assumption) zr zr zr zr zr zr ?_; refine zu hT zr zr zr zr zr zr zr zr ?_; refine WT.nil ?_
    refine AW.cond rfl (fun hc => ?_) (fun hc => ?_)
    · refine AW.seq ?_; refine AW.reg ?_; (iterate 2 refine ze hT zr zr zr zr zr ?_); refine WT.nil ?_
      refine AW.ret ⟨_, [], ⟨_, _, rfl, rfl, rfl⟩, (by repeat (first | exact List.Sublist.refl _ | refine List.Sublist.cons _ ?_)), rfl, ?_⟩
      rw [idxOf_at hxj (by simp at hc; simp; exact hc) hP]; rfl
    · refine AW.skip ?_
      exact ⟨(), SubK.of_map rfl, (by repeat (first | exact OwnLe.refl _ | refine OwnLe.skip _ ?_)), take_all hxj hP (by simp at hc; simp; exact hc)⟩
  · intro _ F1 hF1 hP
    rw [List.take_of_length_le (by omega)] at hP
    refine AW.seq ?_; refine AW.reg ?_; refine ze hT zr zr zr zr zr ?_; refine WT.nil ?_
    refine AW.ret ⟨_, [], ⟨_, _, rfl, rfl, rfl⟩, (by repeat (first | exact List.Sublist.refl _ | refine List.Sublist.cons _ ?_)), rfl, ?_⟩
    rw [idxOf_none hP]; rfl

theorem boolContains_spec (F : Frz) {a : Option Addr} {m c : Nat} {xs : List Bool} (hx : Arr tBool F a m c xs) (hm : m ≤ 1000000) (y : Bool) :
    Abs.Spec CC 24 [.slice a m c, .bool y] F [] fun _ v o => o = [] ∧ v = .bool (decide (y ∈ xs)) := by
  refine Abs.Spec.fn (n := 9) Tryd.func24 rfl rfl fun own => ?_
  refine AW.seq ?_; refine AW.reg ?_; refine ze hT zr zr zr zr zr ?_; refine WT.nil ?_; refine AW.seq ?_; refine AW.reg ?_; (iterate 2 refine ze hT zr zr zr zr zr ?_)
  refine WT.callV Tryd.func57 zr zr zr zr zr zr (boolIdx_spec _ hx hm y) (fun v hv => ?_)
  subst hv
  (iterate 2 refine ze hT zr zr zr zr zr ?_); refine WT.nil ?_
  refine AW.ret ⟨_, [], ⟨_, _, rfl, rfl, rfl⟩, (by repeat (first | exact List.Sublist.refl _ | refine List.Sublist.cons _ ?_)), rfl, ?_⟩
  have : decide (idxOf (fun x => decide (y = x)) xs ≥ 0) = decide (y ∈ xs) := by
    rw [idxOf_nonneg, Bool.eq_iff_iff]; simp
  rw [← this]; rfl

/-! ### the shape of a forest -/
/-- Keys that follow each other. -/
def Chain (to : Nat) : List Sym → Nat → List Key → Prop
  | [], i, ks => ks = [] ∧ i = to
  | s :: l, i, ks => ∃ q ks', ks = q :: ks' ∧ q.sym = s ∧ q.frm = i ∧ Chain to l q.to ks'

theorem splits_chain {w : List Nat} {E : List (List Nat)} {to : Nat} : ∀ {l : List Sym} {i : Nat} {ks : List Key}, ks ∈ splits w E to l i → Chain to l i ks
  | [], i, ks, h => by
    unfold splits at h
    split at h
    · rename_i h1
      exact ⟨List.mem_singleton.1 h, h1⟩
    · cases h
  | s :: l, i, ks, h => by
    unfold splits at h
    obtain ⟨m, _, hm⟩ := List.mem_flatMap.1 h
    split at hm
    · obtain ⟨ks', h2, rfl⟩ := List.mem_map.1 hm
      exact ⟨_, ks', rfl, rfl, rfl, splits_chain h2⟩
    · cases hm

/-- The end of the first keys. -/
def endAt (i : Nat) (ks : List Key) : Nat → Nat
  | 0 => i
  | j + 1 => match ks[j]? with | some q => q.to | none => i

theorem Chain.at_ {to : Nat} : ∀ {l : List Sym} {i : Nat} {ks : List Key}, Chain to l i ks → ∀ {j : Nat} {q : Key}, ks[j]? = some q → l[j]? = some q.sym ∧ q.frm = endAt i ks j
  | [], i, ks, h, j, q, hq => by
    obtain ⟨rfl, _⟩ := h
    simp at hq
  | s :: l, i, ks, h, j, q, hq => by
    obtain ⟨q0, ks', rfl, h1, h2, h3⟩ := h
    cases j with
    | zero =>
      obtain rfl : q0 = q := by simpa using hq
      exact ⟨by simp [h1], h2⟩
    | succ j =>
      rw [List.getElem?_cons_succ] at hq
      obtain ⟨h4, h5⟩ := h3.at_ hq
      refine ⟨by rw [List.getElem?_cons_succ]; exact h4, ?_⟩
      rw [h5]
      cases j with
      | zero => simp [endAt]
      | succ j =>
        simp only [endAt, List.getElem?_cons_succ]
        have : ∃ q', ks'[j]? = some q' := ⟨_, List.getElem?_eq_getElem (by have := (List.getElem?_eq_some_iff.1 hq).1; omega)⟩
        obtain ⟨q', hq'⟩ := this
        rw [hq']

theorem Chain.end_ {to : Nat} : ∀ {l : List Sym} {i : Nat} {ks : List Key}, Chain to l i ks → endAt i ks ks.length = to ∧ ks.length = l.length
  | [], i, ks, h => by
    obtain ⟨rfl, h⟩ := h
    exact ⟨h, rfl⟩
  | s :: l, i, ks, h => by
    obtain ⟨q0, ks', rfl, h1, h2, h3⟩ := h
    obtain ⟨h4, h5⟩ := h3.end_
    refine ⟨?_, by simp [h5]⟩
    rw [List.length_cons]
    simp only [endAt]
    rw [← h4]
    cases hk : ks'.length with
    | zero => simp [endAt]
    | succ j =>
      have hlt : j < ks'.length := by omega
      rw [List.getElem?_cons_succ]
      simp only [endAt]
      rw [List.getElem?_eq_getElem hlt]

/-- What the law looks at in a node's pack. -/
structure PackOk (g : Gram) (S : List Key) (k : Key) (p : NPack) (kp : KPack) : Prop where
  num : p = numPack S kp
  rule : ∃ r, g.rules[kp.rule]? = some r ∧ r.left = k.sym.n ∧ Chain k.to r.right k.frm kp.kids
  ins : ∀ q ∈ kp.kids, q ∈ S

structure NodeOk (g : Gram) (w : List Nat) (S : List Key) (k : Key) (x : Node) : Prop where
  key : x.key = k
  term : k.sym.term = true → k.to = k.frm + 1 ∧ k.to ≤ w.length ∧ w[k.frm]? = some k.sym.n ∧ x.packs = []
  non : k.sym.term = false → x.packs ≠ []
  pack : ∀ p ∈ x.packs, ∃ kp, PackOk g S k p kp
  sorted : x.packs.Pairwise fun x y => cmpNPack x y < 0

theorem packsOf_term {g : Gram} {w : List Nat} {E : List (List Nat)} {k : Key} (h : k.sym.term = true) : packsOf g w E k = [] := by
  rw [List.eq_nil_iff_forall_not_mem]
  intro p hp
  obtain ⟨r, _, _, h3, _⟩ := mem_packsOf.1 hp
  rw [h] at h3; cases h3

theorem stepB_term {w : List Nat} {E : List (List Nat)} {n i j : Nat} (h : stepB w E ⟨true, n⟩ i j = true) : j = i + 1 ∧ w[i]? = some n := by
  rw [stepB_iff] at h
  have h : Step w E ⟨true, n⟩ i j := h
  unfold Step at h
  simp only [if_true] at h
  exact ⟨h.2, h.1⟩

theorem node_shape {g : Gram} (hg : Valid g) {w : List Nat} {E : List (List Nat)} (hE : EndsOf g w E) {root : Key} {S : List Key} (hK : Keys g w E root S) (hroot : GoodKey g w root) (hrs : StepK w E root) {k : Key} (hk : k ∈ S) : NodeOk g w S k (mkNode g w E S k) where
  key := rfl
  term := fun h => by
    have hgood := (hK.reach k hk).good hg hroot
    have hst := (hK.reach k hk).step hrs
    obtain ⟨⟨kt, kn⟩, kf, ko⟩ := k
    have h : kt = true := h
    subst h
    obtain ⟨h1, h2⟩ := stepB_term hst
    refine ⟨h1, hgood.2.2, h2, ?_⟩
    unfold mkNode
    rw [packsOf_term rfl]; rfl
  non := fun h hn => by
    have hp := nodes_prod hg hE hK hroot hrs
    obtain ⟨v, hv, hvk⟩ := List.getElem_of_mem hk
    obtain ⟨d, hd⟩ := hp v (by rw [List.length_map]; exact hv)
    have hx : (S.map (mkNode g w E S))[v]? = some (mkNode g w E S k) := by rw [List.getElem?_map, List.getElem?_eq_getElem hv, hvk]; rfl
    cases d with
    | zero => simp [nodeT] at hd
    | succ d =>
      unfold nodeT at hd
      rw [hx] at hd
      simp only at hd
      rw [hn] at hd
      simp [leafN, mkNode, h] at hd
  pack := fun p hp => by
    obtain ⟨kp, hkp, rfl⟩ := List.mem_map.1 hp
    obtain ⟨r, h1, h2, _, h3⟩ := mem_packsOf.1 hkp
    exact ⟨kp, rfl, ⟨r, h1, h2, splits_chain h3⟩, fun q hq => hK.closed k hk kp hkp q hq⟩
  sorted := (node_sorted hK hk).imp fun h => h.2

/-- Every key but the root is a kid. -/
theorem kid_of {g : Gram} {w : List Nat} {E : List (List Nat)} {root : Key} {S : List Key} (hK : Keys g w E root S) {q : Key} (hq : q ∈ S) (hne : q ≠ root) : ∃ x ∈ S.map (mkNode g w E S), ∃ p ∈ x.packs, place S q ∈ p.kids := by
  cases hK.reach q hq with
  | root => exact absurd rfl hne
  | @kid k q p h1 h2 h3 =>
    exact ⟨_, List.mem_map.2 ⟨k, hK.all h1, rfl⟩, _, List.mem_map.2 ⟨p, h2, rfl⟩, List.mem_map.2 ⟨q, h3, rfl⟩⟩
end Go.Proofs.D

set_option linter.unusedVariables false
set_option maxRecDepth 20000
set_option maxHeartbeats 0
open Go Go.Abs Go.Proofs Go.Proofs.D
namespace Go.Proofs.D

/-! ### the tables of ends that the laws make by themselves -/
def withStart (g : Gram) (n : Nat) : Gram := { g with start := n }

theorem der_rules {g h : Gram} (e : g.rules = h.rules) {w : List Nat} {s : Sym} {i j : Nat} (hd : Der g w s i j) : Der h w s i j := by
  refine Der.rec (motive_1 := fun s i j _ => Der h w s i j) (motive_2 := fun l i j _ => Ders h w l i j) ?_ ?_ ?_ ?_ hd
  · intro t i h2; exact .term h2
  · intro r i j hr _ ih; exact .non (by rw [← e]; exact hr) ih
  · intro i; exact .nil
  · intro s l i m j _ _ h1 h2; exact .cons h1 h2

theorem derives_part {g : Gram} {w : List Nat} {n i j : Nat} (hij : i ≤ j) (hj : j ≤ w.length) : derives (withStart g n) ((w.take j).drop i) n 0 (j - i) = true ↔ Der g w ⟨false, n⟩ i j := by
  rw [derives_iff]
  constructor
  · intro h
    have h : Der g ((w.take j).drop i) ⟨false, n⟩ 0 (j - i) := der_rules (g := withStart g n) (h := g) rfl h
    have := (der_part hij hj h).1
    rwa [Nat.add_zero, show i + (j - i) = j by omega] at this
  · intro h
    have := part_der (a := i) (b := j) hj h (Nat.le_refl _) (Nat.le_refl _)
    rw [Nat.sub_self] at this
    exact der_rules (g := g) (h := withStart g n) rfl this

theorem withStart_valid {g : Gram} (hg : Valid g) {n : Nat} (hn : n < g.nons) : Valid (withStart g n) where
  range := { hg.range with start := hn }
  right := hg.right
  nodup := hg.nodup

theorem der_end {g : Gram} {w : List Nat} {s : Sym} {i j : Nat} (h : Der g w s i j) (hi : i ≤ w.length) : j ≤ w.length := by
  have h2 : Der g ((w.take w.length).drop 0) s i j := by rw [List.take_length, List.drop_zero]; exact h
  exact (der_part (Nat.zero_le _) (Nat.le_refl _) h2).2 hi

/-- A row that is filled up to place i, and there up to end j. -/
structure RowTo (g : Gram) (w : List Nat) (n i j : Nat) (row : List Nat) : Prop where
  len : row.length = w.length + 1
  bit : ∀ p x, row[p]? = some x → ∀ q, x.testBit q = true ↔ ((p < i ∨ (p = i ∧ q < j)) ∧ Der g w ⟨false, n⟩ p q)

theorem RowTo.lt {g : Gram} {w : List Nat} {n i j : Nat} {row : List Nat} (h : RowTo g w n i j row) {p x : Nat} (hx : row[p]? = some x) : x < 2 ^ (w.length + 1) := by
  refine Nat.lt_pow_two_of_testBit x fun q hq => ?_
  cases hb : x.testBit q with
  | false => rfl
  | true =>
    have hp := (List.getElem?_eq_some_iff.1 hx).1
    have := h.len
    have := der_end ((h.bit p x hx q).1 hb).2 (by omega)
    omega

theorem RowTo.zero (g : Gram) (w : List Nat) (n : Nat) : RowTo g w n 0 0 (List.replicate (w.length + 1) 0) where
  len := by simp
  bit := fun p x hx q => by
    have : x = 0 := List.eq_of_mem_replicate (List.mem_of_getElem? hx)
    subst this
    simp

theorem RowTo.start {g : Gram} {w : List Nat} {n i : Nat} {row : List Nat} (h : RowTo g w n i 0 row) : RowTo g w n i i row where
  len := h.len
  bit := fun p x hx q => by
    rw [h.bit p x hx q]
    constructor
    · rintro ⟨h1 | h1, h2⟩
      · exact ⟨.inl h1, h2⟩
      · omega
    · rintro ⟨h1 | h1, h2⟩
      · exact ⟨.inl h1, h2⟩
      · have := der_le h2; omega

theorem RowTo.done {g : Gram} {w : List Nat} {n i j : Nat} {row : List Nat} (h : RowTo g w n i j row) (hj : w.length < j) : RowTo g w n (i + 1) 0 row where
  len := h.len
  bit := fun p x hx q => by
    have hp := (List.getElem?_eq_some_iff.1 hx).1
    have := h.len
    rw [h.bit p x hx q]
    constructor
    · rintro ⟨h1, h2⟩
      exact ⟨.inl (by omega), h2⟩
    · rintro ⟨h1, h2⟩
      have := der_end h2 (by omega)
      exact ⟨by omega, h2⟩

theorem RowTo.skip {g : Gram} {w : List Nat} {n i j : Nat} {row : List Nat} (h : RowTo g w n i j row) (hd : ¬ Der g w ⟨false, n⟩ i j) : RowTo g w n i (j + 1) row where
  len := h.len
  bit := fun p x hx q => by
    rw [h.bit p x hx q]
    constructor
    · rintro ⟨h1, h2⟩
      exact ⟨by omega, h2⟩
    · rintro ⟨h1 | ⟨rfl, h1⟩, h2⟩
      · exact ⟨.inl h1, h2⟩
      · rcases Nat.lt_or_ge q j with h3 | h3
        · exact ⟨.inr ⟨rfl, h3⟩, h2⟩
        · obtain rfl : q = j := by omega
          exact absurd h2 hd

theorem RowTo.put {g : Gram} {w : List Nat} {n i j : Nat} {row : List Nat} (h : RowTo g w n i j row) (hd : Der g w ⟨false, n⟩ i j) {x : Nat} (hx : row[i]? = some x) : RowTo g w n i (j + 1) (row.set i (x ||| (1 * 2 ^ j))) where
  len := by rw [List.length_set]; exact h.len
  bit := fun p y hy q => by
    have hi := (List.getElem?_eq_some_iff.1 hx).1
    by_cases e : p = i
    · subst e
      rw [List.getElem?_set_self hi] at hy
      obtain rfl := Option.some.inj hy
      rw [Nat.testBit_or, Nat.one_mul, Nat.testBit_two_pow, Bool.or_eq_true, h.bit p x hx q]
      constructor
      · rintro (⟨h1, h2⟩ | h1)
        · exact ⟨by omega, h2⟩
        · have h1 : j = q := by simpa using h1
          subst h1
          exact ⟨by omega, hd⟩
      · rintro ⟨h1, h2⟩
        by_cases e2 : j = q
        · right; simpa using e2
        · left; exact ⟨by omega, h2⟩
    · rw [List.getElem?_set_ne (Ne.symm e)] at hy
      rw [h.bit p y hy q]
      constructor
      · rintro ⟨h1, h2⟩; exact ⟨by omega, h2⟩
      · rintro ⟨h1, h2⟩; exact ⟨by omega, h2⟩

theorem endsOf_rows {g : Gram} (hg : Valid g) {w : List Nat} {E : List (List Nat)} (hl : E.length = g.nons) (h : ∀ n row, E[n]? = some row → RowTo g w n (w.length + 1) 0 row) : EndsOf g w E where
  ok := by
    refine ⟨hl, fun r hr => ?_, fun r hr x hx => ?_⟩
    · obtain ⟨n, hn, rfl⟩ := List.getElem_of_mem hr
      exact (h n _ (List.getElem?_eq_getElem hn)).len
    · obtain ⟨n, hn, rfl⟩ := List.getElem_of_mem hr
      obtain ⟨p, hp, rfl⟩ := List.getElem_of_mem hx
      exact (h n _ (List.getElem?_eq_getElem hn)).lt (List.getElem?_eq_getElem hp)
  iff := fun n i j hi => by
    constructor
    · rintro ⟨row, x, h1, h2, h3⟩
      exact (((h n row h1).bit i x h2 j).1 h3).2
    · intro hd
      have hn : n < E.length := by
        cases hd with
        | non hr _ => rw [hl]; exact (hg.right _ hr).1
      have h1 : E[n]? = some E[n] := List.getElem?_eq_getElem hn
      have hrow := h n _ h1
      have hi2 : i < E[n].length := by rw [hrow.len]; omega
      exact ⟨_, _, h1, List.getElem?_eq_getElem hi2, (hrow.bit i _ (List.getElem?_eq_getElem hi2) j).2 ⟨.inl (by omega), hd⟩⟩
structure PtS where
  a : Option Addr
  m : Nat
  c : Nat
  B : List (Nat × Blk)
  vs : List Value
  bs : List (Nat × Blk)
  E : List (List Nat)

theorem mparts_spec (F : Frz) (hL : Laid F) (g : Gram) (hg : Valid g) {a : Option Addr} {m c : Nat} (hr : Arr tRule F a m c g.rules) {b : Option Addr} {n d : Nat} {w : List Nat} (hw : Arr tNat F b n d w) (hw12 : w.length ≤ 12) (hw2 : ∀ t ∈ w, t < g.terms) :
    Abs.Spec CC 26 [.agg ⟨gramCells g a m c⟩, .slice b n d] F [] fun F' v o => ∃ B', o = [B'] ∧ ∃ B bs a c vs E, B' = B ++ bs ∧ v = .slice a g.nons c ∧ Bld tRaw F' a g.nons c B vs ∧ Abs.Rows cU32 vs bs E ∧ EndsOf g w E := by
  unfold gramCells
  have hwlen := hw.len
  subst hwlen
  have hrl := hr.len
  have hgr := hg.range.rules
  have hgn := hg.range.nons
  have pwl : 2 ^ (w.length + 1) ≤ 8192 := Nat.pow_le_pow_right (j := 13) (by decide) (by omega)
  refine Abs.Spec.fn (n := 63) Tryd.func26 rfl rfl fun own => ?_
  refine AW.seq (AW.reg ?_)
  refine WT.boxT zr zr zr zr zr zr (fun i2 hi2 => ?_)
  refine ze hT zr zr zr zr zr ?_; refine WT.nil ?_; refine AW.seq ?_; refine AW.reg ?_; refine ze hT zr zr zr zr zr ?_; refine WT.nil ?_; (iterate 2 refine AW.seq ?_); refine AW.reg ?_; refine ze hT zr zr zr zr zr ?_; refine zl hT 0 zr zr zr zr zr zr me zr ?_; refine ze hT zr zr zr zr zr ?_; refine WT.nil ?_
  refine AW.range (S := PtS) (fun s => [(5, .slice s.a s.m s.c)]) (fun s => s.B :: s.bs :: [(i2, .cells false [.int .i64 g.terms, .int .i64 g.nons, .int .i64 g.start, .slice a m c])] :: own)
    (fun k s G => Bld tRaw G s.a s.m s.c s.B s.vs ∧ Abs.Rows cU32 s.vs s.bs s.E ∧ s.E.length = k ∧ ∀ n row, s.E[n]? = some row → RowTo g w n (w.length + 1) 0 row) g.nons ⟨none, 0, 0, [], [], [], []⟩
    zr zr zr zr zr zr zr zr zr (by omega) rfl rfl (fun _ => rfl) (fun _ => rfl) (SubK.of_map rfl) (OwnLe.flat (List.Perm.refl _)) ⟨Bld.nil_ _ _, Abs.Rows.nil, rfl, fun n row h => (by simp at h)⟩ ?_ ?_
  · intro k s F1 hF1 hk hP
    obtain ⟨hb, hR, hEl, hE⟩ := hP
    have hblen := hb.len
    have hvl := hR.len.1
    have hr1 := hr.mono hF1
    have hw1 := hw.mono hF1
    have hL1 := hL.mono hF1
    refine AW.seq ?_; refine AW.reg ?_; (iterate 2 refine ze hT zr zr zr zr zr ?_); refine WT.nil ?_; refine AW.seq ?_; refine AW.reg ?_; refine zl hT 2 zr zr zr zr zr zr me zr ?_
    refine WT.callN Tryd.func30 zr zr zr zr zr zr (copyOf_spec _ g hr1 (by omega) (fun r hr => by have := (hg.right r hr).2.1; omega)) (fun F2 v B2 hF2 hv2 => ?_)
    obtain ⟨ca, cc, rfl, hcb⟩ := hv2
    unfold gramCells
    skip
    refine WT.allocT hT zr zr zr zr zr zr (fun i7 hi7 => ?_)
    refine zs hT 0 0 zr zr zr zr zr zr zr zr zr zr zr zr ?_; refine WT.nil ?_; refine AW.seq ?_; refine AW.reg ?_; (iterate 2 refine ze hT zr zr zr zr zr ?_); refine zs hT 0 0 zr zr zr zr zr zr zr zr zr zr zr zr ?_; refine WT.nil ?_; refine AW.seq ?_; refine AW.reg ?_; (iterate 2 refine ze hT zr zr zr zr zr ?_); refine za zr zr zr zr zr zr (by omega) ?_
    refine WT.makeT (l := w.length + 1) hT zr zr zr zr zr zr zr zr zr zr zr zr (by first | omega | (dsimp only at *; omega)) (fun ir hir => ?_)
    rw [cap_eq, if_neg (Nat.succ_ne_zero _)]
    refine WT.freezeAll 2 rfl rfl (fun F3 hF3 hB3 => ?_)
    have hcr := hcb.frozen hF3 hB3
    have hw3 := (hw1.mono hF2).mono hF3
    have hL3 := (hL1.mono hF2).mono hF3
    have hb3 := (hb.mono hF2).mono hF3
    have e0 : List.replicate (w.length + 1) (Value.int .u32 0) = (List.replicate (w.length + 1) 0).map cU32.cell := by rw [List.map_replicate]; rfl
    refine ze hT zr zr zr zr zr ?_; refine WT.nil ?_; (iterate 2 refine AW.seq ?_); refine AW.reg ?_; (iterate 3 refine ze hT zr zr zr zr zr ?_); refine WT.nil ?_
    refine AW.range (S := List Nat) (fun _ => []) (fun R => [(ir, .cells false (R.map cU32.cell))] :: [(i7, .cells false [.int .i64 g.terms, .int .i64 g.nons, .int .i64 k, .slice ca m cc])] :: [] :: s.B :: s.bs :: [(i2, .cells false [.int .i64 g.terms, .int .i64 g.nons, .int .i64 g.start, .slice a m c])] :: own)
      (fun i R G => RowTo g w k i 0 R) (w.length + 1) (List.replicate (w.length + 1) 0)
      zr zr zr zr zr zr zr zr zr (by omega) rfl rfl (fun _ => rfl) (fun _ => rfl) (SubK.of_map rfl) (by rw [← e0]; exact OwnLe.refl _) (RowTo.zero g w k) ?_ ?_
    · intro i R F4 hF4 hi hRow
      have hw4 := hw3.mono hF4
      have hL4 := hL3.mono hF4
      have hcr4 := hcr.mono hF4
      refine AW.seq ?_; refine AW.reg ?_; (iterate 2 refine ze hT zr zr zr zr zr ?_); refine WT.nil ?_; refine AW.seq ?_; refine AW.reg ?_; (iterate 2 refine ze hT zr zr zr zr zr ?_); refine WT.nil ?_
      refine AW.block ?_
      refine AW.loopR (S := List Nat × Nat) (fun z => [(10, .int .i64 (z.2 : Nat))]) (fun z => [(ir, .cells false (z.1.map cU32.cell))] :: [(i7, .cells false [.int .i64 g.terms, .int .i64 g.nons, .int .i64 k, .slice ca m cc])] :: [] :: s.B :: s.bs :: [(i2, .cells false [.int .i64 g.terms, .int .i64 g.nons, .int .i64 g.start, .slice a m c])] :: own) (fun z G => RowTo g w k i z.2 z.1 ∧ i ≤ z.2) (fun z => w.length + 1 - z.2) ⟨R, i⟩
        (SubK.of_map rfl) (OwnLe.refl _) ⟨hRow.start, Nat.le_refl _⟩ ?_
      rintro ⟨R, j⟩ F5 hF5 ⟨hz1, hz2⟩
      have hz1 : RowTo g w k i j R := hz1
      have hz2 : i ≤ j := hz2
      have hw5 := hw4.mono hF5
      have hL5 := hL4.mono hF5
      have hcr5 := hcr4.mono hF5
      have hRl := hz1.len
      (iterate 2 refine AW.seq ?_); refine AW.reg ?_; (iterate 4 refine ze hT zr zr zr zr zr ?_); refine WT.nil ?_
      refine AW.cond rfl (fun h => ?_) (fun h => ?_)
      · have h : j ≤ w.length := by have h := of_decide_eq_true h; omega
        refine AW.skip ?_; refine AW.seq ?_
        refine AW.block ?_
        refine AW.seq ?_; refine AW.draw (ps := []) zr zr ?_; refine zl hT 1 zr zr zr zr zr zr me zr ?_; (iterate 3 refine ze hT zr zr zr zr zr ?_)
        obtain ⟨sa, sc, hs1, hsl⟩ := hw5.slice (C := CC) (lo := i) (hi := j) hz2 h hT (t := 22) zr zr zr (some (.int .i64 (i : Nat))) (some (.int .i64 (j : Nat))) rfl rfl
        refine WT.slice zr zr zr zr zr zr zr zr hs1 ?_
        have hl1 : ((w.take j).drop i).length = j - i := by simp; omega
        skip
        refine WT.callV Tryd.func47 zr zr zr zr zr zr (accepts_spec _ hL5 (withStart g k) (withStart_valid hg hk) hcr5 hsl (by rw [hl1]; omega) (fun t ht => hw2 t (List.mem_of_mem_take (List.mem_of_mem_drop ht)))) (fun v hv => ?_)
        subst hv
        rw [hl1]
        have hdp := derives_part (g := g) (n := k) hz2 h
        have hil : i < R.length := by omega
        obtain ⟨x, hx⟩ : ∃ x, R[i]? = some x := ⟨_, List.getElem?_eq_getElem hil⟩
        have hxb := hz1.lt hx
        have hcell : (R.map cU32.cell)[0 + i * 1]? = some (.int .u32 x) := by rw [Nat.zero_add, Nat.mul_one, List.getElem?_map, hx]; rfl
        have pj : 2 ^ j ≤ 4096 := Nat.pow_le_pow_right (j := 12) (by decide) (by omega)
        (iterate 5 refine ze hT zr zr zr zr zr ?_); refine WT.nil ?_; refine And.intro trivial ?_; refine AW.seq ?_; refine AW.reg ?_; refine ze hT zr zr zr zr zr ?_; refine WT.nil ?_
        refine AW.cond rfl (fun hd => ?_) (fun hd => ?_)
        · have hd : Der g w ⟨false, k⟩ i j := hdp.1 hd
          refine AW.draw (ps := []) zr zr ?_; (iterate 2 refine ze hT zr zr zr zr zr ?_)
          refine WT.idxA (j := i) (s := 1) hT zr zr zr zr zr zr zr zr zr (by omega) ?_
          refine WT.loadAt hT 0 zr zr zr zr zr zr (List.mem_cons_self ..) rfl rfl hcell ?_
          refine ze hT zr zr zr zr zr ?_
          refine WT.shl32 (x := 1) (y := j) zr zr zr zr zr zr (by omega) (by omega) ?_
          refine WT.or32 (x := x) (y := 1 * 2 ^ j) zr zr zr zr zr zr (by omega) (by omega) ?_
          refine WT.idxA (j := i) (s := 1) hT zr zr zr zr zr zr zr zr zr (by omega) ?_
          refine WT.storeAt hT 0 0 zr zr zr zr zr zr zr zr zr zr (by simp; omega) rfl rfl ?_
          rw [show (R.map cU32.cell).set (0 + i * 1) (.int .u32 ((x ||| 1 * 2 ^ j : Nat) : Int)) = (R.set i (x ||| 1 * 2 ^ j)).map cU32.cell by rw [Nat.zero_add, Nat.mul_one, List.map_set]; rfl]
          refine WT.nil ?_; refine And.intro trivial ?_; refine AW.reg ?_; refine ze hT zr zr zr zr zr ?_; refine WT.add1 zr zr zr zr zr zr (by omega) ?_; refine ze hT zr zr zr zr zr ?_; refine WT.nil ?_
          exact ⟨(R.set i (x ||| 1 * 2 ^ j), j + 1), by show w.length + 1 - (j + 1) < w.length + 1 - j; omega, SubK.of_map rfl, OwnLe.refl _, hz1.put hd hx, by show i ≤ j + 1; omega⟩
        · have hd : ¬ Der g w ⟨false, k⟩ i j := fun h2 => by
            have := hdp.2 h2
            have hd : derives (withStart g k) ((w.take j).drop i) k 0 (j - i) = false := hd
            rw [hd] at this; cases this
          refine AW.skip ?_; refine AW.reg ?_; refine ze hT zr zr zr zr zr ?_; refine WT.add1 zr zr zr zr zr zr (by omega) ?_; refine ze hT zr zr zr zr zr ?_; refine WT.nil ?_
          exact ⟨(R, j + 1), by show w.length + 1 - (j + 1) < w.length + 1 - j; omega, SubK.of_map rfl, OwnLe.refl _, hz1.skip hd, by show i ≤ j + 1; omega⟩
      · have h : w.length < j := by have h := of_decide_eq_false h; omega
        refine AW.exit ?_
        skip
        exact ⟨R, SubK.of_map rfl, OwnLe.refl _, hz1.done h⟩
    · intro R F4 hF4 hRow
      refine AW.reg ?_; (iterate 2 refine ze hT zr zr zr zr zr ?_)
      refine WT.buildT hT zr zr zr zr zr zr zr zr zr zr zr zr zr zr (fun i9 hi9 => ?_)
      have hb4 := hb3.mono hF4
      have hRl := hRow.len
      refine WT.appendT (R := tRaw) (ys := [.slice (some ⟨ir, 0, none⟩) (w.length + 1) 1]) hT 4 hb4 rfl (fun _ => rfl) zr zr zr zr zr zr zr zr zr zr zr (fun h0 s0 => news_own hT s0 0 zr zr zr zr) (Cells.single (R := tRaw) ⟨rfl, rfl⟩) rfl (by decide) (by first | omega | (dsimp only at *; omega)) (fun a3 c3 B3 hB3 => ?_)
      refine ze hT zr zr zr zr zr ?_; refine WT.nil ?_
      refine ⟨⟨a3, s.m + 1, c3, B3, s.vs ++ [.slice (some ⟨ir, 0, none⟩) (w.length + 1) 1], s.bs ++ [(ir, .cells false (R.map cU32.cell))], s.E ++ [R]⟩, SubK.of_map rfl, ?_, hB3, ?_, ?_, ?_⟩
      · refine OwnLe.skip _ (OwnLe.trans (OwnLe.flat ?_) (OwnLe.cons _ (OwnLe.skip _ (OwnLe.refl _))))
        simp only [List.flatten_cons, List.singleton_append]
        have := perm_to_end (ir, Blk.cells false (R.map cU32.cell)) B3 s.bs ([(i2, Blk.cells false [.int .i64 g.terms, .int .i64 g.nons, .int .i64 g.start, .slice a m c])] ++ own.flatten)
        simpa using this
      · have := hR.snoc (K := cU32) (id := ir) (row := R) (c := 1) (by rw [if_neg (by omega)])
        rw [hRl] at this
        exact this
      · rw [List.length_append, hEl]; rfl
      · intro n' row hrow
        rcases Nat.lt_or_ge n' k with h1 | h1
        · rw [List.getElem?_append_left (by omega)] at hrow
          exact hE n' row hrow
        · rw [List.getElem?_append_right (by omega)] at hrow
          have h2 : n' - s.E.length = 0 := by
            have := (List.getElem?_eq_some_iff.1 hrow).1
            simp at this; omega
          rw [h2] at hrow
          obtain rfl : R = row := by simpa using hrow
          rw [show n' = k by omega]
          exact hRow
  · intro s F1 hF1 hP
    obtain ⟨hb, hR, hEl, hE⟩ := hP
    have hblen := hb.len
    have hvl := hR.len.1
    rw [show s.m = g.nons by omega] at hb ⊢
    refine AW.seq ?_; refine AW.reg ?_; (iterate 2 refine ze hT zr zr zr zr zr ?_); refine WT.nil ?_
    refine AW.le (own2 := (s.B ++ s.bs) :: own) (OwnLe.trans (OwnLe.flat (by simp)) (OwnLe.cons _ (OwnLe.cons _ (OwnLe.skip _ (OwnLe.refl _))))) ?_
    exact AW.ret ⟨_, [_], ⟨_, _, rfl, rfl, rfl⟩, (by repeat (first | exact List.Sublist.refl _ | refine List.Sublist.cons _ ?_)), _, rfl, _, _, _, _, _, _, rfl, rfl, hb, hR, endsOf_rows hg hEl hE⟩
end Go.Proofs.D

set_option linter.unusedVariables false
set_option maxRecDepth 20000
set_option maxHeartbeats 0
open Go Go.Abs Go.Proofs Go.Proofs.D
namespace Go.Proofs.D

/-! ### forest.Same, where both are the same -/
theorem packEqF_spec (F : Frz) {a b : Option Addr} {m c d : Nat} {xs : List NPack} (hx : Arr tNPack F a m c xs) (hy : Arr tNPack F b m d xs) (hm : m ≤ 1000000)
    (hcmp : ∀ G lx ly (x : NPack), x ∈ xs → tNPack.rel G lx x → tNPack.rel G ly x → Abs.Spec CC 61 [.agg ⟨lx⟩, .agg ⟨ly⟩] G [] fun _ v o => o = [] ∧ v = .bool true) :
    Abs.Spec CC 60 [.slice a m c, .slice b m d, .func (.func 61) ⟨[]⟩ ⟨[]⟩] F [] fun _ v o => o = [] ∧ v = .bool true := by
  refine Abs.Spec.fn (n := 32) Tryd.func60 rfl rfl fun own => ?_
  have hxlen := hx.len
  refine AW.seq ?_; refine AW.reg ?_; refine ze hT zr zr zr zr zr ?_; refine WT.nil ?_; (iterate 2 refine AW.seq ?_); refine AW.reg ?_; (iterate 5 refine ze hT zr zr zr zr zr ?_); refine WT.nil ?_
  refine AW.cond rfl (fun h => (by exfalso; simp at h)) (fun _ => ?_)
  refine AW.skip ?_; (iterate 2 refine AW.seq ?_); refine AW.reg ?_; (iterate 3 refine ze hT zr zr zr zr zr ?_); refine WT.nil ?_
  refine AW.range (S := Unit) (fun _ => []) (fun _ => own) (fun j _ G => True) m () zr zr zr zr zr zr zr zr zr (by omega) rfl rfl (fun _ => rfl) (fun _ => rfl) (SubK.of_map rfl) (OwnLe.refl _) trivial ?_ ?_
  · intro j _ F1 hF1 hj hP
    have hx1 := hx.mono hF1
    have hy1 := hy.mono hF1
    refine AW.seq ?_; refine AW.reg ?_; refine ze hT zr zr zr zr zr ?_
    refine WT.idxL hT hx1 zr zr zr zr zr zr zr zr zr (by omega) (fun x hxj b1 off ro cs lx hb hp1 hrel => ?_)
    have hrelx := hrel
    obtain ⟨xa, xn, xc, rfl, _⟩ := hrel
    refine zi (fo := 0) hT (by assumption) (by assumption) zr zr zr zr zr zr ?_
    refine WT.allocT hT zr zr zr zr zr zr (fun i8 hi8 => ?_)
    refine ze hT zr zr zr zr zr ?_; refine zs hT 0 0 zr zr zr zr zr zr zr zr zr zr zr zr ?_; refine WT.nil ?_; refine AW.seq ?_; refine AW.reg ?_; (iterate 2 refine ze hT zr zr zr zr zr ?_)
    refine WT.idxL hT hy1 zr zr zr zr zr zr zr zr zr (by omega) (fun y hyj b2 off2 ro2 cs2 ly hb2 hp2 hrel => ?_)
    obtain rfl : y = x := by rw [hxj] at hyj; exact (Option.some.inj hyj).symm
    have hrely := hrel
    obtain ⟨ya, yn, yc, rfl, _⟩ := hrel
    refine zi (fo := 0) hT (by assumption) (by assumption) zr zr zr zr zr zr ?_
    refine WT.allocT hT zr zr zr zr zr zr (fun i9 hi9 => ?_)
    refine zs hT 0 0 zr zr zr zr zr zr zr zr zr zr zr zr ?_; refine WT.nil ?_; refine AW.seq ?_; refine AW.reg ?_; refine ze hT zr zr zr zr zr ?_; refine zl hT 1 zr zr zr zr zr zr me zr ?_; refine zl hT 0 zr zr zr zr zr zr me zr ?_
    refine WT.callC Tryd.func61 zr zr zr zr zr zr zr zr (hcmp _ _ _ y (List.mem_of_getElem? hxj) hrelx hrely) (fun v hv => ?_)
    subst hv
    refine ze hT zr zr zr zr zr ?_; refine WT.nil ?_
    refine AW.cond rfl (fun h => (by cases h)) (fun _ => ?_)
    refine AW.skip ?_
    exact ⟨(), SubK.of_map rfl, OwnLe.skip _ (OwnLe.skip _ (OwnLe.refl _)), trivial⟩
  · intro _ F1 hF1 hP
    refine AW.seq ?_; refine AW.reg ?_; refine ze hT zr zr zr zr zr ?_; refine WT.nil ?_
    exact AW.ret ⟨_, [], ⟨_, _, rfl, rfl, rfl⟩, (by repeat (first | exact List.Sublist.refl _ | refine List.Sublist.cons _ ?_)), rfl, rfl⟩

theorem nodeEqF_spec (F : Frz) {a b : Option Addr} {m c d : Nat} {xs : List Node} (hx : Arr tNode F a m c xs) (hy : Arr tNode F b m d xs) (hm : m ≤ 1000000)
    (hcmp : ∀ G lx ly (x : Node), x ∈ xs → tNode.rel G lx x → tNode.rel G ly x → Abs.Spec CC 59 [.agg ⟨lx⟩, .agg ⟨ly⟩] G [] fun _ v o => o = [] ∧ v = .bool true) :
    Abs.Spec CC 58 [.slice a m c, .slice b m d, .func (.func 59) ⟨[]⟩ ⟨[]⟩] F [] fun _ v o => o = [] ∧ v = .bool true := by
  refine Abs.Spec.fn (n := 32) Tryd.func58 rfl rfl fun own => ?_
  have hxlen := hx.len
  refine AW.seq ?_; refine AW.reg ?_; refine ze hT zr zr zr zr zr ?_; refine WT.nil ?_; (iterate 2 refine AW.seq ?_); refine AW.reg ?_; (iterate 5 refine ze hT zr zr zr zr zr ?_); refine WT.nil ?_
  refine AW.cond rfl (fun h => (by exfalso; simp at h)) (fun _ => ?_)
  refine AW.skip ?_; (iterate 2 refine AW.seq ?_); refine AW.reg ?_; (iterate 3 refine ze hT zr zr zr zr zr ?_); refine WT.nil ?_
  refine AW.range (S := Unit) (fun _ => []) (fun _ => own) (fun j _ G => True) m () zr zr zr zr zr zr zr zr zr (by omega) rfl rfl (fun _ => rfl) (fun _ => rfl) (SubK.of_map rfl) (OwnLe.refl _) trivial ?_ ?_
  · intro j _ F1 hF1 hj hP
    have hx1 := hx.mono hF1
    have hy1 := hy.mono hF1
    refine AW.seq ?_; refine AW.reg ?_; refine ze hT zr zr zr zr zr ?_
    refine WT.idxL hT hx1 zr zr zr zr zr zr zr zr zr (by omega) (fun x hxj b1 off ro cs lx hb hp1 hrel => ?_)
    have hrelx := hrel
    obtain ⟨xa, xn, xc, rfl, _⟩ := hrel
    refine zi (fo := 0) hT (by assumption) (by assumption) zr zr zr zr zr zr ?_
    refine WT.allocT hT zr zr zr zr zr zr (fun i8 hi8 => ?_)
    refine ze hT zr zr zr zr zr ?_; refine zs hT 0 0 zr zr zr zr zr zr zr zr zr zr zr zr ?_; refine WT.nil ?_; refine AW.seq ?_; refine AW.reg ?_; (iterate 2 refine ze hT zr zr zr zr zr ?_)
    refine WT.idxL hT hy1 zr zr zr zr zr zr zr zr zr (by omega) (fun y hyj b2 off2 ro2 cs2 ly hb2 hp2 hrel => ?_)
    obtain rfl : y = x := by rw [hxj] at hyj; exact (Option.some.inj hyj).symm
    have hrely := hrel
    obtain ⟨ya, yn, yc, rfl, _⟩ := hrel
    refine zi (fo := 0) hT (by assumption) (by assumption) zr zr zr zr zr zr ?_
    refine WT.allocT hT zr zr zr zr zr zr (fun i9 hi9 => ?_)
    refine zs hT 0 0 zr zr zr zr zr zr zr zr zr zr zr zr ?_; refine WT.nil ?_; refine AW.seq ?_; refine AW.reg ?_; refine ze hT zr zr zr zr zr ?_; refine zl hT 1 zr zr zr zr zr zr me zr ?_; refine zl hT 0 zr zr zr zr zr zr me zr ?_
    refine WT.callC Tryd.func59 zr zr zr zr zr zr zr zr (hcmp _ _ _ y (List.mem_of_getElem? hxj) hrelx hrely) (fun v hv => ?_)
    subst hv
    refine ze hT zr zr zr zr zr ?_; refine WT.nil ?_
    refine AW.cond rfl (fun h => (by cases h)) (fun _ => ?_)
    refine AW.skip ?_
    exact ⟨(), SubK.of_map rfl, OwnLe.skip _ (OwnLe.skip _ (OwnLe.refl _)), trivial⟩
  · intro _ F1 hF1 hP
    refine AW.seq ?_; refine AW.reg ?_; refine ze hT zr zr zr zr zr ?_; refine WT.nil ?_
    exact AW.ret ⟨_, [], ⟨_, _, rfl, rfl, rfl⟩, (by repeat (first | exact List.Sublist.refl _ | refine List.Sublist.cons _ ?_)), rfl, rfl⟩


theorem samePack_spec (F : Frz) {lx ly : List Value} (x : NPack) (hx : tNPack.rel F lx x) (hy : tNPack.rel F ly x) : Abs.Spec CC 61 [.agg ⟨lx⟩, .agg ⟨ly⟩] F [] fun _ v o => o = [] ∧ v = .bool true := by
  obtain ⟨xa, xn, xc, rfl, hxa, hxb⟩ := hx
  obtain ⟨ya, yn, yc, rfl, hya, hyb⟩ := hy
  have hxl := hxa.len
  have hyl := hya.len
  refine Abs.Spec.fn (n := 17) Tryd.func61 rfl rfl fun own => ?_
  refine AW.seq (AW.reg ?_)
  refine WT.boxT zr zr zr zr zr zr (fun i2 hi2 => ?_)
  refine WT.boxT zr zr zr zr zr zr (fun i3 hi3 => ?_)
  refine ze hT zr zr zr zr zr ?_; refine WT.nil ?_; refine AW.seq ?_; refine AW.reg ?_; refine ze hT zr zr zr zr zr ?_; refine zl hT 1 zr zr zr zr zr zr me zr ?_; refine ze hT zr zr zr zr zr ?_; refine zl hT 0 zr zr zr zr zr zr me zr ?_; (iterate 2 refine ze hT zr zr zr zr zr ?_)
  refine WT.know (v' := .bool true) 10 rfl (by congr 1; simp) ?_
  refine ze hT zr zr zr zr zr ?_; refine zl hT 1 zr zr zr zr zr zr me zr ?_; refine ze hT zr zr zr zr zr ?_; refine zl hT 0 zr zr zr zr zr zr me zr ?_
  refine WT.callV Tryd.func42 zr zr zr zr zr zr (equal_spec _ hxa hya (by omega)) (fun v hv => ?_)
  subst hv
  rw [decide_eq_true rfl]
  (iterate 2 refine ze hT zr zr zr zr zr ?_); refine WT.nil ?_
  exact AW.ret ⟨_, [], ⟨_, _, rfl, rfl, rfl⟩, (by repeat (first | exact List.Sublist.refl _ | refine List.Sublist.cons _ ?_)), rfl, rfl⟩

theorem sameNode_spec (F : Frz) {lx ly : List Value} (x : Node) (hf : x.packs.length ≤ 1000000) (hx : tNode.rel F lx x) (hy : tNode.rel F ly x) : Abs.Spec CC 59 [.agg ⟨lx⟩, .agg ⟨ly⟩] F [] fun _ v o => o = [] ∧ v = .bool true := by
  obtain ⟨xa, xn, xc, rfl, hxa⟩ := hx
  obtain ⟨ya, yn, yc, rfl, hya⟩ := hy
  obtain rfl : yn = xn := by rw [hxa.len, hya.len]
  have hxl := hxa.len
  refine Abs.Spec.fn (n := 31) Tryd.func59 rfl rfl fun own => ?_
  refine AW.seq (AW.reg ?_)
  refine WT.boxT zr zr zr zr zr zr (fun i2 hi2 => ?_)
  refine WT.boxT zr zr zr zr zr zr (fun i3 hi3 => ?_)
  refine ze hT zr zr zr zr zr ?_; refine WT.nil ?_; refine AW.seq ?_; refine AW.reg ?_; refine ze hT zr zr zr zr zr ?_; refine zl hT 1 zr zr zr zr zr zr me zr ?_; refine ze hT zr zr zr zr zr ?_; refine zl hT 0 zr zr zr zr zr zr me zr ?_; refine zq hT zr zr zr zr zr zr zr ?_; refine ze hT zr zr zr zr zr ?_
  refine WT.know (v' := .bool true) 10 rfl (by congr 1; simp) ?_
  refine ze hT zr zr zr zr zr ?_; refine zl hT 1 zr zr zr zr zr zr me zr ?_; refine ze hT zr zr zr zr zr ?_; refine zl hT 0 zr zr zr zr zr zr me zr ?_; (iterate 3 refine ze hT zr zr zr zr zr ?_)
  refine WT.know (v' := .bool true) 17 rfl (by congr 1; simp) ?_
  refine ze hT zr zr zr zr zr ?_; refine zl hT 1 zr zr zr zr zr zr me zr ?_; refine ze hT zr zr zr zr zr ?_; refine zl hT 0 zr zr zr zr zr zr me zr ?_; (iterate 3 refine ze hT zr zr zr zr zr ?_)
  refine WT.know (v' := .bool true) 24 rfl (by congr 1; simp) ?_
  refine ze hT zr zr zr zr zr ?_; refine zl hT 1 zr zr zr zr zr zr me zr ?_; refine ze hT zr zr zr zr zr ?_; refine zl hT 0 zr zr zr zr zr zr me zr ?_
  refine WT.callV Tryd.func60 zr zr zr zr zr zr (packEqF_spec _ hxa hya (by omega) (fun G lx ly x _ h1 h2 => samePack_spec G x h1 h2)) (fun v hv => ?_)
  subst hv
  (iterate 2 refine ze hT zr zr zr zr zr ?_); refine WT.nil ?_
  exact AW.ret ⟨_, [], ⟨_, _, rfl, rfl, rfl⟩, (by repeat (first | exact List.Sublist.refl _ | refine List.Sublist.cons _ ?_)), rfl, rfl⟩

theorem same_spec (F : Frz) {a b : Option Addr} {m c d : Nat} {r : Int} {Ns : List Node} (hf : ∀ x ∈ Ns, x.packs.length ≤ 1000000) (hm : m ≤ 1000000) (hx : Arr tNode F a m c Ns) (hy : Arr tNode F b m d Ns) :
    Abs.Spec CC 27 [.agg ⟨[.slice a m c, .int .i64 r]⟩, .agg ⟨[.slice b m d, .int .i64 r]⟩] F [] fun _ v o => o = [] ∧ v = .bool true := by
  refine Abs.Spec.fn (n := 17) Tryd.func27 rfl rfl fun own => ?_
  refine AW.seq (AW.reg ?_)
  refine WT.boxT zr zr zr zr zr zr (fun i2 hi2 => ?_)
  refine WT.boxT zr zr zr zr zr zr (fun i3 hi3 => ?_)
  refine ze hT zr zr zr zr zr ?_; refine WT.nil ?_; refine AW.seq ?_; refine AW.reg ?_; refine ze hT zr zr zr zr zr ?_; refine zl hT 1 zr zr zr zr zr zr me zr ?_; refine ze hT zr zr zr zr zr ?_; refine zl hT 0 zr zr zr zr zr zr me zr ?_; (iterate 2 refine ze hT zr zr zr zr zr ?_)
  refine WT.know (v' := .bool true) 10 rfl (by congr 1; simp) ?_
  refine ze hT zr zr zr zr zr ?_; refine zl hT 1 zr zr zr zr zr zr me zr ?_; refine ze hT zr zr zr zr zr ?_; refine zl hT 0 zr zr zr zr zr zr me zr ?_
  refine WT.callV Tryd.func58 zr zr zr zr zr zr (nodeEqF_spec _ hx hy hm (fun G lx ly x hx2 h1 h2 => sameNode_spec G x (hf x hx2) h1 h2)) (fun v hv => ?_)
  subst hv
  (iterate 2 refine ze hT zr zr zr zr zr ?_); refine WT.nil ?_
  exact AW.ret ⟨_, [], ⟨_, _, rfl, rfl, rfl⟩, (by repeat (first | exact List.Sublist.refl _ | refine List.Sublist.cons _ ?_)), rfl, rfl⟩
end Go.Proofs.D

set_option linter.unusedVariables false
set_option maxRecDepth 20000
set_option maxHeartbeats 0
open Go Go.Abs Go.Proofs Go.Proofs.D
namespace Go.Proofs.D

/-- No end lies before its beginning. -/
def LowOk (E : List (List Nat)) : Prop := ∀ row ∈ E, ∀ (p x : Nat), row[p]? = some x → ∀ q, x.testBit q = true → p ≤ q

theorem EndsOf.low {g : Gram} {w : List Nat} {E : List (List Nat)} (h : EndsOf g w E) : LowOk E := by
  intro row hrow p x hx q hq
  obtain ⟨n, hn, rfl⟩ := List.getElem_of_mem hrow
  have hp := (List.getElem?_eq_some_iff.1 hx).1
  have := h.ok.row _ hrow
  exact der_le ((h.iff n p q (by omega)).1 ⟨_, x, List.getElem?_eq_getElem hn, hx, hq⟩)

theorem low_and {x p : Nat} (h : ∀ q, x.testBit q = true → p ≤ q) : x &&& (2 ^ p - 1) = 0 := by
  apply Nat.eq_of_testBit_eq
  intro q
  rw [Nat.testBit_and, Nat.testBit_two_pow_sub_one, Nat.zero_testBit]
  cases hb : x.testBit q with
  | false => rfl
  | true =>
    have := h q hb
    have : ¬ q < p := by omega
    simp [this]

theorem sub32 {x y : Nat} (hx : x < 4294967296) (hy : y ≤ x) : intBinA .sub .u32 (x : Int) (y : Int) = some (.int .u32 ((x - y : Nat) : Int)) := by
  show some (Value.int .u32 (IntKind.u32.wrap ((x : Int) - y))) = _
  rw [wrapU32 (by omega)]
  congr 2
  omega

theorem fbuild_spec (F : Frz) (hL : Laid F) (g : Gram) (hg : Valid g) {ga : Option Addr} {gm gc : Nat} (hr : Arr tRule F ga gm gc g.rules) {b : Option Addr} {n d : Nat} {w : List Nat} (hw : Arr tNat F b n d w) (hw12 : w.length ≤ 12) (hw2 : ∀ t ∈ w, t < g.terms)
    {a : Option Addr} {m c : Nat} {E : List (List Nat)} (hE : Arr (tList tU32) F a m c E) (hE2 : EndsOk g.nons w.length E) (hlow : LowOk E) :
    Abs.Spec CC 25 [.agg ⟨gramCells g ga gm gc⟩, .slice b n d, .slice a m c] F [] fun F' v o => o = [] ∧ MakeRes g w E F' v := by
  unfold gramCells
  have hwl := hw.len
  subst hwl
  have hEl := hE.len
  have hEs := hE2.size
  have pwl : 2 ^ (w.length + 1) ≤ 8192 := Nat.pow_le_pow_right (j := 13) (by decide) (by omega)
  have hgn := hg.range.nons
  refine Abs.Spec.fn (n := 73) Tryd.func25 rfl rfl fun own => ?_
  refine AW.seq (AW.reg ?_)
  refine WT.boxT zr zr zr zr zr zr (fun i3 hi3 => ?_)
  refine WT.allocT hT zr zr zr zr zr zr (fun i6 hi6 => ?_)
  refine ze hT zr zr zr zr zr ?_; refine WT.nil ?_; (iterate 2 refine AW.seq ?_); refine AW.reg ?_; refine zl hT 1 zr zr zr zr zr zr me zr ?_; refine ze hT zr zr zr zr zr ?_
  refine WT.callV Tryd.func47 zr zr zr zr zr zr (accepts_spec _ hL g hg hr hw hw12 hw2) (fun v hv => ?_)
  subst hv
  (iterate 5 refine ze hT zr zr zr zr zr ?_); refine WT.nil ?_; refine AW.seq ?_; refine AW.reg ?_; (iterate 2 refine ze hT zr zr zr zr zr ?_); refine WT.nil ?_
  refine AW.cond rfl (fun h => (by cases h)) (fun h => ?_)
  refine AW.skip ?_; (iterate 2 refine AW.seq ?_); refine AW.reg ?_; (iterate 3 refine ze hT zr zr zr zr zr ?_); refine zl hT 1 zr zr zr zr zr zr me zr ?_; refine ze hT zr zr zr zr zr ?_; refine WT.nil ?_
  refine AW.cond rfl (fun h => (by exfalso; simp at h; omega)) (fun h => ?_)
  refine AW.skip ?_; (iterate 2 refine AW.seq ?_); refine AW.reg ?_; (iterate 3 refine ze hT zr zr zr zr zr ?_); refine WT.nil ?_
  refine AW.range (S := Unit) (fun _ => []) (fun _ => _) (fun j _ G => True) m () zr zr zr zr zr zr zr zr zr (by omega) rfl rfl (fun _ => rfl) (fun _ => rfl) (SubK.of_map rfl) (OwnLe.refl _) trivial ?_ ?_
  · intro j _ F1 hF1 hj _
    have hE1 := hE.mono hF1
    refine AW.seq ?_; refine AW.reg ?_
    refine WT.idxL hT hE1 zr zr zr zr zr zr zr zr zr (by omega) (fun row hrow b1 off ro cs lx hb1 hp1 hrel => ?_)
    obtain ⟨a2, n2, c2, rfl, hrow2⟩ := hrel
    have hrl := hE2.row row (List.mem_of_getElem? hrow)
    have hr2l := hrow2.len
    refine zi (fo := 0) hT (by assumption) (by assumption) zr zr zr zr zr zr ?_; refine ze hT zr zr zr zr zr ?_; refine WT.nil ?_; (iterate 2 refine AW.seq ?_); refine AW.reg ?_; (iterate 4 refine ze hT zr zr zr zr zr ?_); refine WT.add1 zr zr zr zr zr zr (by omega) ?_; refine ze hT zr zr zr zr zr ?_; refine WT.nil ?_
    refine AW.cond rfl (fun h => (by exfalso; simp at h; omega)) (fun h => ?_)
    refine AW.skip ?_; refine AW.seq ?_; refine AW.reg ?_; (iterate 3 refine ze hT zr zr zr zr zr ?_); refine WT.nil ?_
    refine AW.range (S := Unit) (fun _ => []) (fun _ => _) (fun p _ G => True) n2 () zr zr zr zr zr zr zr zr zr (by omega) rfl rfl (fun _ => rfl) (fun _ => rfl) (SubK.of_map rfl) (OwnLe.refl _) trivial ?_ ?_
    · intro p _ F2 hF2 hp _
      have hrow3 := hrow2.mono hF2
      refine AW.seq ?_; refine AW.reg ?_; refine ze hT zr zr zr zr zr ?_
      refine WT.idxL hT hrow3 zr zr zr zr zr zr zr zr zr (by omega) (fun x hx b3 off3 ro3 cs3 lx3 hb3 hp3 hrel3 => ?_)
      obtain rfl : lx3 = _ := hrel3
      have hxb := hE2.bit row (List.mem_of_getElem? hrow) x (List.mem_of_getElem? hx)
      have hxl := hlow row (List.mem_of_getElem? hrow) p x hx
      have pp : 2 ^ p ≤ 4096 := Nat.pow_le_pow_right (j := 12) (by decide) (by omega)
      have pp0 : 0 < 2 ^ p := Nat.two_pow_pos p
      refine zi (fo := 0) hT (by assumption) (by assumption) zr zr zr zr zr zr ?_; (iterate 2 refine ze hT zr zr zr zr zr ?_); refine WT.nil ?_; refine AW.seq ?_; refine AW.reg ?_; (iterate 2 refine ze hT zr zr zr zr zr ?_)
      refine WT.shl32 (x := 1) (y := p) zr zr zr zr zr zr (by omega) (by omega) ?_
      refine WT.binV zr zr zr zr zr zr (by decide) (sub32 (x := 1 * 2 ^ p) (y := 1) (by omega) (by omega)) ?_
      refine WT.and32 (x := x) (y := 1 * 2 ^ p - 1) zr zr zr zr zr zr (by omega) (by omega) ?_
      refine WT.know (v' := .int .u32 ((0 : Nat) : Int)) 54 rfl (by rw [Nat.one_mul, low_and hxl]) ?_
      refine WT.binV zr zr zr zr zr zr (by decide) (v := .bool false) rfl ?_
      (iterate 4 refine ze hT zr zr zr zr zr ?_); refine WT.add1 zr zr zr zr zr zr (by omega) ?_
      refine WT.shr32 (x := x) (y := w.length + 1) zr zr zr zr zr zr (by omega) ?_
      refine WT.know (v' := .int .u32 ((0 : Nat) : Int)) 61 rfl (by rw [Nat.div_eq_of_lt hxb]) ?_
      refine WT.binV zr zr zr zr zr zr (by decide) (v := .bool false) rfl ?_
      refine ze hT zr zr zr zr zr ?_; refine WT.nil ?_
      refine AW.cond rfl (fun h => (by cases h)) (fun h => ?_)
      refine AW.skip ?_
      exact ⟨(), SubK.of_map rfl, OwnLe.refl _, trivial⟩
    · intro _ F2 hF2 _
      skip
      exact ⟨(), SubK.of_map rfl, OwnLe.refl _, trivial⟩
  · intro _ F1 hF1 _
    have hL1 := hL.mono hF1
    refine AW.seq ?_; refine AW.reg ?_; refine zl hT 1 zr zr zr zr zr zr me zr ?_; (iterate 2 refine ze hT zr zr zr zr zr ?_)
    refine WT.callF0 Tryd.func48 zr zr zr zr zr zr (make_spec _ hL1 g hg (hr.mono hF1) (hw.mono hF1) hw12 (hE.mono hF1) hE2) (fun F2 v hF2 hv => ?_)
    rcases hv with ⟨s, xa, xn, xc, xr, rfl, rfl, hx, hx2⟩ | ⟨rfl, hx, hx2⟩
    · (iterate 2 refine ze hT zr zr zr zr zr ?_); refine zs hT 0 0 zr zr zr zr zr zr zr zr zr zr zr zr ?_; refine ze hT zr zr zr zr zr ?_; refine WT.nil ?_
      exact AW.ret ⟨_, [], ⟨_, _, ⟨_, rfl, fun G h0 s0 => loadA_cells (s0.has (p := 0) rfl (List.mem_cons_self ..)) (readT_ok hT rfl)⟩, ⟨_, _, rfl, rfl, rfl⟩, rfl⟩, (by repeat (first | exact List.Sublist.refl _ | refine List.Sublist.cons _ ?_)), rfl, .inl ⟨_, _, _, _, _, rfl, rfl, hx, hx2⟩⟩
    · (iterate 2 refine ze hT zr zr zr zr zr ?_); refine zs hT 0 0 zr zr zr zr zr zr zr zr zr zr zr zr ?_; refine ze hT zr zr zr zr zr ?_; refine WT.nil ?_
      exact AW.ret ⟨_, [], ⟨_, _, ⟨_, rfl, fun G h0 s0 => loadA_cells (s0.has (p := 0) rfl (List.mem_cons_self ..)) (readT_ok hT rfl)⟩, ⟨_, _, rfl, rfl, rfl⟩, rfl⟩, (by repeat (first | exact List.Sublist.refl _ | refine List.Sublist.cons _ ?_)), rfl, .inr ⟨rfl, hx, hx2⟩⟩
end Go.Proofs.D

set_option linter.unusedVariables false
set_option maxRecDepth 20000
set_option maxHeartbeats 0
open Go Go.Abs Go.Proofs Go.Proofs.D
namespace Go.Proofs.D

theorem endsOf_uniq {g : Gram} {w : List Nat} {E E' : List (List Nat)} (h : EndsOf g w E) (h' : EndsOf g w E') : E = E' := by
  refine List.ext_getElem (by rw [h.ok.size, h'.ok.size]) fun n h1 h2 => ?_
  have l1 := h.ok.row _ (List.getElem_mem h1)
  have l2 := h'.ok.row _ (List.getElem_mem h2)
  refine List.ext_getElem (by rw [l1, l2]) fun i h3 h4 => ?_
  refine Nat.eq_of_testBit_eq fun q => ?_
  rw [Bool.eq_iff_iff]
  have e1 : (E[n][i]).testBit q = true ↔ Der g w ⟨false, n⟩ i q := by
    rw [← h.iff n i q (by omega)]
    constructor
    · intro hb; exact ⟨_, _, List.getElem?_eq_getElem h1, List.getElem?_eq_getElem h3, hb⟩
    · rintro ⟨row, x, r1, r2, r3⟩
      rw [List.getElem?_eq_getElem h1] at r1; cases r1
      rw [List.getElem?_eq_getElem h3] at r2; cases r2
      exact r3
  have e2 : (E'[n][i]).testBit q = true ↔ Der g w ⟨false, n⟩ i q := by
    rw [← h'.iff n i q (by omega)]
    constructor
    · intro hb; exact ⟨_, _, List.getElem?_eq_getElem h2, List.getElem?_eq_getElem h4, hb⟩
    · rintro ⟨row, x, r1, r2, r3⟩
      rw [List.getElem?_eq_getElem h2] at r1; cases r1
      rw [List.getElem?_eq_getElem h4] at r2; cases r2
      exact r3
  rw [e1, e2]

theorem sum_sub {α : Type} [DecidableEq α] (f : α → Nat) : ∀ (L S : List α), L.Nodup → (∀ x ∈ L, x ∈ S) → (L.map f).sum ≤ (S.map f).sum
  | [], S, _, _ => Nat.zero_le _
  | x :: L, S, hn, hs => by
    obtain ⟨h1, h2⟩ := List.nodup_cons.1 hn
    have hp := List.perm_cons_erase (hs x (List.mem_cons_self ..))
    have := (hp.map f).sum_nat
    rw [this, List.map_cons, List.map_cons, List.sum_cons, List.sum_cons]
    refine Nat.add_le_add_left (sum_sub f L (S.erase x) h2 fun y hy => ?_) _
    rw [List.mem_erase_of_ne (by rintro rfl; exact h1 hy)]
    exact hs y (List.mem_cons_of_mem _ hy)

theorem makeRes_form {g : Gram} {w : List Nat} {E : List (List Nat)} {F : Frz} {v : Value} (h : MakeRes g w E F v) : ∃ a n c r e, v = .tuple ⟨[.agg ⟨[.slice a n c, .int .i64 r]⟩, .int .i64 e]⟩ := by
  rcases h with ⟨s, a, n, c, r, rfl, rfl, _⟩ | ⟨rfl, _⟩
  · exact ⟨_, _, _, _, _, rfl⟩
  · exact ⟨_, _, _, _, _, rfl⟩

theorem makeRes_cases {g : Gram} {w : List Nat} {E : List (List Nat)} {F : Frz} {a : Option Addr} {n c : Nat} {r e : Int} (h : MakeRes g w E F (.tuple ⟨[.agg ⟨[.slice a n c, .int .i64 r]⟩, .int .i64 e]⟩)) :
    (e = 0 ∧ ((stepB w E ⟨false, g.start⟩ 0 w.length = false ∧ a = none ∧ n = 0 ∧ c = 0 ∧ r = -1) ∨
      (stepB w E ⟨false, g.start⟩ 0 w.length = true ∧ ∃ S, r = (place S (rootKey g w) : Nat) ∧ Keys g w E (rootKey g w) S ∧ Arr tNode F a n c (S.map (mkNode g w E S)) ∧ packSum g w E S ≤ 20000))) ∨
    (e = 2 ∧ a = none ∧ n = 0 ∧ c = 0 ∧ r = 0 ∧ stepB w E ⟨false, g.start⟩ 0 w.length = true ∧ ∃ L : List Key, L.Nodup ∧ (∀ k ∈ L, Reachable g w E (rootKey g w) k) ∧ 20000 < packSum g w E L) := by
  rcases h with ⟨s, a', n', c', r', hs, he, hx, hx2⟩ | ⟨he, hx, hx2⟩
  · subst hs
    cases he
    refine .inl ⟨rfl, ?_⟩
    rcases hx with ⟨h1, h2⟩ | ⟨h1, S, a2, n2, c2, h2, hK, hA⟩
    · cases h2
      exact .inl ⟨h1, rfl, rfl, rfl, rfl⟩
    · cases h2
      exact .inr ⟨h1, S, rfl, hK, hA, hx2 S hK h1⟩
  · cases he
    exact .inr ⟨rfl, rfl, rfl, rfl, rfl, hx, hx2⟩

theorem makeRes_pair {g : Gram} (hg : Valid g) {w : List Nat} (hw12 : w.length ≤ 12) {E : List (List Nat)} {F F' : Frz} {a a' : Option Addr} {n n' c c' : Nat} {r r' e e' : Int} (h : MakeRes g w E F (.tuple ⟨[.agg ⟨[.slice a n c, .int .i64 r]⟩, .int .i64 e]⟩)) (h' : MakeRes g w E F' (.tuple ⟨[.agg ⟨[.slice a' n' c', .int .i64 r']⟩, .int .i64 e']⟩)) :
    n' = n ∧ r' = r ∧ e' = e ∧ n ≤ 1000000 ∧ ∃ Ns, (∀ x ∈ Ns, x.packs.length ≤ 1000000) ∧ Arr tNode F a n c Ns ∧ Arr tNode F' a' n c' Ns := by
  have big : ∀ {S L : List Key}, Keys g w E (rootKey g w) S → packSum g w E S ≤ 20000 → L.Nodup → (∀ k ∈ L, Reachable g w E (rootKey g w) k) → 20000 < packSum g w E L → False := fun {S L} hK h1 h2 h3 h4 => by
    have : packSum g w E L ≤ packSum g w E S := sum_sub _ L S h2 fun x hx => hK.all (h3 x hx)
    omega
  rcases makeRes_cases h with ⟨he, h1⟩ | ⟨he, ha, hn, hc, hr, hst, L, hL1, hL2, hL3⟩
  · rcases makeRes_cases h' with ⟨he', h1'⟩ | ⟨he', ha', hn', hc', hr', hst', L, hL1, hL2, hL3⟩
    · rcases h1 with ⟨h2, ha, hn, hc, hr⟩ | ⟨h2, S, hr, hK, hA, hS⟩
      · rcases h1' with ⟨h2', ha', hn', hc', hr'⟩ | ⟨h2', _⟩
        · subst ha hn hc hr ha' hn' hc' hr'
          exact ⟨rfl, rfl, by rw [he, he'], by omega, [], fun x hx => (by cases hx), Arr.nil_ _ _, Arr.nil_ _ _⟩
        · rw [h2] at h2'; cases h2'
      · rcases h1' with ⟨h2', _⟩ | ⟨h2', S', hr', hK', hA', hS'⟩
        · rw [h2] at h2'; cases h2'
        · obtain rfl := keys_uniq hK hK'
          have hnn : n' = n := by rw [hA.len, hA'.len]
          subst hnn
          have hok := nodes_ok hg hw12 hK (root_good hg w)
          exact ⟨rfl, by rw [hr, hr'], by rw [he, he'], by have := hok.few; rw [← hA.len] at this; exact this, _, hok.packs, hA, hA'⟩
    · exfalso
      rcases h1 with ⟨h2, _⟩ | ⟨h2, S, hr, hK, hA, hS⟩
      · rw [hst'] at h2; cases h2
      · exact big hK hS hL1 hL2 hL3
  · rcases makeRes_cases h' with ⟨he', h1'⟩ | ⟨he', ha', hn', hc', hr', _⟩
    · exfalso
      rcases h1' with ⟨h2, _⟩ | ⟨h2, S, hr, hK, hA, hS⟩
      · rw [hst] at h2; cases h2
      · exact big hK hS hL1 hL2 hL3
    · subst ha hn hc hr ha' hn' hc' hr'
      exact ⟨rfl, rfl, by rw [he, he'], by omega, [], fun x hx => (by cases hx), Arr.nil_ _ _, Arr.nil_ _ _⟩

theorem rows_arr {F G : Frz} {a : Option Addr} {n c : Nat} {B bs : List (Nat × Blk)} {vs : List Value} {E : List (List Nat)} (hn : n ≠ 0) (hb : Bld tRaw F a n c B vs) (hR : Abs.Rows cU32 vs bs E) (hEl : E.length = n) (hG : ∀ i b, (i, b) ∈ B ++ bs → G i = some b) : Arr (tList tU32) G a n c E := by
  have hblen := hb.len
  obtain ⟨io, cs, hia, hic, hiB, hcells, _⟩ := hb.at_.resolve_left (fun h => by rw [h.1] at hblen; simp at hblen; omega)
  have hcs := cells_raw hcells
  subst hcs
  have hic : c = 1 := hic
  have := Abs.Rows.arr (K := cU32) (R := tU32) rfl (fun _ _ => rfl) (F := G) (o := io) (c := if E.length = 0 then 0 else 1) (ro := false) hR (fun i b hm => hG i b (List.mem_append_right _ hm)) rfl (hG io _ (by rw [hiB]; exact List.mem_append_left _ (List.mem_cons_self ..)))
  rw [hEl, if_neg hn] at this
  rw [hia, hic]
  exact this

theorem forestBuilt_law (F : Frz) (hL : Laid F) {a b : Option Addr} {m n c d : Nat} {l w0 : List Int} (hl : Arr tInt F a m c l) (hw0 : Arr tInt F b n d w0) (hm : n ≤ 9223372036854775807) :
    Abs.Spec CC 5 [.slice a m c, .slice b n d] F [] fun _ v o => o = [] ∧ v = .bool true := by
  refine Abs.Spec.fn (n := 42) Tryd.func5 rfl rfl fun own => ?_
  refine AW.seq ?_; refine AW.reg ?_; refine ze hT zr zr zr zr zr ?_; refine WT.nil ?_; refine AW.seq ?_; refine AW.reg ?_; (iterate 2 refine ze hT zr zr zr zr zr ?_)
  refine WT.callF0 Tryd.func13 zr zr zr zr zr zr (made_spec _ hl hw0 hm 6 (by decide)) (fun F1 v hF1 hv => ?_)
  obtain ⟨g, ga, gm, gc, wa, wn, wc, w, rfl, hg, hr, hw, hw1, hw2⟩ := hv
  have hL1 := hL.mono hF1
  have hwlen := hw.len
  subst hwlen
  have hgn := hg.nons
  have hv := hg.valid
  unfold gramCells
  (iterate 3 refine ze hT zr zr zr zr zr ?_)
  refine WT.allocT hT zr zr zr zr zr zr (fun i5 hi5 => ?_)
  refine zs hT 0 0 zr zr zr zr zr zr zr zr zr zr zr zr ?_; refine ze hT zr zr zr zr zr ?_; refine WT.nil ?_; refine AW.seq ?_; refine AW.reg ?_; refine zl hT 0 zr zr zr zr zr zr me zr ?_; refine ze hT zr zr zr zr zr ?_
  refine WT.callF0 Tryd.func16 zr zr zr zr zr zr (forestOf_spec _ hL1 g hv hr hw (by omega) hw2) (fun F2 v hF2 hv2 => ?_)
  obtain ⟨E, hE, hv2⟩ := hv2
  obtain ⟨fa, fn, fc, fr, fe, rfl⟩ := makeRes_form hv2
  have hL2 := hL1.mono hF2
  have hw3 := hw.mono hF2
  have hr3 := hr.mono hF2
  (iterate 3 refine ze hT zr zr zr zr zr ?_)
  refine WT.allocT hT zr zr zr zr zr zr (fun i6 hi6 => ?_)
  refine zs hT 0 0 zr zr zr zr zr zr zr zr zr zr zr zr ?_; refine ze hT zr zr zr zr zr ?_; refine WT.nil ?_; refine AW.seq ?_
  refine AW.draw (ps := [(0, 4), (0, 9), (2, 9)]) rfl rfl ?_
  refine zl hT 1 zr zr zr zr zr zr me zr ?_; refine ze hT zr zr zr zr zr ?_; refine zl hT 1 zr zr zr zr zr zr me zr ?_; refine ze hT zr zr zr zr zr ?_
  refine WT.callN Tryd.func26 zr zr zr zr zr zr (mparts_spec _ hL2 g hv hr3 hw3 (by omega) hw2) (fun F3 v B3 hF3 hv3 => ?_)
  obtain ⟨B, bs, pa, pc, vs, E2, rfl, rfl, hb, hR, hE2⟩ := hv3
  obtain rfl := endsOf_uniq hE hE2
  refine WT.freezeAll 0 rfl rfl (fun F4 hF4 hB4 => ?_)
  have hEa : Arr (tList tU32) F4 pa g.nons pc E := rows_arr (by omega) hb hR hE.ok.size hB4
  have hF24 := hF3.trans hF4
  refine WT.callF0 Tryd.func25 zr zr zr zr zr zr (fbuild_spec _ (hL2.mono hF24) g hv (hr3.mono hF24) (hw3.mono hF24) (by omega) hw2 hEa hE.ok hE.low) (fun F5 v hF5 hv5 => ?_)
  obtain ⟨ga2, gn2, gc2, gr2, ge2, rfl⟩ := makeRes_form hv5
  obtain ⟨rfl, rfl, rfl, hfew, Ns, hpk, hN1, hN2⟩ := makeRes_pair hv (by omega) hv2 hv5
  (iterate 3 refine ze hT zr zr zr zr zr ?_)
  refine WT.allocT hT zr zr zr zr zr zr (fun i8 hi8 => ?_)
  refine zs hT 0 0 zr zr zr zr zr zr zr zr zr zr zr zr ?_; refine ze hT zr zr zr zr zr ?_; refine WT.nil ?_
  refine ⟨(by repeat (first | exact trivial | refine recs_pair rfl rfl (by first | exact keep0 | exact keep1 (keeps_frz (by assumption)) | exact kp 0 0 me me | exact kp 1 1 me me | exact kp 2 2 me me | exact kp 3 3 me me | exact kp 4 4 me me | exact kp 5 5 me me | exact kp 6 6 me me | exact kp 0 1 me me | exact kp 1 2 me me | exact kp 2 3 me me | exact kp 3 4 me me | exact kp 4 5 me me | exact kp 5 6 me me | exact kp 6 7 me me) ?_)), ?_⟩
  refine AW.seq ?_; refine AW.reg ?_
  refine WT.callV Tryd.func18 zr zr zr zr zr zr (Abs.Spec.fact rfl ((hL2.mono hF24).mono hF5)) (fun v hv => ?_)
  subst hv
  (iterate 6 refine ze hT zr zr zr zr zr ?_)
  refine WT.know (v' := .bool true) 37 rfl (by congr 1; simp) ?_
  refine zl hT 2 zr zr zr zr zr zr me zr ?_; refine zl hT 0 zr zr zr zr zr zr me zr ?_
  refine WT.callV Tryd.func27 zr zr zr zr zr zr (same_spec _ hpk hfew ((hN1.mono hF24).mono hF5) hN2) (fun v hv => ?_)
  subst hv
  (iterate 2 refine ze hT zr zr zr zr zr ?_); refine WT.nil ?_
  exact AW.ret ⟨_, [], ⟨_, _, rfl, rfl, rfl⟩, (by repeat (first | exact List.Sublist.refl _ | refine List.Sublist.cons _ ?_)), rfl, rfl⟩
end Go.Proofs.D

set_option linter.unusedVariables false
set_option maxRecDepth 20000
set_option maxHeartbeats 0
open Go Go.Abs Go.Proofs Go.Proofs.D
namespace Go.Abs
/-- Lent blocks, where the call's result is frozen: it is told in a frame that holds the lent blocks too. -/
theorem Spec.lendBF {C : Ctx} {f : FuncId} {args : List Value} {F : Frz} {P : Frz → Value → Prop} {B : List (Nat × Blk)}
    (spec : ∀ G, Frz.le F G → (∀ i b, (i, b) ∈ B → G i = some b) → Spec C f args G [] fun F' v o => o = [] ∧ P F' v) :
    Spec C f args F [B] fun F2 v o => ∃ B', o = [B'] ∧ B' = B ∧ ∃ F', P F' v ∧ ∀ i b, F' i = some b → F2 i = some b ∨ (i, b) ∈ B := by
  intro own h hs
  have hs : St F (B :: own) h := hs
  obtain ⟨s1, hle, hB⟩ := hs.freezeAll
  obtain ⟨v, h', F', oout, h1, h2, h3, rfl, h4⟩ := spec _ hle hB own h s1
  have s0 : StF F (B ++ own.flatten) h := by simpa [St] using hs
  have hnd := s0.nodup
  rw [List.map_append, List.nodup_append] at hnd
  have h3' : StF F' own.flatten h' := h3
  have hF' : ∀ i b, (i, b) ∈ B → F' i = some b := fun i b hm => h2 i b (hB i b hm)
  refine ⟨v, h', fun i => if (B.map (·.1)).contains i = true then none else F' i, [B], h1, fun i b q => ?_, ?_, B, rfl, rfl, F', h4, fun i b q => ?_⟩
  · have hn : (B.map (·.1)).contains i = false := by
      cases hc : (B.map (·.1)).contains i with
      | false => rfl
      | true =>
        obtain ⟨p, hp, rfl⟩ := List.mem_map.1 (List.contains_iff_mem.1 hc)
        have := s0.apart p (List.mem_append_left _ hp)
        rw [q] at this; cases this
    simp only [hn, Bool.false_eq_true, if_false]
    exact h2 i b (hle i b q)
  · show StF _ (B ++ own.flatten) h'
    refine ⟨fun i b q => ?_, fun p hp => ?_, fun p hp => ?_, ?_, h3'.wf⟩
    · split at q
      · cases q
      · exact h3'.frz i b q
    · rcases List.mem_append.1 hp with hp | hp
      · exact h3'.frz _ _ (hF' p.1 p.2 hp)
      · exact h3'.has p hp
    · rcases List.mem_append.1 hp with hp | hp
      · show (if _ then _ else _) = _
        rw [if_pos (List.contains_iff_mem.2 (List.mem_map_of_mem hp))]
      · show (if _ then _ else _) = _
        split
        · rfl
        · exact h3'.apart p hp
    · rw [List.map_append, List.nodup_append]
      refine ⟨hnd.1, h3'.nodup, fun a ha b hb => ?_⟩
      obtain ⟨p, hp, rfl⟩ := List.mem_map.1 ha
      obtain ⟨q, hq, rfl⟩ := List.mem_map.1 hb
      intro e
      have h5 := h3'.apart q hq
      rw [← e, hF' p.1 p.2 hp] at h5
      cases h5
  · show (if _ then _ else _) = _ ∨ _
    by_cases hc : (B.map (·.1)).contains i = true
    · right
      obtain ⟨p, hp, rfl⟩ := List.mem_map.1 (List.contains_iff_mem.1 hc)
      have := hF' p.1 p.2 hp
      rw [q] at this
      obtain rfl := Option.some.inj this
      exact hp
    · left
      rw [if_neg hc]; exact q
end Go.Abs
namespace Go.Proofs.D

/-- What a table of ends is made of. -/
def BV (v : Value) : Prop := (∃ x : Int, v = .int .u32 x) ∨ ∃ a n c, v = .slice a n c
def BLike (b : Blk) : Prop := ∃ cs, b = .cells false cs ∧ ∀ v ∈ cs, BV v

theorem rows_like {vs : List Value} {bs : List (Nat × Blk)} {E : List (List Nat)} (h : Abs.Rows cU32 vs bs E) : (∀ p ∈ bs, BLike p.2) ∧ ∀ v ∈ vs, BV v := by
  induction h with
  | nil => exact ⟨fun p hp => (by cases hp), fun v hv => (by cases hv)⟩
  | cons hc _ ih =>
    refine ⟨fun p hp => ?_, fun v hv => ?_⟩
    · rcases List.mem_cons.1 hp with rfl | hp
      · refine ⟨_, rfl, fun v hv => ?_⟩
        obtain ⟨x, _, rfl⟩ := List.mem_map.1 hv
        exact .inl ⟨_, rfl⟩
      · exact ih.1 p hp
    · rcases List.mem_cons.1 hv with rfl | hv
      · exact .inr ⟨_, _, _, rfl⟩
      · exact ih.2 v hv

theorem partL_mem {cs l : List Value} {off n : Nat} (h : partL cs off n = some l) : ∀ v ∈ l, v ∈ cs := by
  unfold partL at h
  simp only at h
  cases hb : ((cs.drop off).take n).length == n with
  | false => rw [hb] at h; cases h
  | true =>
    rw [hb] at h
    obtain rfl := Option.some.inj h
    exact fun v hv => List.mem_of_mem_drop (List.mem_of_mem_take hv)

/-- A frame without the blocks of a table. -/
def Less (F' F2 : Frz) : Prop := ∀ i b, F' i = some b → F2 i = some b ∨ BLike b

theorem Arr.less {α : Type} {R : Ty α} {F' F2 : Frz} (hF : Less F' F2) (hR : ∀ l x, R.rel F' l x → R.rel F2 l x ∧ ∃ v ∈ l, ¬ BV v) {a : Option Addr} {n c : Nat} {xs : List α} (h : Arr R F' a n c xs) : Arr R F2 a n c xs :=
  ⟨h.len, h.cap, h.zero, h.nil, h.spot, fun j x hj => by
    obtain ⟨b, off, ro, cs, l, h1, h2, h3, h4⟩ := h.el j x hj
    obtain ⟨h5, v, hv, hn⟩ := hR l x h4
    rcases hF b _ h2 with h6 | ⟨cs', h6, h7⟩
    · exact ⟨b, off, ro, cs, l, h1, h6, h3, h5⟩
    · cases h6
      exact absurd (h7 v (partL_mem h3 v hv)) hn⟩

theorem not_bv_int {x : Int} : ¬ BV (.int .i64 x) := by
  rintro (⟨y, h⟩ | ⟨a, n, c, h⟩)
  · cases h
  · cases h

theorem not_bv_bool {x : Bool} : ¬ BV (.bool x) := by
  rintro (⟨y, h⟩ | ⟨a, n, c, h⟩)
  · cases h
  · cases h

theorem nats_less {F' F2 : Frz} (hF : Less F' F2) {a : Option Addr} {n c : Nat} {xs : List Nat} (h : Arr tNat F' a n c xs) : Arr tNat F2 a n c xs :=
  Arr.less hF (fun l x h => by
    have h0 : l = [.int .i64 x] := h
    exact ⟨h, .int .i64 x, by rw [h0]; exact List.mem_cons_self .., not_bv_int⟩) h

theorem npacks_less {F' F2 : Frz} (hF : Less F' F2) {a : Option Addr} {n c : Nat} {xs : List NPack} (h : Arr tNPack F' a n c xs) : Arr tNPack F2 a n c xs :=
  Arr.less hF (fun l x h => by
    obtain ⟨a, n, c, rfl, h1, h2⟩ := h
    exact ⟨⟨a, n, c, rfl, nats_less hF h1, h2⟩, _, List.mem_cons_self .., not_bv_int⟩) h

theorem nodes_less {F' F2 : Frz} (hF : Less F' F2) {a : Option Addr} {n c : Nat} {xs : List Node} (h : Arr tNode F' a n c xs) : Arr tNode F2 a n c xs :=
  Arr.less hF (fun l x h => by
    obtain ⟨a, n, c, rfl, h1⟩ := h
    exact ⟨⟨a, n, c, rfl, npacks_less hF h1⟩, _, List.mem_cons_self .., not_bv_bool⟩) h

theorem makeRes_less {g : Gram} {w : List Nat} {E : List (List Nat)} {F' F2 : Frz} (hF : Less F' F2) {v : Value} (h : MakeRes g w E F' v) : MakeRes g w E F2 v := by
  rcases h with ⟨s, a, n, c, r, h1, h2, h3, h4⟩ | h
  · refine .inl ⟨s, a, n, c, r, h1, h2, ?_, h4⟩
    rcases h3 with h3 | ⟨h5, S, a', n', c', h6, h7, h8⟩
    · exact .inl h3
    · exact .inr ⟨h5, S, a', n', c', h6, h7, nodes_less hF h8⟩
  · exact .inr h

/-! ### smaller tables -/
/-- The bits of the one are bits of the other. -/
structure Sub (E' E : List (List Nat)) : Prop where
  size : E'.length = E.length
  row : ∀ (n : Nat) (r' : List Nat), E'[n]? = some r' → ∃ r, E[n]? = some r ∧ r'.length = r.length ∧ ∀ (i x' : Nat), r'[i]? = some x' → ∃ x, r[i]? = some x ∧ ∀ q, x'.testBit q = true → x.testBit q = true

theorem Sub.refl (E : List (List Nat)) : Sub E E := ⟨rfl, fun n r h => ⟨r, h, rfl, fun i x h => ⟨x, h, fun _ h => h⟩⟩⟩

theorem Sub.step {w : List Nat} {E' E : List (List Nat)} (h : Sub E' E) {s : Sym} {i j : Nat} (hs : stepB w E' s i j = true) : stepB w E s i j = true := by
  rw [stepB_iff] at hs ⊢
  unfold Step at hs ⊢
  split
  · rename_i ht
    rw [if_pos ht] at hs
    exact hs
  · rename_i ht
    rw [if_neg ht] at hs
    obtain ⟨r', x', h1, h2, h3⟩ := hs
    obtain ⟨r, h4, _, h5⟩ := h.row _ _ h1
    obtain ⟨x, h6, h7⟩ := h5 _ _ h2
    exact ⟨r, x, h4, h6, h7 _ h3⟩

theorem Sub.ok {n len : Nat} {E' E : List (List Nat)} (h : Sub E' E) (hE : EndsOk n len E) : EndsOk n len E' where
  size := by rw [h.size, hE.size]
  row := fun r' hr' => by
    obtain ⟨k, hk, rfl⟩ := List.getElem_of_mem hr'
    obtain ⟨r, h1, h2, _⟩ := h.row k _ (List.getElem?_eq_getElem hk)
    rw [h2, hE.row r (List.mem_of_getElem? h1)]
  bit := fun r' hr' x' hx' => by
    obtain ⟨k, hk, rfl⟩ := List.getElem_of_mem hr'
    obtain ⟨i, hi, rfl⟩ := List.getElem_of_mem hx'
    obtain ⟨r, h1, _, h2⟩ := h.row k _ (List.getElem?_eq_getElem hk)
    obtain ⟨x, h3, h4⟩ := h2 i _ (List.getElem?_eq_getElem hi)
    have hb := hE.bit r (List.mem_of_getElem? h1) x (List.mem_of_getElem? h3)
    refine Nat.lt_pow_two_of_testBit _ fun q hq => ?_
    cases hbq : (E'[k][i]).testBit q with
    | false => rfl
    | true =>
      have := testBit_lt hb (h4 q hbq)
      omega

theorem Sub.low {E' E : List (List Nat)} (h : Sub E' E) (hE : LowOk E) : LowOk E' := by
  intro r' hr' p x' hx' q hq
  obtain ⟨k, hk, rfl⟩ := List.getElem_of_mem hr'
  obtain ⟨r, h1, _, h2⟩ := h.row k _ (List.getElem?_eq_getElem hk)
  obtain ⟨x, h3, h4⟩ := h2 p _ hx'
  exact hE r (List.mem_of_getElem? h1) p x h3 q (h4 q hq)

theorem flat_sub {α β : Type} (f h : α → List β) : ∀ (l : List α), (∀ x ∈ l, (f x).Sublist (h x)) → (l.flatMap f).Sublist (l.flatMap h)
  | [], _ => List.Sublist.refl _
  | x :: l, hs => by
    rw [List.flatMap_cons, List.flatMap_cons]
    exact (hs x (List.mem_cons_self ..)).append (flat_sub f h l fun y hy => hs y (List.mem_cons_of_mem _ hy))

theorem Sub.splitsL {w : List Nat} {E' E : List (List Nat)} (h : Sub E' E) {to : Nat} : ∀ (l : List Sym) (i : Nat), (splits w E' to l i).Sublist (splits w E to l i)
  | [], i => by unfold splits; exact List.Sublist.refl _
  | s :: l, i => by
    unfold splits
    refine flat_sub _ _ _ fun m _ => ?_
    split
    · rename_i hs
      rw [if_pos (h.step hs)]
      exact (h.splitsL l m).map _
    · exact List.nil_sublist _

theorem Sub.packs {g : Gram} {w : List Nat} {E' E : List (List Nat)} (h : Sub E' E) (k : Key) : (packsOf g w E' k).Sublist (packsOf g w E k) := by
  unfold packsOf
  refine flat_sub _ _ _ fun i _ => ?_
  unfold packsAt
  split
  · split
    · exact (h.splitsL _ _).map _
    · exact List.Sublist.refl _
  · exact List.Sublist.refl _

theorem Sub.reach {g : Gram} {w : List Nat} {E' E : List (List Nat)} (h : Sub E' E) {root k : Key} (hr : Reachable g w E' root k) : Reachable g w E root k := by
  induction hr with
  | root => exact .root
  | kid _ hp hq ih => exact .kid ih ((h.packs _).subset hp) hq

theorem Sub.sum {g : Gram} {w : List Nat} {E' E : List (List Nat)} (h : Sub E' E) (L : List Key) : packSum g w E' L ≤ packSum g w E L := by
  unfold packSum
  induction L with
  | nil => exact Nat.le_refl _
  | cons k L ih =>
    rw [List.map_cons, List.map_cons, List.sum_cons, List.sum_cons]
    exact Nat.add_le_add (h.packs k).length_le ih
end Go.Proofs.D

set_option linter.unusedVariables false
set_option maxRecDepth 20000
set_option maxHeartbeats 0
open Go Go.Abs Go.Proofs Go.Proofs.D
namespace Go.Proofs.D

theorem nodeIndex_spec (F : Frz) {a : Option Addr} {m c : Nat} {xs : List Node} (hx : Arr tNode F a m c xs) (hm : m ≤ 1000000) (p : Node → Bool) {g : Nat} {fn : Func} {first capt : List Value} (hg : CC.func g = some fn) (hgb : fn.body.isSome = true)
    (hp : ∀ x ∈ xs, ∀ b n d, Arr tNPack F b n d x.packs → Abs.Spec CC g (first ++ [.agg ⟨[.bool x.key.sym.term, .int .i64 x.key.sym.n, .int .i64 x.key.frm, .int .i64 x.key.to, .slice b n d]⟩] ++ capt) F [] fun _ v o => o = [] ∧ v = .bool (p x)) :
    Abs.Spec CC 54 [.slice a m c, .func (.func g) ⟨first⟩ ⟨capt⟩] F [] fun _ v o => o = [] ∧ v = .int .i64 (idxOf p xs) := by
  refine Abs.Spec.fn (n := 19) Tryd.func54 rfl rfl fun own => ?_
  have hxlen := hx.len
  refine AW.seq ?_; refine AW.reg ?_; refine ze hT zr zr zr zr zr ?_; refine WT.nil ?_; (iterate 2 refine AW.seq ?_); refine AW.reg ?_; (iterate 3 refine ze hT zr zr zr zr zr ?_); refine WT.nil ?_
  refine AW.range (S := Unit) (fun _ => []) (fun _ => _) (fun j _ G => G = F ∧ ∀ y ∈ xs.take j, p y = false) m () zr zr zr zr zr zr zr zr zr (by omega) rfl rfl (fun _ => rfl) (fun _ => rfl) (SubK.of_map rfl) (OwnLe.refl _) ⟨rfl, by simp⟩ ?_ ?_
  · intro j _ F1 hF1 hj hP
    obtain ⟨rfl, hP⟩ := hP
    refine AW.seq ?_; refine AW.reg ?_; (iterate 2 refine ze hT zr zr zr zr zr ?_); refine WT.nil ?_; refine AW.seq ?_; refine AW.reg ?_; (iterate 3 refine ze hT zr zr zr zr zr ?_)
    refine WT.idxL hT hx zr zr zr zr zr zr zr zr zr (by omega) (fun x hxj b1 off ro cs lx hb hp1 hrel => ?_)
    obtain ⟨b2, n2, d2, rfl, hx2⟩ := hrel
    refine zi (fo := 0) hT (by assumption) (by assumption) zr zr zr zr zr zr ?_
    refine WT.callC hg hgb zr zr zr zr zr zr zr (hp x (List.mem_of_getElem? hxj) _ _ _ hx2) (fun v hv => ?_)
    subst hv
    refine WT.nil ?_
    refine AW.cond rfl (fun hc => ?_) (fun hc => ?_)
    · refine AW.seq ?_; refine AW.reg ?_; (iterate 2 refine ze hT zr zr zr zr zr ?_); refine WT.nil ?_
      refine AW.ret ⟨_, [], ⟨_, _, rfl, rfl, rfl⟩, (by repeat (first | exact List.Sublist.refl _ | refine List.Sublist.cons _ ?_)), rfl, ?_⟩
      rw [idxOf_at hxj hc hP]; rfl
    · refine AW.skip ?_
      exact ⟨(), SubK.of_map rfl, (by repeat (first | exact OwnLe.refl _ | refine OwnLe.skip _ ?_)), rfl, take_all hxj hP hc⟩
  · intro _ F1 hF1 hP
    obtain ⟨rfl, hP⟩ := hP
    rw [List.take_of_length_le (by omega)] at hP
    refine AW.seq ?_; refine AW.reg ?_; refine ze hT zr zr zr zr zr ?_; refine WT.nil ?_
    refine AW.ret ⟨_, [], ⟨_, _, rfl, rfl, rfl⟩, (by repeat (first | exact List.Sublist.refl _ | refine List.Sublist.cons _ ?_)), rfl, ?_⟩
    rw [idxOf_none hP]; rfl

theorem nodeAny_spec (F : Frz) {a : Option Addr} {m c : Nat} {xs : List Node} (hx : Arr tNode F a m c xs) (hm : m ≤ 1000000) (p : Node → Bool) {g : Nat} {fn : Func} {first capt : List Value} (hg : CC.func g = some fn) (hgb : fn.body.isSome = true)
    (hp : ∀ x ∈ xs, ∀ b n d, Arr tNPack F b n d x.packs → Abs.Spec CC g (first ++ [.agg ⟨[.bool x.key.sym.term, .int .i64 x.key.sym.n, .int .i64 x.key.frm, .int .i64 x.key.to, .slice b n d]⟩] ++ capt) F [] fun _ v o => o = [] ∧ v = .bool (p x)) :
    Abs.Spec CC 20 [.slice a m c, .func (.func g) ⟨first⟩ ⟨capt⟩] F [] fun _ v o => o = [] ∧ v = .bool (xs.any p) := by
  refine Abs.Spec.fn (n := 9) Tryd.func20 rfl rfl fun own => ?_
  refine AW.seq ?_; refine AW.reg ?_; refine ze hT zr zr zr zr zr ?_; refine WT.nil ?_; refine AW.seq ?_; refine AW.reg ?_; (iterate 2 refine ze hT zr zr zr zr zr ?_)
  refine WT.callV Tryd.func54 zr zr zr zr zr zr (nodeIndex_spec _ hx hm p hg hgb hp) (fun v hv => ?_)
  subst hv
  (iterate 2 refine ze hT zr zr zr zr zr ?_); refine WT.nil ?_
  refine AW.ret ⟨_, [], ⟨_, _, rfl, rfl, rfl⟩, (by repeat (first | exact List.Sublist.refl _ | refine List.Sublist.cons _ ?_)), rfl, ?_⟩
  rw [← idxOf_nonneg]; rfl


/-- The same place, with as many packs or more. -/
def lessP (x m : Node) : Bool := (((m.key.sym.term == x.key.sym.term) && (((m.key.sym.n : Int) == (x.key.sym.n : Int)) && true)) && (((m.key.frm : Int) == (x.key.frm : Int)) && (((m.key.to : Int) == (x.key.to : Int)) && decide ((m.packs.length : Int) ≥ (x.packs.length : Int)))))

theorem lessK_spec (F : Frz) {i : Nat} {x y : Node} {xa ya : Option Addr} {xn xc yn yc : Nat} (hi : F i = some (.cells false [.bool x.key.sym.term, .int .i64 x.key.sym.n, .int .i64 x.key.frm, .int .i64 x.key.to, .slice xa xn xc])) (hxn : xn = x.packs.length) (hyn : yn = y.packs.length) :
    Abs.Spec CC 29 [.agg ⟨[.bool y.key.sym.term, .int .i64 y.key.sym.n, .int .i64 y.key.frm, .int .i64 y.key.to, .slice ya yn yc]⟩, .pointer (some ⟨i, 0, none⟩)] F [] fun _ v o => o = [] ∧ v = .bool (lessP x y) := by
  subst hxn
  subst hyn
  refine Abs.Spec.fn (n := 32) Tryd.func29 rfl rfl fun own => ?_
  refine AW.seq (AW.reg ?_)
  refine WT.boxT zr zr zr zr zr zr (fun i2 hi2 => ?_)
  refine ze hT zr zr zr zr zr ?_; refine WT.nil ?_; refine AW.seq ?_; refine AW.reg ?_; refine ze hT zr zr zr zr zr ?_; refine zl hT 0 zr zr zr zr zr zr me zr ?_; refine ze hT zr zr zr zr zr ?_; refine zf hT (by assumption) zr zr zr zr zr zr ?_; refine zq hT zr zr zr zr zr zr zr ?_; refine ze hT zr zr zr zr zr ?_
  refine WT.split 9 rfl (fun h1 => ?_) (fun h1 => ?_)
  · refine ze hT zr zr zr zr zr ?_; refine zl hT 0 zr zr zr zr zr zr me zr ?_; refine ze hT zr zr zr zr zr ?_; refine zf hT (by assumption) zr zr zr zr zr zr ?_; (iterate 3 refine ze hT zr zr zr zr zr ?_)
    refine WT.split 16 rfl (fun h2 => ?_) (fun h2 => ?_)
    · refine ze hT zr zr zr zr zr ?_; refine zl hT 0 zr zr zr zr zr zr me zr ?_; refine ze hT zr zr zr zr zr ?_; refine zf hT (by assumption) zr zr zr zr zr zr ?_; (iterate 3 refine ze hT zr zr zr zr zr ?_)
      refine WT.split 23 rfl (fun h3 => ?_) (fun h3 => ?_)
      · refine ze hT zr zr zr zr zr ?_; refine zl hT 0 zr zr zr zr zr zr me zr ?_; (iterate 2 refine ze hT zr zr zr zr zr ?_); refine zf hT (by assumption) zr zr zr zr zr zr ?_; (iterate 4 refine ze hT zr zr zr zr zr ?_); refine WT.nil ?_
        refine AW.ret ⟨_, [], ⟨_, _, rfl, rfl, rfl⟩, (by repeat (first | exact List.Sublist.refl _ | refine List.Sublist.cons _ ?_)), rfl, ?_⟩
        unfold lessP
        rw [h1, h2, h3]; rfl
      · (iterate 7 refine zx zr zr zr zr ?_); (iterate 2 refine ze hT zr zr zr zr zr ?_); refine WT.nil ?_
        refine AW.ret ⟨_, [], ⟨_, _, rfl, rfl, rfl⟩, (by repeat (first | exact List.Sublist.refl _ | refine List.Sublist.cons _ ?_)), rfl, ?_⟩
        unfold lessP
        rw [h1, h2, h3]; rfl
    · (iterate 5 refine zx zr zr zr zr ?_); (iterate 2 refine ze hT zr zr zr zr zr ?_); (iterate 7 refine zx zr zr zr zr ?_); (iterate 2 refine ze hT zr zr zr zr zr ?_); refine WT.nil ?_
      refine AW.ret ⟨_, [], ⟨_, _, rfl, rfl, rfl⟩, (by repeat (first | exact List.Sublist.refl _ | refine List.Sublist.cons _ ?_)), rfl, ?_⟩
      unfold lessP
      rw [h1, h2]; rfl
  · (iterate 5 refine zx zr zr zr zr ?_); (iterate 2 refine ze hT zr zr zr zr zr ?_); (iterate 5 refine zx zr zr zr zr ?_); (iterate 2 refine ze hT zr zr zr zr zr ?_); (iterate 7 refine zx zr zr zr zr ?_); (iterate 2 refine ze hT zr zr zr zr zr ?_); refine WT.nil ?_
    refine AW.ret ⟨_, [], ⟨_, _, rfl, rfl, rfl⟩, (by repeat (first | exact List.Sublist.refl _ | refine List.Sublist.cons _ ?_)), rfl, ?_⟩
    unfold lessP
    rw [h1]; rfl
end Go.Proofs.D

set_option linter.unusedVariables false
set_option maxRecDepth 20000
set_option maxHeartbeats 0
open Go Go.Abs Go.Proofs Go.Proofs.D
namespace Go.Proofs.D

/-! ### a copy of a grammar, all of it own -/
/-- A rule as its cells: the left side, the right side's slice. -/
def tRuleC : Ty (Nat × Value) where
  size := 2
  rel := fun _ l x => l = [.int .i64 x.1, x.2] ∧ Go.Abs.one x.2 = true
  len := fun _ _ _ h => by rw [h.1]; rfl
  one := fun _ _ _ h => by rw [h.1]; simp only [List.all_cons, List.all_nil, h.2]; rfl
  mono := fun _ _ _ _ _ h => h

inductive Rights (F : Frz) : List (Nat × Value) → List (Nat × Blk) → List Rule → Prop
  | nil : Rights F [] [] []
  | cons {a : Option Addr} {n c : Nat} {Br bs : List (Nat × Blk)} {r : Rule} {xs : List (Nat × Value)} {rs : List Rule} : Vec tSym F a n c Br r.right → Rights F xs bs rs → Rights F ((r.left, .slice a n c) :: xs) (Br ++ bs) (r :: rs)

theorem Rights.mono {F G : Frz} (hF : Frz.le F G) {xs : List (Nat × Value)} {bs : List (Nat × Blk)} {rs : List Rule} (h : Rights F xs bs rs) : Rights G xs bs rs := by
  induction h with
  | nil => exact .nil
  | cons h _ ih => exact .cons (h.mono hF) ih

theorem Rights.snoc {F : Frz} {a : Option Addr} {n c : Nat} {Br : List (Nat × Blk)} {r : Rule} (hv : Vec tSym F a n c Br r.right) {xs : List (Nat × Value)} {bs : List (Nat × Blk)} {rs : List Rule} (h : Rights F xs bs rs) : Rights F (xs ++ [(r.left, .slice a n c)]) (bs ++ Br) (rs ++ [r]) := by
  induction h with
  | nil => simpa using Rights.cons hv .nil
  | cons h _ ih =>
    rw [List.append_assoc]
    exact .cons h ih

theorem Rights.len {F : Frz} {xs : List (Nat × Value)} {bs : List (Nat × Blk)} {rs : List Rule} (h : Rights F xs bs rs) : xs.length = rs.length := by
  induction h with
  | nil => rfl
  | cons _ _ ih => simp [ih]

structure CoS where
  j : Nat
  a : Option Addr
  c : Nat
  B : List (Nat × Blk)
  xs : List (Nat × Value)
  bs : List (Nat × Blk)

theorem perm_cp5 {α : Type} (x a b c l : List α) : (x ++ (a ++ (b ++ (c ++ l)))).Perm (a ++ (b ++ (c ++ (x ++ l)))) := by
  have h := (List.perm_append_comm (l₁ := x) (l₂ := a ++ (b ++ c))).append_right l
  simpa [List.append_assoc] using h

theorem copyOwn_spec (F : Frz) (g : Gram) {a : Option Addr} {m c : Nat} (hr : Arr tRule F a m c g.rules) (hm : m ≤ 1000000) (hrr : ∀ r ∈ g.rules, r.right.length ≤ 1000000) :
    Abs.Spec CC 30 [.agg ⟨gramCells g a m c⟩] F [] fun F' v o => ∃ B', o = [B'] ∧ ∃ B bs a' c' xs, B' = B ++ bs ∧ v = .agg ⟨gramCells g a' m c'⟩ ∧ Bld tRuleC F' a' m c' B xs ∧ Rights F' xs bs g.rules := by
  unfold gramCells
  have hrl := hr.len
  refine Abs.Spec.fn (n := 28) Tryd.func30 rfl rfl fun own => ?_
  refine AW.seq (AW.reg ?_)
  refine WT.boxT zr zr zr zr zr zr (fun i1 hi1 => ?_)
  refine WT.allocT hT zr zr zr zr zr zr (fun i2 hi2 => ?_)
  refine WT.nil ?_; refine AW.seq ?_; refine AW.reg ?_; refine zl hT 1 zr zr zr zr zr zr me zr ?_
  refine WT.allocT hT zr zr zr zr zr zr (fun i3 hi3 => ?_)
  refine zs hT 0 0 zr zr zr zr zr zr zr zr zr zr zr zr ?_; refine WT.nil ?_; refine AW.seq ?_; refine AW.reg ?_; refine ze hT zr zr zr zr zr ?_; refine zs hT 0 0 zr zr zr zr zr zr zr zr zr zr zr zr ?_; refine WT.nil ?_; (iterate 2 refine AW.seq ?_); refine AW.reg ?_; refine ze hT zr zr zr zr zr ?_; refine zl hT 2 zr zr zr zr zr zr me zr ?_; (iterate 2 refine ze hT zr zr zr zr zr ?_); refine WT.nil ?_
  refine AW.range (S := CoS) (fun _ => []) (fun s => s.B :: [(i3, .cells false [.int .i64 g.terms, .int .i64 g.nons, .int .i64 g.start, .slice s.a s.j s.c])] :: s.bs :: [(i2, .cells false [.int .i64 0, .int .i64 0, .int .i64 0, .slice none 0 0])] :: [(i1, .cells false [.int .i64 g.terms, .int .i64 g.nons, .int .i64 g.start, .slice a m c])] :: own)
    (fun j s G => s.j = j ∧ Bld tRuleC G s.a s.j s.c s.B s.xs ∧ Rights G s.xs s.bs (g.rules.take j)) m ⟨0, none, 0, [], [], []⟩
    zr zr zr zr zr zr zr zr zr (by omega) rfl rfl (fun _ => rfl) (fun _ => rfl) (SubK.of_map rfl) (OwnLe.flat (List.Perm.refl _)) ⟨rfl, Bld.nil_ _ _, Rights.nil⟩ ?_ ?_
  · intro j s F1 hF1 hj hP
    obtain ⟨rfl, hb, hR⟩ := hP
    have hr1 := hr.mono hF1
    refine AW.seq ?_; refine AW.reg ?_
    refine WT.idxL hT hr1 zr zr zr zr zr zr zr zr zr (by omega) (fun r hrj b off ro cs lx hb1 hp1 hrel => ?_)
    obtain ⟨ra, rn, rc, rfl, hra⟩ := hrel
    have hral := hra.len
    have hrn := hrr r (List.mem_of_getElem? hrj)
    refine zi (fo := 0) hT (by assumption) (by assumption) zr zr zr zr zr zr ?_
    refine WT.allocT hT zr zr zr zr zr zr (fun i5 hi5 => ?_)
    refine zs hT 0 0 zr zr zr zr zr zr zr zr zr zr zr zr ?_; refine WT.nil ?_
    refine AW.draw (ps := [(1, 6), (1, 8), (3, 6)]) rfl rfl ?_
    refine ze hT zr zr zr zr zr ?_; refine zl hT 2 zr zr zr zr zr zr me zr ?_; refine ze hT zr zr zr zr zr ?_; refine zl hT 0 zr zr zr zr zr zr me zr ?_; refine ze hT zr zr zr zr zr ?_; refine zl hT 0 zr zr zr zr zr zr me zr ?_
    refine WT.callN Tryd.func62 zr zr zr zr zr zr (symClone_spec _ hra (by omega)) (fun F2 v B2 hF2 hv => ?_)
    obtain ⟨ca, cc, rfl, hcv⟩ := hv
    refine ze hT zr zr zr zr zr ?_
    refine WT.buildT hT zr zr zr zr zr zr zr zr zr zr zr zr zr zr (fun i9 hi9 => ?_)
    refine WT.appendT (R := tRuleC) (ys := [(r.left, .slice ca rn cc)]) hT 3 (hb.mono hF2) rfl (fun _ => rfl) zr zr zr zr zr zr zr zr zr zr zr (fun h0 s0 => news_own hT s0 0 zr zr zr zr) (Cells.single (R := tRuleC) ⟨rfl, rfl⟩) rfl (by decide) (by first | omega | (dsimp only at *; omega)) (fun a3 c3 B3 hB3 => ?_)
    refine ze hT zr zr zr zr zr ?_; refine zs hT 4 0 zr zr zr zr zr zr zr zr zr zr zr zr ?_; refine WT.nil ?_
    refine ⟨(by repeat (first | exact trivial | refine recs_pair rfl rfl (by first | exact keep0 | exact keep1 (keeps_frz (by assumption)) | exact kp 0 0 me me | exact kp 1 1 me me | exact kp 2 2 me me | exact kp 3 3 me me | exact kp 4 4 me me | exact kp 5 5 me me | exact kp 6 6 me me | exact kp 0 1 me me | exact kp 1 2 me me | exact kp 2 3 me me | exact kp 3 4 me me | exact kp 4 5 me me | exact kp 5 6 me me | exact kp 6 7 me me) ?_)), ?_⟩
    refine ⟨⟨s.j + 1, a3, c3, B3, s.xs ++ [(r.left, .slice ca rn cc)], s.bs ++ B2⟩, SubK.of_map rfl, ?_, rfl, hB3, ?_⟩
    · refine OwnLe.skip _ (OwnLe.trans (OwnLe.flat ?_) (OwnLe.cons _ (OwnLe.skip _ (OwnLe.refl _))))
      simp only [List.flatten_cons, List.append_assoc]
      exact perm_cp5 _ _ _ _ _
    · have := Rights.snoc (r := r) hcv (hR.mono hF2)
      rw [List.take_add_one, hrj]
      exact this
  · intro s F1 hF1 hP
    obtain ⟨hj, hb, hR⟩ := hP
    rw [List.take_of_length_le (by omega)] at hR
    rw [hj] at hb ⊢
    refine AW.seq ?_; refine AW.reg ?_; refine zl hT 1 zr zr zr zr zr zr me zr ?_; refine zs hT 3 0 zr zr zr zr zr zr zr zr zr zr zr zr ?_; refine WT.nil ?_
    refine AW.le (own2 := [(i2, .cells false [.int .i64 g.terms, .int .i64 g.nons, .int .i64 g.start, .slice s.a m s.c])] :: (s.B ++ s.bs) :: own) (OwnLe.trans (OwnLe.flat ?_) (OwnLe.cons _ (OwnLe.skip _ (OwnLe.cons _ (OwnLe.cons _ (OwnLe.skip _ (OwnLe.refl _))))))) ?_
    · have := List.perm_middle (a := (i2, Blk.cells false [.int .i64 g.terms, .int .i64 g.nons, .int .i64 g.start, .slice s.a m s.c])) (l₁ := s.B ++ s.bs) (l₂ := own.flatten)
      simpa [List.append_assoc] using this
    refine AW.ret ⟨_, [_], ⟨_, _, ⟨_, rfl, fun G h0 s0 => loadA_cells (s0.has (p := 0) rfl (List.mem_cons_self ..)) (readT_ok hT rfl)⟩, rfl, rfl⟩, (by repeat (first | exact List.Sublist.refl _ | refine List.Sublist.cons _ ?_)), _, rfl, _, _, _, _, _, rfl, rfl, hb, hR⟩
end Go.Proofs.D

set_option linter.unusedVariables false
set_option maxRecDepth 20000
set_option maxHeartbeats 0
open Go Go.Abs Go.Proofs Go.Proofs.D
namespace Go.Proofs.D

/-! ### nonterminals numbered in another way -/
def renSym (σ : Nat → Nat) (s : Sym) : Sym := if s.term = true then s else ⟨false, σ s.n⟩
def renRule (σ : Nat → Nat) (r : Rule) : Rule := ⟨σ r.left, r.right.map (renSym σ)⟩
def renG (σ : Nat → Nat) (g : Gram) : Gram := { g with start := σ g.start, rules := g.rules.map (renRule σ) }

/-- A numbering of the first nonterminals. -/
structure Ren (n : Nat) (σ : Nat → Nat) : Prop where
  lt : ∀ i, i < n → σ i < n
  inj : ∀ i j, i < n → j < n → σ i = σ j → i = j

theorem turn_ren {n k : Nat} (hk : k < n) : Ren n fun i => (i + k) % n where
  lt := fun i _ => Nat.mod_lt _ (by omega)
  inj := fun i j hi hj h => by
    have e : ∀ i, i < n → (i + k) % n = if i + k < n then i + k else i + k - n := fun i hi => by
      split
      · exact Nat.mod_eq_of_lt (by omega)
      · rw [Nat.mod_eq_sub_mod (by omega)]
        exact Nat.mod_eq_of_lt (by omega)
    have h : (i + k) % n = (j + k) % n := h
    rw [e i hi, e j hj] at h
    split at h <;> split at h <;> omega

theorem listT_ren {σ : Nat → Nat} {f h : Sym → Nat → Nat → Nat} : ∀ (l : List Sym) (i j : Nat), (∀ s ∈ l, ∀ i j, f (renSym σ s) i j = h s i j) → listT f (l.map (renSym σ)) i j = listT h l i j
  | [], i, j, _ => rfl
  | s :: l, i, j, hs => by
    rw [List.map_cons]
    unfold listT
    congr 1
    refine List.map_congr_left fun m _ => ?_
    rw [hs s (List.mem_cons_self ..) i m, listT_ren l m j fun s' h' => hs s' (List.mem_cons_of_mem _ h')]

theorem symT_ren {g : Gram} (hg : Valid g) {σ : Nat → Nat} (hσ : Ren g.nons σ) (w : List Nat) : ∀ (d : Nat) (s : Sym), SymOk g.terms g.nons s → ∀ i j, symT (renG σ g) w d (renSym σ s) i j = symT g w d s i j
  | 0, s, _, i, j => rfl
  | d + 1, s, hs, i, j => by
    unfold SymOk at hs
    rw [symT, symT]
    cases ht : s.term with
    | true =>
      have e : renSym σ s = s := by unfold renSym; rw [if_pos ht]
      rw [e, ht]
      simp only [if_true]
    | false =>
      rw [if_neg (by rw [ht]; simp)] at hs
      have e : renSym σ s = ⟨false, σ s.n⟩ := by unfold renSym; rw [if_neg (by rw [ht]; simp)]
      rw [e]
      simp only [Bool.false_eq_true, if_false]
      show ((g.rules.map (renRule σ)).map _).sum = _
      rw [List.map_map]
      congr 1
      refine List.map_congr_left fun r hr => ?_
      obtain ⟨h1, _, h3⟩ := hg.right r hr
      have hl : listT (symT (renG σ g) w d) (r.right.map (renSym σ)) i j = listT (symT g w d) r.right i j := listT_ren r.right i j fun s' h' i j => symT_ren hg hσ w d s' (h3 s' h') i j
      show (if σ r.left = σ s.n then listT (symT (renG σ g) w d) (r.right.map (renSym σ)) i j else 0) = _
      rw [hl]
      by_cases e2 : r.left = s.n
      · rw [if_pos e2, if_pos (by rw [e2])]
      · rw [if_neg e2, if_neg fun h => e2 (hσ.inj _ _ h1 hs h)]

theorem renSym_inj {t n : Nat} {σ : Nat → Nat} (hσ : Ren n σ) {x y : Sym} (hx : SymOk t n x) (hy : SymOk t n y) (h : renSym σ x = renSym σ y) : x = y := by
  obtain ⟨xt, xn⟩ := x
  obtain ⟨yt, yn⟩ := y
  unfold SymOk at hx hy
  unfold renSym at h
  cases xt <;> cases yt <;> simp at h hx hy ⊢
  · exact hσ.inj _ _ hx hy h
  · exact h

theorem map_inj {α β : Type} {f : α → β} {p : α → Prop} (hf : ∀ x y, p x → p y → f x = f y → x = y) : ∀ {l m : List α}, (∀ x ∈ l, p x) → (∀ x ∈ m, p x) → l.map f = m.map f → l = m
  | [], [], _, _, _ => rfl
  | [], y :: m, _, _, h => by cases h
  | x :: l, [], _, _, h => by cases h
  | x :: l, y :: m, hl, hm, h => by
    rw [List.map_cons, List.map_cons] at h
    injection h with h1 h2
    rw [hf x y (hl x (List.mem_cons_self ..)) (hm y (List.mem_cons_self ..)) h1, map_inj hf (fun z hz => hl z (List.mem_cons_of_mem _ hz)) (fun z hz => hm z (List.mem_cons_of_mem _ hz)) h2]

theorem ren_valid {g : Gram} (hg : Valid g) {σ : Nat → Nat} (hσ : Ren g.nons σ) : Valid (renG σ g) where
  range := by
    refine ⟨hg.range.terms, hg.range.nons, hσ.lt _ hg.range.start, by show (g.rules.map _).length ≤ 32; rw [List.length_map]; exact hg.range.rules, fun r hr => ?_⟩
    obtain ⟨r, hr0, rfl⟩ := List.mem_map.1 hr
    show (r.right.map _).length ≤ 1000000
    rw [List.length_map]; exact hg.range.right r hr0
  right := fun r hr => by
    obtain ⟨r, hr0, rfl⟩ := List.mem_map.1 hr
    obtain ⟨h1, h2, h3⟩ := hg.right r hr0
    refine ⟨hσ.lt _ h1, by show (r.right.map _).length ≤ 4; rw [List.length_map]; exact h2, fun y hy => ?_⟩
    obtain ⟨y, hy0, rfl⟩ := List.mem_map.1 hy
    have := h3 y hy0
    obtain ⟨yt, yn⟩ := y
    unfold SymOk at this
    cases yt with
    | true =>
      show SymOk g.terms g.nons ⟨true, yn⟩
      exact this
    | false =>
      show SymOk g.terms g.nons ⟨false, σ yn⟩
      have : yn < g.nons := this
      exact hσ.lt _ this
  nodup := by
    show (g.rules.map (renRule σ)).Nodup
    rw [List.nodup_iff_pairwise_ne, List.pairwise_map]
    refine (List.nodup_iff_pairwise_ne.1 hg.nodup).imp_of_mem ?_
    intro r r' hr hr' hne he
    apply hne
    obtain ⟨h1, _, h3⟩ := hg.right r hr
    obtain ⟨h1', _, h3'⟩ := hg.right r' hr'
    obtain ⟨rl, rr⟩ := r
    obtain ⟨rl', rr'⟩ := r'
    unfold renRule at he
    injection he with e1 e2
    have e1 := hσ.inj _ _ h1 h1' e1
    have e2 := map_inj (p := SymOk g.terms g.nons) (fun x y hx hy h => renSym_inj hσ hx hy h) h3 h3' e2
    have e1 : rl = rl' := e1
    have e2 : rr = rr' := e2
    rw [e1, e2]
end Go.Proofs.D

set_option linter.unusedVariables false
set_option maxRecDepth 20000
set_option maxHeartbeats 0
open Go Go.Abs Go.Proofs Go.Proofs.D
namespace Go.Proofs.D

/-! ### an own grammar's cells -/
def flatR (xs : List (Nat × Value)) : List Value := xs.flatMap fun x => [.int .i64 x.1, x.2]
def flatS (l : List Sym) : List Value := l.flatMap fun y => [.bool y.term, .int .i64 y.n]

theorem cells_flatR {F : Frz} {cs : List Value} {xs : List (Nat × Value)} (h : Cells tRuleC F cs xs) : cs = flatR xs := by
  induction h with
  | nil => rfl
  | cons h1 _ ih => rw [h1.1, ih]; rfl

theorem flatR_cells {F : Frz} : ∀ xs : List (Nat × Value), (∀ x ∈ xs, Go.Abs.one x.2 = true) → Cells tRuleC F (flatR xs) xs
  | [], _ => .nil
  | x :: xs, h => Cells.cons (l := [_, _]) ⟨rfl, h x (List.mem_cons_self ..)⟩ (flatR_cells xs fun y hy => h y (List.mem_cons_of_mem _ hy))

theorem cells_flatS {F : Frz} {cs : List Value} {l : List Sym} (h : Cells tSym F cs l) : cs = flatS l := by
  induction h with
  | nil => rfl
  | cons h1 _ ih =>
    have h1 : _ = _ := h1
    rw [h1, ih]; rfl

theorem flatS_cells {F : Frz} : ∀ l : List Sym, Cells tSym F (flatS l) l
  | [] => .nil
  | y :: l => Cells.cons (l := [_, _]) rfl (flatS_cells l)

theorem flatR_get : ∀ {xs : List (Nat × Value)} {i : Nat} {x : Nat × Value}, xs[i]? = some x → (flatR xs)[i * 2]? = some (.int .i64 x.1) ∧ (flatR xs)[i * 2 + 1]? = some x.2
  | [], i, x, h => by simp at h
  | y :: xs, 0, x, h => by
    obtain rfl : y = x := by simpa using h
    exact ⟨rfl, rfl⟩
  | y :: xs, i + 1, x, h => by
    have h2 : xs[i]? = some x := by simpa using h
    obtain ⟨h3, h4⟩ := flatR_get h2
    have e : flatR (y :: xs) = .int .i64 y.1 :: y.2 :: flatR xs := rfl
    rw [e, show (i + 1) * 2 = i * 2 + 1 + 1 by omega]
    simp only [List.getElem?_cons_succ]
    exact ⟨h3, h4⟩

theorem flatR_set : ∀ {xs : List (Nat × Value)} {i : Nat} {x : Nat × Value} (z : Nat), xs[i]? = some x → (flatR xs).set (i * 2) (.int .i64 z) = flatR (xs.set i (z, x.2))
  | [], i, x, z, h => by simp at h
  | y :: xs, 0, x, z, h => by
    obtain rfl : y = x := by simpa using h
    rfl
  | y :: xs, i + 1, x, z, h => by
    have h2 : xs[i]? = some x := by simpa using h
    have h3 := flatR_set z h2
    have e : flatR (y :: xs) = .int .i64 y.1 :: y.2 :: flatR xs := rfl
    rw [e, show (i + 1) * 2 = i * 2 + 1 + 1 by omega]
    simp only [List.set_cons_succ]
    rw [h3]; rfl

theorem flatS_set : ∀ {l : List Sym} {i : Nat} {y : Sym} (z : Nat), l[i]? = some y → (flatS l).set (i * 2 + 1) (.int .i64 z) = flatS (l.set i ⟨y.term, z⟩)
  | [], i, x, z, h => by simp at h
  | y :: l, 0, x, z, h => by
    obtain rfl : y = x := by simpa using h
    rfl
  | y :: l, i + 1, x, z, h => by
    have h2 : l[i]? = some x := by simpa using h
    have h3 := flatS_set z h2
    have e : flatS (y :: l) = .bool y.term :: .int .i64 y.n :: flatS l := rfl
    rw [e, show (i + 1) * 2 + 1 = i * 2 + 1 + 1 + 1 by omega]
    simp only [List.set_cons_succ]
    rw [h3]; rfl

/-- One rule's right side apart, and another put in its place. -/
theorem Rights.split {F : Frz} {xs : List (Nat × Value)} {bs : List (Nat × Blk)} {rs : List Rule} (h : Rights F xs bs rs) : ∀ {i : Nat} {r : Rule}, rs[i]? = some r →
    ∃ a n c Br b1 b2, xs[i]? = some (r.left, .slice a n c) ∧ bs = b1 ++ (Br ++ b2) ∧ Vec tSym F a n c Br r.right ∧
      ∀ (Br' : List (Nat × Blk)) (r' : Rule), Vec tSym F a n c Br' r'.right → Rights F (xs.set i (r'.left, .slice a n c)) (b1 ++ (Br' ++ b2)) (rs.set i r') := by
  induction h with
  | nil => intro i r hr; simp at hr
  | @cons a n c Br bs r0 xs rs hv hR ih =>
    intro i r hr
    cases i with
    | zero =>
      obtain rfl : r0 = r := by simpa using hr
      exact ⟨a, n, c, Br, [], bs, rfl, rfl, hv, fun Br' r' h' => (show Rights F ((r'.left, .slice a n c) :: xs) (Br' ++ bs) (r' :: rs) from .cons h' hR)⟩
    | succ i =>
      obtain ⟨a', n', c', Br', b1, b2, h1, h2, h3, h4⟩ := ih (i := i) (r := r) (by simpa using hr)
      refine ⟨a', n', c', Br', Br ++ b1, b2, by simpa using h1, by rw [h2, List.append_assoc], h3, fun Bn rn hn => ?_⟩
      have := Rights.cons hv (h4 Bn rn hn)
      simpa [List.append_assoc] using this

theorem Rights.one {F : Frz} {xs : List (Nat × Value)} {bs : List (Nat × Blk)} {rs : List Rule} (h : Rights F xs bs rs) : ∀ x ∈ xs, Go.Abs.one x.2 = true := by
  induction h with
  | nil => intro x hx; cases hx
  | cons _ _ ih =>
    intro x hx
    rcases List.mem_cons.1 hx with rfl | hx
    · rfl
    · exact ih x hx

/-- All of it frozen: the grammar's rules. -/
theorem Rights.arr {F G : Frz} (hG : Frz.le F G) {xs : List (Nat × Value)} {bs : List (Nat × Blk)} {rs : List Rule} (h : Rights F xs bs rs) (hB : ∀ i b, (i, b) ∈ bs → G i = some b) : Cells tRule G (flatR xs) rs := by
  induction h with
  | nil => exact .nil
  | @cons a n c Br bs r xs rs hv hR ih =>
    have h1 := hv.arr hG fun i b hm => hB i b (List.mem_append_left _ hm)
    exact Cells.cons (l := [_, _]) ⟨_, _, _, rfl, h1⟩ (ih fun i b hm => hB i b (List.mem_append_right _ hm))

theorem turn_spec (F : Frz) {i7 i8 : Nat} {t nons st k x : Nat} {ga : Option Addr} {gm gc : Nat} (h7 : F i7 = some (.cells false [.int .i64 t, .int .i64 nons, .int .i64 st, .slice ga gm gc])) (h8 : F i8 = some (.cells false [.int .i64 k])) (hk : k < nons) (hx : x < nons) (hn : nons ≤ 10) :
    Abs.Spec CC 35 [.int .i64 x, .pointer (some ⟨i8, 0, none⟩), .pointer (some ⟨i7, 0, none⟩)] F [] fun _ v o => o = [] ∧ v = .int .i64 (((x + k) % nons : Nat) : Int) := by
  refine Abs.Spec.fn (n := 11) Tryd.func35 rfl rfl fun own => ?_
  refine AW.seq ?_; refine AW.reg ?_; refine ze hT zr zr zr zr zr ?_; refine WT.nil ?_; refine AW.seq ?_; refine AW.reg ?_; refine ze hT zr zr zr zr zr ?_; refine zf hT (by assumption) zr zr zr zr zr zr ?_; refine WT.addN zr zr zr zr zr zr (by omega) ?_; refine ze hT zr zr zr zr zr ?_; refine zf hT (by assumption) zr zr zr zr zr zr ?_
  refine WT.remT zr zr zr zr zr zr (by omega) ?_
  refine ze hT zr zr zr zr zr ?_; refine WT.nil ?_
  refine AW.ret ⟨_, [], ⟨_, _, rfl, rfl, rfl⟩, (by repeat (first | exact List.Sublist.refl _ | refine List.Sublist.cons _ ?_)), rfl, ?_⟩
  rfl
end Go.Proofs.D

set_option linter.unusedVariables false
set_option maxRecDepth 20000
set_option maxHeartbeats 0
open Go Go.Abs Go.Proofs Go.Proofs.D
namespace Go.Proofs.D

/-! ### right sides reversed -/
def mirRule (r : Rule) : Rule := ⟨r.left, r.right.reverse⟩
def mirG (g : Gram) : Gram := { g with rules := g.rules.map mirRule }

theorem sum_turn : ∀ (n : Nat) (f : Nat → Nat), ((List.range (n + 1)).map fun m => f (n - m)).sum = ((List.range (n + 1)).map f).sum
  | 0, f => by simp
  | n + 1, f => by
    have ih := sum_turn n fun m => f (m + 1)
    have e2 : ((List.range (n + 1 + 1)).map f).sum = f 0 + ((List.range (n + 1)).map fun m => f (m + 1)).sum := by
      rw [List.range_succ_eq_map, List.map_cons, List.sum_cons, List.map_map]; rfl
    rw [e2, ← ih, List.range_succ, List.map_append, List.sum_append]
    simp only [List.map_cons, List.map_nil, List.sum_cons, List.sum_nil, Nat.add_zero, Nat.sub_self]
    rw [Nat.add_comm]
    congr 1
    refine sum_congr fun m hm => ?_
    have := List.mem_range.1 hm
    show f (n + 1 - m) = f (n - m + 1)
    congr 1; omega

theorem sum_long {f : Nat → Nat} {a : Nat} : ∀ (b : Nat), (∀ m, a ≤ m → f m = 0) → ((List.range (a + b)).map f).sum = ((List.range a).map f).sum
  | 0, _ => rfl
  | b + 1, h => by
    rw [← Nat.add_assoc, List.range_succ, List.map_append, List.sum_append, sum_long b h]
    simp [h (a + b) (by omega)]

theorem listT_lt {f : Sym → Nat → Nat → Nat} (hz : ∀ s i m, m < i → f s i m = 0) : ∀ (l : List Sym) (i j : Nat), j < i → listT f l i j = 0
  | [], i, j, h => by unfold listT; rw [if_neg (by omega)]
  | s :: l, i, j, h => by
    unfold listT
    refine sum_zero fun x hx => ?_
    obtain ⟨m, hm, rfl⟩ := List.mem_map.1 hx
    have := List.mem_range.1 hm
    rw [hz s i m (by omega), Nat.zero_mul]

/-- A list of symbols over a part, the last symbol taken off. -/
theorem listT_snoc {f : Sym → Nat → Nat → Nat} (hz : ∀ s i m, m < i → f s i m = 0) (s : Sym) : ∀ (l : List Sym) (i j : Nat), listT f (l ++ [s]) i j = ((List.range (j + 1)).map fun m => listT f l i m * f s m j).sum
  | [], i, j => by
    have e1 : listT f ([] ++ [s]) i j = f s i j := by
      show ((List.range (j + 1)).map fun m => f s i m * (if m = j then 1 else 0)).sum = _
      rw [List.range_succ, List.map_append, List.sum_append, sum_zero fun x hx => ?_]
      · simp
      · obtain ⟨m, hm, rfl⟩ := List.mem_map.1 hx
        have := List.mem_range.1 hm
        rw [if_neg (by omega), Nat.mul_zero]
    rw [e1]
    have key : ∀ n, ((List.range n).map fun m => listT f [] i m * f s m j).sum = if i < n then f s i j else 0 := by
      intro n
      induction n with
      | zero => rfl
      | succ n ih =>
        rw [List.range_succ, List.map_append, List.sum_append, ih]
        simp only [List.map_cons, List.map_nil, List.sum_cons, List.sum_nil, Nat.add_zero, listT]
        by_cases h1 : i = n
        · subst h1; rw [if_neg (Nat.lt_irrefl _), if_pos rfl, if_pos (Nat.lt_succ_self _)]; omega
        · rw [if_neg h1, Nat.zero_mul, Nat.add_zero]
          by_cases h2 : i < n
          · rw [if_pos h2, if_pos (by omega)]
          · rw [if_neg h2, if_neg (by omega)]
    rw [key]
    split
    · rfl
    · exact hz _ _ _ (by omega)
  | t :: l, i, j => by
    have e1 : listT f (t :: l ++ [s]) i j = ((List.range (j + 1)).map fun m => f t i m * ((List.range (j + 1)).map fun p => listT f l m p * f s p j).sum).sum := by
      show ((List.range (j + 1)).map fun m => f t i m * listT f (l ++ [s]) m j).sum = _
      refine sum_congr fun m _ => ?_
      rw [listT_snoc hz s l m j]
    rw [e1]
    have e2 : ∀ p, p < j + 1 → listT f (t :: l) i p = ((List.range (j + 1)).map fun m => f t i m * listT f l m p).sum := by
      intro p hp
      show ((List.range (p + 1)).map fun m => f t i m * listT f l m p).sum = _
      rw [show j + 1 = (p + 1) + (j - p) by omega]
      refine (sum_long _ fun m hm => ?_).symm
      rw [show listT f l m p = 0 from listT_lt hz l m p (by omega), Nat.mul_zero]
    have e3 : ((List.range (j + 1)).map fun p => listT f (t :: l) i p * f s p j).sum = ((List.range (j + 1)).map fun p => ((List.range (j + 1)).map fun m => f t i m * listT f l m p).sum * f s p j).sum := by
      refine sum_congr fun p hp => ?_
      rw [e2 p (List.mem_range.1 hp)]
    rw [e3]
    have swap : ∀ (a b : Nat), ((List.range a).map fun m => f t i m * ((List.range b).map fun p => listT f l m p * f s p j).sum).sum = ((List.range b).map fun p => ((List.range a).map fun m => f t i m * listT f l m p).sum * f s p j).sum := by
      intro a b
      induction a with
      | zero =>
        refine Eq.symm (sum_zero fun x hx => ?_)
        obtain ⟨p, _, rfl⟩ := List.mem_map.1 hx
        simp
      | succ a ih =>
        rw [List.range_succ, List.map_append, List.sum_append, ih]
        simp only [List.map_cons, List.map_nil, List.sum_cons, List.sum_nil, Nat.add_zero, List.map_append, List.sum_append, Nat.add_mul]
        clear ih e1 e2 e3
        induction b with
        | zero => simp
        | succ b ih =>
          rw [List.range_succ, List.map_append, List.sum_append, List.map_append, List.sum_append, List.map_append, List.sum_append]
          simp only [List.map_cons, List.map_nil, List.sum_cons, List.sum_nil, Nat.add_zero, Nat.mul_add]
          rw [Nat.mul_assoc]
          omega
    exact swap _ _

theorem listT_mir {f h : Sym → Nat → Nat → Nat} {n : Nat} (hf : ∀ s i m, m < i → f s i m = 0) (hh : ∀ s i m, m < i → h s i m = 0) : ∀ (l : List Sym), (∀ s ∈ l, ∀ i j, i ≤ j → j ≤ n → f s (n - j) (n - i) = h s i j) → ∀ i j, i ≤ j → j ≤ n → listT f l.reverse (n - j) (n - i) = listT h l i j
  | [], _, i, j, hij, hj => by
    show (if n - j = n - i then 1 else 0) = if i = j then 1 else 0
    by_cases e : i = j
    · rw [if_pos e, if_pos (by omega)]
    · rw [if_neg e, if_neg (by omega)]
  | s :: l, hs, i, j, hij, hj => by
    rw [List.reverse_cons, listT_snoc hf]
    have e1 : ((List.range (n - i + 1)).map fun m => listT f l.reverse (n - j) m * f s m (n - i)).sum = ((List.range (n + 1)).map fun m => listT f l.reverse (n - j) m * f s m (n - i)).sum := by
      rw [show n + 1 = (n - i + 1) + (n - (n - i)) by omega]
      exact (sum_long _ fun m hm => by rw [hf s m (n - i) (by omega), Nat.mul_zero]).symm
    have e2 : listT h (s :: l) i j = ((List.range (n + 1)).map fun m => h s i m * listT h l m j).sum := by
      show ((List.range (j + 1)).map fun m => h s i m * listT h l m j).sum = _
      rw [show n + 1 = (j + 1) + (n - j) by omega]
      exact (sum_long _ fun m hm => by rw [listT_lt hh l m j (by omega), Nat.mul_zero]).symm
    rw [e1, e2, ← sum_turn n]
    refine sum_congr fun m hm => ?_
    have hm := List.mem_range.1 hm
    by_cases h1 : m ≤ j
    · by_cases h2 : i ≤ m
      · rw [listT_mir hf hh l (fun t ht => hs t (List.mem_cons_of_mem _ ht)) m j h1 hj, hs s (List.mem_cons_self ..) i m h2 (by omega), Nat.mul_comm]
      · rw [hf s (n - m) (n - i) (by omega), hh s i m (by omega), Nat.mul_zero, Nat.zero_mul]
    · rw [listT_lt hf l.reverse (n - j) (n - m) (by omega), listT_lt hh l m j (by omega), Nat.mul_zero, Nat.zero_mul]

theorem symT_mir (g : Gram) (w : List Nat) : ∀ (d : Nat) (s : Sym) (i j : Nat), i ≤ j → j ≤ w.length → symT (mirG g) w.reverse d s (w.length - j) (w.length - i) = symT g w d s i j
  | 0, s, i, j, _, _ => rfl
  | d + 1, s, i, j, hij, hj => by
    rw [symT, symT]
    cases ht : s.term with
    | true =>
      simp only [if_true]
      by_cases e : j = i + 1
      · subst e
        rw [List.getElem?_reverse (by omega), show w.length - 1 - (w.length - (i + 1)) = i by omega]
        by_cases e2 : w[i]? = some s.n
        · rw [if_pos ⟨e2, by omega⟩, if_pos ⟨e2, rfl⟩]
        · rw [if_neg fun h => e2 h.1, if_neg fun h => e2 h.1]
      · rw [if_neg (fun h => e (by have := h.2; omega)), if_neg fun h => e h.2]
    | false =>
      simp only [Bool.false_eq_true, if_false]
      show ((g.rules.map mirRule).map _).sum = _
      rw [List.map_map]
      refine sum_congr fun r hr => ?_
      show (if r.left = s.n then listT (symT (mirG g) w.reverse d) r.right.reverse _ _ else 0) = _
      split
      · exact listT_mir (fun s i m hm => symT_lt hm) (fun s i m hm => symT_lt hm) r.right (fun s' _ i j hij hj => symT_mir g w d s' i j hij hj) i j hij hj
      · rfl

theorem mir_inj {r r' : Rule} (h : mirRule r = mirRule r') : r = r' := by
  obtain ⟨a, b⟩ := r
  obtain ⟨a', b'⟩ := r'
  unfold mirRule at h
  injection h with h1 h2
  have h1 : a = a' := h1
  have h2 : b.reverse = b'.reverse := h2
  rw [h1, List.reverse_inj.1 h2]

theorem mir_valid {g : Gram} (hg : Valid g) : Valid (mirG g) where
  range := by
    refine ⟨hg.range.terms, hg.range.nons, hg.range.start, by show (g.rules.map _).length ≤ 32; rw [List.length_map]; exact hg.range.rules, fun r hr => ?_⟩
    obtain ⟨r, hr0, rfl⟩ := List.mem_map.1 hr
    show r.right.reverse.length ≤ 1000000
    rw [List.length_reverse]; exact hg.range.right r hr0
  right := fun r hr => by
    obtain ⟨r, hr0, rfl⟩ := List.mem_map.1 hr
    obtain ⟨h1, h2, h3⟩ := hg.right r hr0
    exact ⟨h1, by show r.right.reverse.length ≤ 4; rw [List.length_reverse]; exact h2, fun y hy => h3 y (List.mem_reverse.1 hy)⟩
  nodup := by
    show (g.rules.map mirRule).Nodup
    rw [List.nodup_iff_pairwise_ne, List.pairwise_map]
    exact (List.nodup_iff_pairwise_ne.1 hg.nodup).imp fun hne he => hne (mir_inj he)
end Go.Proofs.D

set_option linter.unusedVariables false
set_option maxRecDepth 20000
set_option maxHeartbeats 0
open Go Go.Abs Go.Proofs Go.Proofs.D
namespace Go.Proofs.D

/-! ### slices.Reverse -/
structure RevTo {α : Type} (l : List α) (i : Nat) (cur : List α) : Prop where
  len : cur.length = l.length
  half : 2 * i ≤ l.length
  get : ∀ p, p < l.length → cur[p]? = if p < i ∨ l.length - i ≤ p then l[l.length - 1 - p]? else l[p]?

theorem RevTo.zero {α : Type} (l : List α) : RevTo l 0 l :=
  ⟨rfl, by omega, fun p hp => by rw [if_neg (by omega)]⟩

theorem RevTo.step {α : Type} {l cur : List α} {i : Nat} (h : RevTo l i cur) {x y : α} (hi : 2 * i + 1 < l.length) (hx : cur[i]? = some x) (hy : cur[l.length - 1 - i]? = some y) : RevTo l (i + 1) ((cur.set i y).set (l.length - 1 - i) x) := by
  have hl := h.len
  have gx := h.get i (by omega)
  have gy := h.get (l.length - 1 - i) (by omega)
  rw [if_neg (by omega)] at gx gy
  refine ⟨by simp [hl], by omega, fun p hp => ?_⟩
  by_cases e1 : p = l.length - 1 - i
  · subst e1
    rw [List.getElem?_set_self (by simp; omega), if_pos (by omega), ← hx, gx]
    congr 1; omega
  · rw [List.getElem?_set_ne (by omega)]
    by_cases e2 : p = i
    · subst e2
      rw [List.getElem?_set_self (by omega), if_pos (by omega), ← hy, gy]
    · rw [List.getElem?_set_ne (by omega), h.get p hp]
      by_cases e3 : p < i ∨ l.length - i ≤ p
      · rw [if_pos e3, if_pos (by omega)]
      · rw [if_neg e3, if_neg (by omega)]

theorem RevTo.done {α : Type} {l cur : List α} {i : Nat} (h : RevTo l i cur) (hi : l.length ≤ 2 * i + 1) : cur = l.reverse := by
  refine List.ext_getElem? fun p => ?_
  by_cases hp : p < l.length
  · rw [h.get p hp, List.getElem?_reverse hp]
    split
    · rfl
    · have := h.half
      congr 1; omega
  · rw [List.getElem?_eq_none (by rw [h.len]; omega), List.getElem?_eq_none (by simp; omega)]

structure RvS (α : Type) where
  i : Nat
  j : Int
  cur : List α
  B : List (Nat × Blk)

theorem numRev_spec (F : Frz) {a0 : Option Addr} {m c : Nat} {B : List (Nat × Blk)} {l : List Nat} (hv : Vec tNat F a0 m c B l) (hm : m ≤ 1000000) :
    Abs.Spec CC 15 [.slice a0 m c] F [B] fun F' v o => ∃ B', o = [B'] ∧ Vec tNat F' a0 m c B' l.reverse := by
  have hml := hv.len
  refine Abs.Spec.fn (n := 28) Tryd.func15 rfl rfl fun own => ?_
  refine AW.seq ?_; refine AW.reg ?_; (iterate 2 refine ze hT zr zr zr zr zr ?_); refine zb zr zr zr zr zr zr (by omega) ?_; (iterate 2 refine ze hT zr zr zr zr zr ?_); refine WT.nil ?_
  refine AW.block ?_
  refine AW.loopR (S := RvS Nat) (fun s => [(2, .int .i64 (s.i : Nat)), (3, .int .i64 s.j)]) (fun s => s.B :: own) (fun s G => Vec tNat G a0 m c s.B s.cur ∧ RevTo l s.i s.cur ∧ s.j = (m : Int) - 1 - (s.i : Nat)) (fun s => m - s.i) ⟨0, (m : Int) - 1, l, B⟩
    (SubK.of_map rfl) (OwnLe.refl _) ⟨hv, RevTo.zero l, by simp⟩ ?_
  intro s F1 hF1 hP
  obtain ⟨hv1, hr1, hj⟩ := hP
  have hcl := hr1.len
  have hhalf := hr1.half
  (iterate 2 refine AW.seq ?_); refine AW.reg ?_; (iterate 3 refine ze hT zr zr zr zr zr ?_); refine WT.nil ?_
  refine AW.cond rfl (fun h => ?_) (fun h => ?_)
  · have h : (s.i : Int) < s.j := by simpa using h
    have h2 : 2 * s.i + 1 < m := by omega
    obtain ⟨x, hx⟩ : ∃ x, s.cur[s.i]? = some x := ⟨_, List.getElem?_eq_getElem (by omega)⟩
    obtain ⟨y, hy⟩ : ∃ y, s.cur[m - 1 - s.i]? = some y := ⟨_, List.getElem?_eq_getElem (by omega)⟩
    refine AW.know (v' := .int .i64 ((m - 1 - s.i : Nat) : Int)) 3 rfl (by congr 1; omega) ?_
    refine AW.skip ?_; refine AW.seq ?_
    refine AW.block ?_
    refine AW.draw (ps := []) rfl rfl ?_
    (iterate 6 refine ze hT zr zr zr zr zr ?_)
    refine WT.vidx hT hv1 zr zr zr zr zr zr zr zr zr (by omega) (fun b1 hb1 => ?_)
    refine WT.vld1 hT 0 hv1 hb1 hy zr zr zr zr zr zr zr zr zr (fun l hl => hl) ?_
    (iterate 2 refine ze hT zr zr zr zr zr ?_)
    refine WT.vidx hT hv1 zr zr zr zr zr zr zr zr zr (by omega) (fun b2 hb2 => ?_)
    refine WT.vld1 hT 0 hv1 hb2 hx zr zr zr zr zr zr zr zr zr (fun l hl => hl) ?_
    refine WT.vidx hT hv1 zr zr zr zr zr zr zr zr zr (by omega) (fun b3 hb3 => ?_)
    refine WT.vst (y := y) hT 0 hv1 hb3 hx zr zr zr zr zr zr zr (fun _ => rfl) rfl (fun B3 hB3 => ?_)
    refine WT.vidx hT hB3 zr zr zr zr zr zr zr zr zr (by omega) (fun b4 hb4 => ?_)
    refine WT.vst (y := x) hT 0 hB3 hb4 (z := y) (by rw [List.getElem?_set_ne (by omega)]; exact hy) zr zr zr zr zr zr zr (fun _ => rfl) rfl (fun B4 hB4 => ?_)
    refine WT.nil ?_; refine And.intro trivial ?_; refine AW.reg ?_; refine ze hT zr zr zr zr zr ?_; refine WT.add1 zr zr zr zr zr zr (by omega) ?_; refine ze hT zr zr zr zr zr ?_; refine WT.sub1 zr zr zr zr zr zr (by omega) ?_; (iterate 2 refine ze hT zr zr zr zr zr ?_); refine WT.nil ?_
    have hst := hr1.step (by omega) hx (by rw [← hml]; exact hy)
    rw [← hml] at hst
    refine ⟨⟨s.i + 1, ((m - 1 - s.i - 1 : Nat) : Int), (s.cur.set s.i y).set (m - 1 - s.i) x, B4⟩, by dsimp only; omega, SubK.of_map rfl, OwnLe.refl _, hB4, hst, by dsimp only; omega⟩
  · have h : ¬ (s.i : Int) < s.j := by simpa using h
    refine AW.exit ?_
    skip
    refine ⟨_, [_], rfl, (by repeat (first | exact List.Sublist.refl _ | refine List.Sublist.cons _ ?_)), _, rfl, ?_⟩
    rw [← hr1.done (by omega)]
    exact hv1

theorem symRev_spec (F : Frz) {a0 : Option Addr} {m c : Nat} {B : List (Nat × Blk)} {l : List Sym} (hv : Vec tSym F a0 m c B l) (hm : m ≤ 1000000) :
    Abs.Spec CC 50 [.slice a0 m c] F [B] fun F' v o => ∃ B', o = [B'] ∧ Vec tSym F' a0 m c B' l.reverse := by
  have hml := hv.len
  refine Abs.Spec.fn (n := 28) Tryd.func50 rfl rfl fun own => ?_
  refine AW.seq ?_; refine AW.reg ?_; (iterate 2 refine ze hT zr zr zr zr zr ?_); refine zb zr zr zr zr zr zr (by omega) ?_; (iterate 2 refine ze hT zr zr zr zr zr ?_); refine WT.nil ?_
  refine AW.block ?_
  refine AW.loopR (S := RvS Sym) (fun s => [(2, .int .i64 (s.i : Nat)), (3, .int .i64 s.j)]) (fun s => s.B :: own) (fun s G => Vec tSym G a0 m c s.B s.cur ∧ RevTo l s.i s.cur ∧ s.j = (m : Int) - 1 - (s.i : Nat)) (fun s => m - s.i) ⟨0, (m : Int) - 1, l, B⟩
    (SubK.of_map rfl) (OwnLe.refl _) ⟨hv, RevTo.zero l, by simp⟩ ?_
  intro s F1 hF1 hP
  obtain ⟨hv1, hr1, hj⟩ := hP
  have hcl := hr1.len
  have hhalf := hr1.half
  (iterate 2 refine AW.seq ?_); refine AW.reg ?_; (iterate 3 refine ze hT zr zr zr zr zr ?_); refine WT.nil ?_
  refine AW.cond rfl (fun h => ?_) (fun h => ?_)
  · have h : (s.i : Int) < s.j := by simpa using h
    have h2 : 2 * s.i + 1 < m := by omega
    obtain ⟨x, hx⟩ : ∃ x, s.cur[s.i]? = some x := ⟨_, List.getElem?_eq_getElem (by omega)⟩
    obtain ⟨y, hy⟩ : ∃ y, s.cur[m - 1 - s.i]? = some y := ⟨_, List.getElem?_eq_getElem (by omega)⟩
    refine AW.know (v' := .int .i64 ((m - 1 - s.i : Nat) : Int)) 3 rfl (by congr 1; omega) ?_
    refine AW.skip ?_; refine AW.seq ?_
    refine AW.block ?_
    refine AW.draw (ps := []) rfl rfl ?_
    (iterate 6 refine ze hT zr zr zr zr zr ?_)
    refine WT.vidx hT hv1 zr zr zr zr zr zr zr zr zr (by omega) (fun b1 hb1 => ?_)
    refine WT.vldS hT 0 hv1 hb1 hy zr zr zr zr zr zr zr zr zr (fun ly hly => ?_)
    (iterate 2 refine ze hT zr zr zr zr zr ?_)
    refine WT.vidx hT hv1 zr zr zr zr zr zr zr zr zr (by omega) (fun b2 hb2 => ?_)
    refine WT.vldS hT 0 hv1 hb2 hx zr zr zr zr zr zr zr zr zr (fun lx hlx => ?_)
    refine WT.vidx hT hv1 zr zr zr zr zr zr zr zr zr (by omega) (fun b3 hb3 => ?_)
    refine WT.vst (y := y) hT 0 hv1 hb3 hx zr zr zr zr zr hly rfl (fun _ => rfl) rfl (fun B3 hB3 => ?_)
    refine WT.vidx hT hB3 zr zr zr zr zr zr zr zr zr (by omega) (fun b4 hb4 => ?_)
    refine WT.vst (y := x) hT 0 hB3 hb4 (z := y) (by rw [List.getElem?_set_ne (by omega)]; exact hy) zr zr zr zr zr hlx rfl (fun _ => rfl) rfl (fun B4 hB4 => ?_)
    refine WT.nil ?_; refine And.intro trivial ?_; refine AW.reg ?_; refine ze hT zr zr zr zr zr ?_; refine WT.add1 zr zr zr zr zr zr (by omega) ?_; refine ze hT zr zr zr zr zr ?_; refine WT.sub1 zr zr zr zr zr zr (by omega) ?_; (iterate 2 refine ze hT zr zr zr zr zr ?_); refine WT.nil ?_
    have hst := hr1.step (by omega) hx (by rw [← hml]; exact hy)
    rw [← hml] at hst
    refine ⟨⟨s.i + 1, ((m - 1 - s.i - 1 : Nat) : Int), (s.cur.set s.i y).set (m - 1 - s.i) x, B4⟩, by dsimp only; omega, SubK.of_map rfl, OwnLe.refl _, hB4, hst, by dsimp only; omega⟩
  · have h : ¬ (s.i : Int) < s.j := by simpa using h
    refine AW.exit ?_
    skip
    refine ⟨_, [_], rfl, (by repeat (first | exact List.Sublist.refl _ | refine List.Sublist.cons _ ?_)), _, rfl, ?_⟩
    rw [← hr1.done (by omega)]
    exact hv1


/-! ### mirrored -/
theorem bld_c {F G : Frz} {a : Option Addr} {m c : Nat} {B : List (Nat × Blk)} {zs : List (Nat × Value)} (hb : Bld tRuleC F a m c B zs) : Bld tRuleC G a m c B zs := by
  refine ⟨hb.len, hb.at_.imp id ?_⟩
  rintro ⟨i, cs, h1, h2, h3, h4, h5⟩
  refine ⟨i, cs, h1, h2, h3, ?_, h5⟩
  clear h3 hb
  induction h4 with
  | nil => exact .nil
  | cons h _ ih => exact .cons h ih

theorem vec_s {F G : Frz} {a : Option Addr} {m c : Nat} {B : List (Nat × Blk)} {l : List Sym} (h : Vec tSym F a m c B l) : Vec tSym G a m c B l :=
  ⟨h.len, h.cap, h.zero, h.nil, h.spot, h.el.imp id fun ⟨i, cs, h1, h2, h3, h4⟩ => ⟨i, cs, h1, h2, by rw [cells_flatS h3]; exact flatS_cells _, h4⟩⟩

theorem rights_c {F G : Frz} {xs : List (Nat × Value)} {bs : List (Nat × Blk)} {rs : List Rule} (h : Rights F xs bs rs) : Rights G xs bs rs := by
  induction h with
  | nil => exact .nil
  | cons h _ ih => exact .cons (vec_s h) ih

theorem perm_apart2 {α : Type} (x y : α) (b1 Br b2 l : List α) : (x :: y :: (b1 ++ (Br ++ (b2 ++ l)))).Perm (x :: y :: (Br ++ (b1 ++ (b2 ++ l)))) := by
  refine List.Perm.cons x (List.Perm.cons y ?_)
  have := (List.perm_append_comm (l₁ := b1) (l₂ := Br)).append_right (b2 ++ l)
  simpa [List.append_assoc] using this

theorem tab_vec {F : Frz} {io gm : Nat} {xs : List (Nat × Value)} (hl : gm = xs.length) (h1 : ∀ x ∈ xs, Go.Abs.one x.2 = true) : Vec tRuleC F (some ⟨io, 0, none⟩) gm 2 [(io, .cells false (flatR xs))] xs :=
  ⟨hl, .inr rfl, fun h => (by cases h), fun h => (by cases h), fun p hp => (by cases hp; rfl), .inr ⟨io, _, rfl, rfl, flatR_cells xs h1, by decide⟩⟩

theorem part_map {α : Type} (f : α → α) {l : List α} {j : Nat} {y : α} (h : l[j]? = some y) : ((l.take j).map f ++ l.drop j)[j]? = some y := by
  have hl := (List.getElem?_eq_some_iff.1 h).1
  rw [List.getElem?_append_right (by simp; omega)]
  simp only [List.length_map, List.length_take]
  rw [List.getElem?_drop, show j + (j - min j l.length) = j by omega]
  exact h

theorem part_map_set {α : Type} (f : α → α) {l : List α} {j : Nat} {y : α} (h : l[j]? = some y) : ((l.take j).map f ++ l.drop j).set j (f y) = (l.take (j + 1)).map f ++ l.drop (j + 1) := by
  have hl := (List.getElem?_eq_some_iff.1 h).1
  have hy := (List.getElem?_eq_some_iff.1 h).2
  rw [List.set_append_right _ _ (by simp; omega)]
  simp only [List.length_map, List.length_take]
  rw [show j - min j l.length = 0 by omega, List.drop_eq_getElem_cons hl, List.set_cons_zero, List.take_add_one, h]
  simp

theorem mirrored_spec (F : Frz) (g : Gram) {a : Option Addr} {m c : Nat} (hr : Arr tRule F a m c g.rules) (hm1 : 1 ≤ m) (hm : m ≤ 1000000) (hrr : ∀ r ∈ g.rules, r.right.length ≤ 1000000) :
    Abs.Spec CC 17 [.agg ⟨gramCells g a m c⟩] F [] fun F' v o => ∃ B', o = [B'] ∧ ∃ io xs bs, B' = [(io, .cells false (flatR xs))] ++ bs ∧ v = .agg ⟨gramCells g (some ⟨io, 0, none⟩) m 2⟩ ∧ xs.length = m ∧ Rights F' xs bs (mirG g).rules := by
  unfold gramCells
  have hrl := hr.len
  refine Abs.Spec.fn (n := 20) Tryd.func17 rfl rfl fun own => ?_
  refine AW.seq (AW.reg ?_)
  refine WT.boxT zr zr zr zr zr zr (fun i1 hi1 => ?_)
  refine WT.allocT hT zr zr zr zr zr zr (fun i2 hi2 => ?_)
  refine WT.nil ?_; refine AW.seq ?_; refine AW.reg ?_; refine zl hT 1 zr zr zr zr zr zr me zr ?_
  refine WT.callN Tryd.func30 zr zr zr zr zr zr (copyOwn_spec _ g hr hm hrr) (fun F2 v B2 hF2 hv2 => ?_)
  obtain ⟨B, bs, ca, cc, xs, rfl, rfl, hb, hR⟩ := hv2
  unfold gramCells
  have hblen := hb.len
  obtain ⟨io, cs, hia, hic, hiB, hcells, _⟩ := hb.at_.resolve_left (fun h => by rw [h.1] at hblen; simp at hblen; omega)
  have hcs := cells_flatR hcells
  have hic : cc = 2 := hic
  subst hia hic hiB hcs
  skip
  refine WT.allocT hT zr zr zr zr zr zr (fun i3 hi3 => ?_)
  refine zs hT 0 0 zr zr zr zr zr zr zr zr zr zr zr zr ?_; refine WT.nil ?_; (iterate 2 refine AW.seq ?_); refine AW.reg ?_; refine ze hT zr zr zr zr zr ?_; refine zl hT 0 zr zr zr zr zr zr me zr ?_; (iterate 2 refine ze hT zr zr zr zr zr ?_); refine WT.nil ?_
  refine AW.range (S := List (Nat × Blk)) (fun _ => []) (fun s => [(i3, .cells false [.int .i64 g.terms, .int .i64 g.nons, .int .i64 g.start, .slice (some ⟨io, 0, none⟩) m 2])] :: ([(io, .cells false (flatR xs))] ++ s) :: [(i2, .cells false [.int .i64 0, .int .i64 0, .int .i64 0, .slice none 0 0])] :: own)
    (fun i s G => Rights G xs s ((g.rules.take i).map mirRule ++ g.rules.drop i)) m bs
    zr zr zr zr zr zr zr zr zr (by omega) rfl rfl (fun _ => rfl) (fun _ => rfl) (SubK.of_map rfl) (OwnLe.cons _ (OwnLe.cons _ (OwnLe.cons _ (OwnLe.skip _ (OwnLe.refl _))))) (by simpa using hR) ?_ ?_
  · intro i s F3 hF3 hi hP
    obtain ⟨r, hri⟩ : ∃ r, g.rules[i]? = some r := ⟨_, List.getElem?_eq_getElem (by omega)⟩
    obtain ⟨ra, rn, rc, Br, b1, b2, hx, hbs, hvec, hput⟩ := Rights.split hP (part_map _ hri)
    have hrn := hrr r (List.mem_of_getElem? hri)
    have hvl := hvec.len
    have hxl := (List.getElem?_eq_some_iff.1 hx).1
    have htab : Vec tRuleC F3 (some ⟨io, 0, none⟩) m 2 [(io, .cells false (flatR xs))] xs := tab_vec hblen hP.one
    subst hbs
    refine AW.le (own2 := [(i3, .cells false [.int .i64 g.terms, .int .i64 g.nons, .int .i64 g.start, .slice (some ⟨io, 0, none⟩) m 2])] :: [(io, .cells false (flatR xs))] :: Br :: (b1 ++ b2) :: [(i2, .cells false [.int .i64 0, .int .i64 0, .int .i64 0, .slice none 0 0])] :: own) (OwnLe.flat ?_) ?_
    · simp only [List.flatten_cons, List.nil_append, List.append_assoc, List.cons_append]
      exact perm_apart2 _ _ _ _ _ _
    refine AW.seq ?_; refine AW.reg ?_
    refine WT.vidx hT htab zr zr zr zr zr zr zr zr zr (by omega) (fun bi hbi => ?_)
    refine WT.vldS hT 1 htab hbi hx zr zr zr zr zr zr zr zr zr (fun lx hlx => ?_)
    obtain ⟨rfl, _⟩ := hlx
    skip
    refine WT.allocT hT zr zr zr zr zr zr (fun i5 hi5 => ?_)
    refine zs hT 0 0 zr zr zr zr zr zr zr zr zr zr zr zr ?_; refine WT.nil ?_; refine AW.reg ?_; refine ze hT zr zr zr zr zr ?_; refine zl hT 0 zr zr zr zr zr zr me zr ?_
    refine WT.call1F 3 Tryd.func50 zr zr zr zr zr zr zr (fun _ => rfl) (symRev_spec _ hvec (by omega)) (fun F4 v Bn hF4 hv => ?_)
    refine WT.nil ?_
    have hnew := (hput Bn (mirRule r) (by have := vec_s (G := F3) hv; exact this)).mono hF4
    rw [part_map_set mirRule hri] at hnew
    have e : xs.set i ((mirRule r).left, .slice ra rn rc) = xs := by
      show xs.set i (r.left, .slice ra rn rc) = xs
      rw [← (List.getElem?_eq_some_iff.1 hx).2]
      exact List.set_getElem_self hxl
    rw [e] at hnew
    refine ⟨b1 ++ (Bn ++ b2), SubK.of_map rfl, OwnLe.trans (OwnLe.flat ?_) (OwnLe.skip _ (OwnLe.refl _)), hnew⟩
    simp only [List.flatten_cons, List.nil_append, List.append_assoc, List.cons_append]
    exact (perm_apart2 _ _ _ _ _ _).symm
  · intro s F3 hF3 hP
    rw [List.take_of_length_le (by omega), List.drop_of_length_le (by omega), List.append_nil] at hP
    refine AW.seq ?_; refine AW.reg ?_; refine zl hT 0 zr zr zr zr zr zr me zr ?_; refine zs hT 2 0 zr zr zr zr zr zr zr zr zr zr zr zr ?_; refine WT.nil ?_
    refine AW.le (own2 := [(i2, .cells false [.int .i64 g.terms, .int .i64 g.nons, .int .i64 g.start, .slice (some ⟨io, 0, none⟩) m 2])] :: ([(io, .cells false (flatR xs))] ++ s) :: own) (OwnLe.trans (OwnLe.flat ?_) (OwnLe.skip _ (OwnLe.refl _))) ?_
    · simp only [List.flatten_cons, List.nil_append, List.cons_append]
      have := List.perm_middle (a := (i2, Blk.cells false [.int .i64 g.terms, .int .i64 g.nons, .int .i64 g.start, .slice (some ⟨io, 0, none⟩) m 2])) (l₁ := (io, Blk.cells false (flatR xs)) :: s) (l₂ := own.flatten)
      simpa [List.append_assoc] using this
    refine AW.ret ⟨_, [_], ⟨_, _, ⟨_, rfl, fun G h0 s0 => loadA_cells (s0.has (p := 0) rfl (List.mem_cons_self ..)) (readT_ok hT rfl)⟩, rfl, rfl⟩, (by repeat (first | exact List.Sublist.refl _ | refine List.Sublist.cons _ ?_)), _, rfl, io, xs, s, rfl, rfl, by omega, hP⟩
end Go.Proofs.D

set_option linter.unusedVariables false
set_option maxRecDepth 20000
set_option maxHeartbeats 0
open Go Go.Abs Go.Proofs Go.Proofs.D
namespace Go.Proofs.D

/-! ### forests of mirrored grammars -/
def mirK (n : Nat) (k : Key) : Key := ⟨k.sym, n - k.to, n - k.frm⟩

theorem mirG_mirG (g : Gram) : mirG (mirG g) = g := by
  obtain ⟨t, n, s, rs⟩ := g
  unfold mirG
  congr 1
  show (rs.map mirRule).map mirRule = rs
  rw [List.map_map]
  conv => rhs; rw [← List.map_id rs]
  refine List.map_congr_left fun r _ => ?_
  obtain ⟨a, b⟩ := r
  show (⟨a, b.reverse.reverse⟩ : Rule) = ⟨a, b⟩
  rw [List.reverse_reverse]

theorem der_mir {g : Gram} {w : List Nat} {s : Sym} {i j : Nat} (hj : j ≤ w.length) (h : Der g w s i j) : Der (mirG g) w.reverse s (w.length - j) (w.length - i) := by
  have hij := der_le h
  obtain ⟨d, hd⟩ := der_symT h
  rw [← symT_mir g w d s i j hij hj] at hd
  exact symT_der hd

/-- Keys that follow each other, each of which is derived. -/
inductive ChainD (g : Gram) (w : List Nat) (to : Nat) : List Sym → Nat → List Key → Prop
  | nil : ChainD g w to [] to []
  | cons {s : Sym} {l : List Sym} {i m : Nat} {ks : List Key} : Der g w s i m → ChainD g w to l m ks → ChainD g w to (s :: l) i (⟨s, i, m⟩ :: ks)

theorem ChainD.le {g : Gram} {w : List Nat} {to : Nat} {l : List Sym} {i : Nat} {ks : List Key} (h : ChainD g w to l i ks) : i ≤ to := by
  induction h with
  | nil => exact Nat.le_refl _
  | cons h1 _ ih => have := der_le h1; omega

theorem ChainD.snoc {g : Gram} {w : List Nat} {m to : Nat} {s : Sym} (hs : Der g w s m to) {l : List Sym} {i : Nat} {ks : List Key} (h : ChainD g w m l i ks) : ChainD g w to (l ++ [s]) i (ks ++ [⟨s, m, to⟩]) := by
  induction h with
  | nil => exact .cons hs .nil
  | cons h1 _ ih => exact .cons h1 ih

theorem ChainD.mir {g : Gram} {w : List Nat} {to : Nat} (hto : to ≤ w.length) {l : List Sym} {i : Nat} {ks : List Key} (h : ChainD g w to l i ks) : ChainD (mirG g) w.reverse (w.length - i) l.reverse (w.length - to) (ks.reverse.map (mirK w.length)) := by
  induction h with
  | nil => exact .nil
  | cons h1 h2 ih =>
    rw [List.reverse_cons, List.reverse_cons, List.map_append]
    exact ChainD.snoc (der_mir (by have := h2.le; omega) h1) ih

theorem splits_iff {g : Gram} {w : List Nat} {E : List (List Nat)} (hE : EndsOf g w E) {to : Nat} (hto : to ≤ w.length) : ∀ {l : List Sym} {i : Nat} {ks : List Key}, i ≤ w.length → (ks ∈ splits w E to l i ↔ ChainD g w to l i ks)
  | [], i, ks, hi => by
    unfold splits
    constructor
    · intro h
      split at h
      · rename_i e
        subst e
        rw [List.mem_singleton.1 h]; exact .nil
      · cases h
    · intro h
      cases h
      rw [if_pos rfl]; exact List.mem_singleton.2 rfl
  | s :: l, i, ks, hi => by
    unfold splits
    rw [List.mem_flatMap]
    constructor
    · rintro ⟨m, hm, h⟩
      have hm := List.mem_range.1 hm
      split at h
      · rename_i hs
        obtain ⟨ks', h2, rfl⟩ := List.mem_map.1 h
        exact .cons ((step_der hE hi).1 hs) ((splits_iff hE hto (by omega)).1 h2)
      · cases h
    · intro h
      cases h with
      | @cons _ _ _ m ks' h1 h2 =>
        have hm := h2.le
        refine ⟨m, List.mem_range.2 (by omega), ?_⟩
        rw [if_pos ((step_der hE hi).2 h1)]
        exact List.mem_map.2 ⟨ks', (splits_iff hE hto (by omega)).2 h2, rfl⟩

section
variable {g : Gram} {w : List Nat} {E E' : List (List Nat)}

theorem rules_mir {g : Gram} {i : Nat} {r : Rule} (h : g.rules[i]? = some r) : (mirG g).rules[i]? = some (mirRule r) := by
  show (g.rules.map mirRule)[i]? = _
  rw [List.getElem?_map, h]; rfl

theorem pack_mir (hE : EndsOf g w E) (hE' : EndsOf (mirG g) w.reverse E') {k : Key} (hf : k.frm ≤ w.length) (ht : k.to ≤ w.length) {p : KPack} (h : p ∈ packsOf g w E k) : (⟨p.rule, p.kids.reverse.map (mirK w.length)⟩ : KPack) ∈ packsOf (mirG g) w.reverse E' (mirK w.length k) := by
  obtain ⟨r, h1, h2, h3, h4⟩ := mem_packsOf.1 h
  refine mem_packsOf.2 ⟨mirRule r, rules_mir h1, h2, h3, ?_⟩
  have h5 := ((splits_iff hE ht hf).1 h4).mir ht
  exact (splits_iff hE' (by rw [List.length_reverse]; exact Nat.sub_le _ _) (by rw [List.length_reverse]; exact Nat.sub_le _ _)).2 h5

theorem reach_mir (hg : Valid g) (hE : EndsOf g w E) (hE' : EndsOf (mirG g) w.reverse E') {k : Key} (h : Reachable g w E (rootKey g w) k) : Reachable (mirG g) w.reverse E' (rootKey (mirG g) w.reverse) (mirK w.length k) := by
  induction h with
  | root =>
    have e : mirK w.length (rootKey g w) = rootKey (mirG g) w.reverse := by
      unfold mirK rootKey
      simp only [Nat.sub_self, Nat.sub_zero, List.length_reverse]
      rfl
    rw [e]; exact .root
  | kid h1 h2 h3 ih =>
    have hgood := h1.good hg (root_good hg w)
    exact .kid ih (pack_mir hE hE' hgood.2.1 hgood.2.2 h2) (List.mem_map.2 ⟨_, List.mem_reverse.2 h3, rfl⟩)

theorem mirK_mirK {n : Nat} {k : Key} (h1 : k.frm ≤ n) (h2 : k.to ≤ n) : mirK n (mirK n k) = k := by
  obtain ⟨s, f, t⟩ := k
  have h1 : f ≤ n := h1
  have h2 : t ≤ n := h2
  unfold mirK
  simp only
  rw [show n - (n - f) = f by omega, show n - (n - t) = t by omega]

open Classical in
noncomputable def derN (g : Gram) (w : List Nat) (s : Sym) (i j : Nat) : Nat := if Der g w s i j then 1 else 0

theorem derN_lt {s : Sym} {i m : Nat} (h : m < i) : derN g w s i m = 0 := by
  unfold derN
  rw [if_neg fun hd => by have := der_le hd; omega]

theorem prodN_ones {l : List Nat} (h : ∀ x ∈ l, x = 1) : prodN l = 1 := by
  induction l with
  | nil => rfl
  | cons a l ih => rw [prodN, h a (List.mem_cons_self ..), ih fun x hx => h x (List.mem_cons_of_mem _ hx)]

theorem sum_ones {α : Type} {f : α → Nat} : ∀ {l : List α}, (∀ x ∈ l, f x = 1) → (l.map f).sum = l.length
  | [], _ => rfl
  | a :: l, h => by rw [List.map_cons, List.sum_cons, h a (List.mem_cons_self ..), sum_ones fun x hx => h x (List.mem_cons_of_mem _ hx), List.length_cons]; omega

/-- How many packs a key has. -/
theorem packs_count (hE : EndsOf g w E) {k : Key} (hk : k.sym.term = false) (hf : k.frm ≤ w.length) (ht : k.to ≤ w.length) : (packsOf g w E k).length = (g.rules.map fun r => if r.left = k.sym.n then listT (derN g w) r.right k.frm k.to else 0).sum := by
  rw [← packs_sum (E := E) hk (f := derN g w) (fun s i m hs hi _ => ?_) hf ht, sum_ones fun p hp => ?_]
  · refine prodN_ones fun x hx => ?_
    obtain ⟨q, hq, rfl⟩ := List.mem_map.1 hx
    obtain ⟨r, _, _, _, h4⟩ := mem_packsOf.1 hp
    have h5 : stepB w E q.sym q.frm q.to = true := splits_step h4 q hq
    have h6 := (splits_mem h4 hf ht q hq).2.1
    unfold derN
    rw [if_pos ((step_der hE h6).1 h5)]
  · unfold derN
    rw [if_neg fun hd => by have := (step_der hE hi).2 hd; rw [hs] at this; cases this]

theorem packs_mir (hE : EndsOf g w E) (hE' : EndsOf (mirG g) w.reverse E') {k : Key} (hft : k.frm ≤ k.to) (ht : k.to ≤ w.length) : (packsOf (mirG g) w.reverse E' (mirK w.length k)).length = (packsOf g w E k).length := by
  cases hk : k.sym.term with
  | true => rw [packsOf_term hk, packsOf_term (show (mirK w.length k).sym.term = true from hk)]
  | false =>
    rw [packs_count hE hk (by omega) ht, packs_count hE' (show (mirK w.length k).sym.term = false from hk) (by rw [List.length_reverse]; exact Nat.sub_le _ _) (by rw [List.length_reverse]; exact Nat.sub_le _ _)]
    show ((g.rules.map mirRule).map _).sum = _
    rw [List.map_map]
    refine sum_congr fun r hr => ?_
    show (if r.left = k.sym.n then listT (derN (mirG g) w.reverse) r.right.reverse (w.length - k.to) (w.length - k.frm) else 0) = _
    split
    · refine listT_mir (fun s i m hm => derN_lt hm) (fun s i m hm => derN_lt hm) r.right (fun s _ i j hij hj => ?_) k.frm k.to hft ht
      unfold derN
      by_cases hd : Der g w s i j
      · rw [if_pos hd, if_pos (der_mir hj hd)]
      · rw [if_neg hd, if_neg fun hd' => hd ?_]
        have := der_mir (by rw [List.length_reverse]; exact Nat.sub_le _ _) hd'
        rw [mirG_mirG, List.reverse_reverse, List.length_reverse, show w.length - (w.length - i) = i by omega, show w.length - (w.length - j) = j by omega] at this
        exact this
    · rfl

theorem reach_le (hg : Valid g) (hE : EndsOf g w E) (hroot : stepB w E ⟨false, g.start⟩ 0 w.length = true) {k : Key} (h : Reachable g w E (rootKey g w) k) : k.frm ≤ k.to ∧ k.to ≤ w.length := by
  have hgood := h.good hg (root_good hg w)
  have hst : StepK w E k := h.step hroot
  exact ⟨der_le ((step_der hE hgood.2.1).1 hst), hgood.2.2⟩

theorem root_mir (hE : EndsOf g w E) (hE' : EndsOf (mirG g) w.reverse E') (h : stepB w E ⟨false, g.start⟩ 0 w.length = true) : stepB w.reverse E' ⟨false, (mirG g).start⟩ 0 w.reverse.length = true := by
  have := der_mir (Nat.le_refl _) ((step_der hE (Nat.zero_le _)).1 h)
  rw [Nat.sub_self, Nat.sub_zero] at this
  rw [List.length_reverse]
  exact (step_der hE' (Nat.zero_le _)).2 this

theorem root_mir_iff (hE : EndsOf g w E) (hE' : EndsOf (mirG g) w.reverse E') : stepB w E ⟨false, g.start⟩ 0 w.length = stepB w.reverse E' ⟨false, (mirG g).start⟩ 0 w.reverse.length := by
  rw [Bool.eq_iff_iff]
  refine ⟨root_mir hE hE', fun h => ?_⟩
  have hE2 : EndsOf (mirG (mirG g)) w.reverse.reverse E := by rw [mirG_mirG, List.reverse_reverse]; exact hE
  have := root_mir (g := mirG g) (w := w.reverse) hE' hE2 h
  rw [mirG_mirG, List.reverse_reverse] at this
  exact this

theorem keys_mir (hg : Valid g) (hE : EndsOf g w E) (hE' : EndsOf (mirG g) w.reverse E') {S S' : List Key} (hS : Keys g w E (rootKey g w) S) (hS' : Keys (mirG g) w.reverse E' (rootKey (mirG g) w.reverse) S') : (S.map (mirK w.length)).Perm S' := by
  have hgood : ∀ k ∈ S, k.frm ≤ w.length ∧ k.to ≤ w.length := fun k hk => ((hS.reach k hk).good hg (root_good hg w)).2
  rw [List.perm_ext_iff_of_nodup ?_ hS'.nodup]
  · intro k
    constructor
    · intro h
      obtain ⟨k0, h0, rfl⟩ := List.mem_map.1 h
      exact hS'.all (reach_mir hg hE hE' (hS.reach k0 h0))
    · intro h
      have h1 := hS'.reach k h
      have hgm := mir_valid hg
      have hgood' := (h1.good hgm (root_good hgm w.reverse)).2
      have hE2 : EndsOf (mirG (mirG g)) w.reverse.reverse E := by rw [mirG_mirG, List.reverse_reverse]; exact hE
      have h2 := reach_mir (g := mirG g) (w := w.reverse) hgm hE' hE2 h1
      rw [mirG_mirG, List.reverse_reverse, List.length_reverse] at h2
      rw [List.length_reverse] at hgood'
      exact List.mem_map.2 ⟨mirK w.length k, hS.all h2, mirK_mirK hgood'.1 hgood'.2⟩
  · rw [List.nodup_iff_pairwise_ne, List.pairwise_map]
    refine (List.nodup_iff_pairwise_ne.1 hS.nodup).imp_of_mem ?_
    intro a b ha hb hne he
    apply hne
    have := congrArg (mirK w.length) he
    rw [mirK_mirK (hgood a ha).1 (hgood a ha).2, mirK_mirK (hgood b hb).1 (hgood b hb).2] at this
    exact this

theorem packSum_mir (hg : Valid g) (hE : EndsOf g w E) (hE' : EndsOf (mirG g) w.reverse E') (hroot : stepB w E ⟨false, g.start⟩ 0 w.length = true) {L : List Key} (hL : ∀ k ∈ L, Reachable g w E (rootKey g w) k) : packSum (mirG g) w.reverse E' (L.map (mirK w.length)) = packSum g w E L := by
  unfold packSum
  rw [List.map_map]
  refine sum_congr fun k hk => ?_
  obtain ⟨h1, h2⟩ := reach_le hg hE hroot (hL k hk)
  exact packs_mir hE hE' h1 h2

theorem big_mir (hg : Valid g) (hE : EndsOf g w E) (hE' : EndsOf (mirG g) w.reverse E') (hroot : stepB w E ⟨false, g.start⟩ 0 w.length = true) {S L : List Key} (hK : Keys (mirG g) w.reverse E' (rootKey (mirG g) w.reverse) S) (h1 : packSum (mirG g) w.reverse E' S ≤ 20000) (h2 : L.Nodup) (h3 : ∀ k ∈ L, Reachable g w E (rootKey g w) k) (h4 : 20000 < packSum g w E L) : False := by
  have e := packSum_mir hg hE hE' hroot h3
  have hn : (L.map (mirK w.length)).Nodup := by
    rw [List.nodup_iff_pairwise_ne, List.pairwise_map]
    refine (List.nodup_iff_pairwise_ne.1 h2).imp_of_mem ?_
    intro a b ha hb hne he
    apply hne
    obtain ⟨_, ha⟩ := (h3 a ha).good hg (root_good hg w)
    obtain ⟨_, hb⟩ := (h3 b hb).good hg (root_good hg w)
    have := congrArg (mirK w.length) he
    rw [mirK_mirK ha.1 ha.2, mirK_mirK hb.1 hb.2] at this
    exact this
  have : packSum (mirG g) w.reverse E' (L.map (mirK w.length)) ≤ packSum (mirG g) w.reverse E' S := sum_sub _ _ S hn fun x hx => by
    obtain ⟨k, hk, rfl⟩ := List.mem_map.1 hx
    exact hK.all (reach_mir hg hE hE' (h3 k hk))
  omega

theorem makeRes_mir (hg : Valid g) (hw12 : w.length ≤ 12) (hE : EndsOf g w E) (hE' : EndsOf (mirG g) w.reverse E') {F F' : Frz} {a a' : Option Addr} {n n' c c' : Nat} {r r' e e' : Int} (h : MakeRes g w E F (.tuple ⟨[.agg ⟨[.slice a n c, .int .i64 r]⟩, .int .i64 e]⟩)) (h' : MakeRes (mirG g) w.reverse E' F' (.tuple ⟨[.agg ⟨[.slice a' n' c', .int .i64 r']⟩, .int .i64 e']⟩)) :
    n' = n ∧ e' = e ∧ (e = 0 ∨ e = 2) ∧ n ≤ 1000000 ∧ ∃ Ns Ns', Arr tNode F a n c Ns ∧ Arr tNode F' a' n c' Ns' ∧ (Ns.map fun x => x.packs.length).sum = (Ns'.map fun x => x.packs.length).sum ∧ (Ns.map fun x => x.packs.length).sum ≤ 20000 ∧
      ∀ x ∈ Ns, x.key.frm ≤ w.length ∧ x.key.to ≤ w.length ∧ ∃ y ∈ Ns', y.key = mirK w.length x.key ∧ y.packs.length = x.packs.length := by
  have hgm := mir_valid hg
  have hE2 : EndsOf (mirG (mirG g)) w.reverse.reverse E := by rw [mirG_mirG, List.reverse_reverse]; exact hE
  have none_ : ∃ Ns Ns', Arr tNode F none 0 0 Ns ∧ Arr tNode F' none 0 0 Ns' ∧ (Ns.map fun x : Node => x.packs.length).sum = (Ns'.map fun x : Node => x.packs.length).sum ∧ (Ns.map fun x : Node => x.packs.length).sum ≤ 20000 ∧
      ∀ x ∈ Ns, x.key.frm ≤ w.length ∧ x.key.to ≤ w.length ∧ ∃ y ∈ Ns', y.key = mirK w.length x.key ∧ y.packs.length = x.packs.length :=
    ⟨[], [], Arr.nil_ _ _, Arr.nil_ _ _, rfl, Nat.zero_le _, fun x hx => (by cases hx)⟩
  have hri := root_mir_iff hE hE'
  rcases makeRes_cases h with ⟨he, h1⟩ | ⟨he, ha, hn, hc, hr, hst, L, hL1, hL2, hL3⟩
  · rcases makeRes_cases h' with ⟨he', h1'⟩ | ⟨he', ha', hn', hc', hr', hst', L, hL1, hL2, hL3⟩
    · rcases h1 with ⟨h2, ha, hn, hc, hr⟩ | ⟨h2, S, hr, hK, hA, hS⟩
      · rcases h1' with ⟨h2', ha', hn', hc', hr'⟩ | ⟨h2', _⟩
        · subst ha hn hc hr ha' hn' hc' hr'
          exact ⟨rfl, by rw [he, he'], .inl he, by omega, none_⟩
        · rw [h2] at hri; rw [← hri] at h2'; cases h2'
      · rcases h1' with ⟨h2', _⟩ | ⟨h2', S', hr', hK', hA', hS'⟩
        · rw [h2] at hri; rw [← hri] at h2'; cases h2'
        · have hp := keys_mir hg hE hE' hK hK'
          have hlen : S'.length = S.length := by rw [← hp.length_eq, List.length_map]
          have hnn : n' = n := by rw [hA.len, hA'.len, List.length_map, List.length_map, hlen]
          subst hnn
          have hok := nodes_ok hg hw12 hK (root_good hg w)
          have hsum : packSum (mirG g) w.reverse E' S' = packSum g w E S := by
            rw [← packSum_mir hg hE hE' h2 hK.reach]
            unfold packSum
            exact ((hp.map fun k => (packsOf (mirG g) w.reverse E' k).length).sum_nat).symm
          have e1 : ((S.map (mkNode g w E S)).map fun x => x.packs.length).sum = packSum g w E S := by
            rw [List.map_map]
            exact sum_congr fun k _ => by simp [mkNode]
          have e2 : ((S'.map (mkNode (mirG g) w.reverse E' S')).map fun x => x.packs.length).sum = packSum (mirG g) w.reverse E' S' := by
            rw [List.map_map]
            exact sum_congr fun k _ => by simp [mkNode]
          refine ⟨rfl, by rw [he, he'], .inl he, by have := hok.few; rw [← hA.len] at this; exact this, _, _, hA, hA', by rw [e1, e2, hsum], by rw [e1]; exact hS, fun x hx => ?_⟩
          obtain ⟨k, hk, rfl⟩ := List.mem_map.1 hx
          obtain ⟨h3, h4⟩ := reach_le hg hE h2 (hK.reach k hk)
          refine ⟨by show k.frm ≤ _; omega, h4, _, List.mem_map.2 ⟨mirK w.length k, hp.mem_iff.1 (List.mem_map.2 ⟨k, hk, rfl⟩), rfl⟩, rfl, ?_⟩
          show ((packsOf _ _ _ _).map _).length = ((packsOf _ _ _ _).map _).length
          rw [List.length_map, List.length_map]
          exact packs_mir hE hE' h3 h4
    · exfalso
      rcases h1 with ⟨h2, _⟩ | ⟨h2, S, hr, hK, hA, hS⟩
      · rw [h2] at hri; rw [← hri] at hst'; cases hst'
      · have hK2 : Keys (mirG (mirG g)) w.reverse.reverse E (rootKey (mirG (mirG g)) w.reverse.reverse) S := by rw [mirG_mirG, List.reverse_reverse]; exact hK
        exact big_mir hgm hE' hE2 hst' hK2 (by rw [mirG_mirG, List.reverse_reverse]; exact hS) hL1 hL2 hL3
  · rcases makeRes_cases h' with ⟨he', h1'⟩ | ⟨he', ha', hn', hc', hr', _⟩
    · exfalso
      rcases h1' with ⟨h2, _⟩ | ⟨h2, S, hr, hK, hA, hS⟩
      · rw [← hri] at h2; rw [hst] at h2; cases h2
      · exact big_mir hg hE hE' hst hK hS hL1 hL2 hL3
    · subst ha hn hc hr ha' hn' hc' hr'
      exact ⟨rfl, by rw [he, he'], .inr he, by omega, none_⟩
end
end Go.Proofs.D

set_option linter.unusedVariables false
set_option maxRecDepth 20000
set_option maxHeartbeats 0
open Go Go.Abs Go.Proofs Go.Proofs.D
namespace Go.Proofs.D

theorem sum_take_le {α : Type} (f : α → Nat) (l : List α) (j : Nat) : ((l.take j).map f).sum ≤ (l.map f).sum := by
  conv => rhs; rw [← List.take_append_drop j l]
  rw [List.map_append, List.sum_append]
  exact Nat.le_add_right _ _

theorem mpacks_spec (F : Frz) {a : Option Addr} {n c : Nat} {r : Int} {Ns : List Node} (hN : Arr tNode F a n c Ns) (hn : n ≤ 1000000) (hs : (Ns.map fun x => x.packs.length).sum ≤ 20000) :
    Abs.Spec CC 19 [.agg ⟨[.slice a n c, .int .i64 r]⟩] F [] fun _ v o => o = [] ∧ v = .int .i64 ((Ns.map fun x => x.packs.length).sum : Nat) := by
  have hnl := hN.len
  refine Abs.Spec.fn (n := 20) Tryd.func19 rfl rfl fun own => ?_
  refine AW.seq (AW.reg ?_)
  refine WT.boxT zr zr zr zr zr zr (fun i1 hi1 => ?_)
  refine ze hT zr zr zr zr zr ?_; refine WT.nil ?_; refine AW.seq ?_; refine AW.reg ?_; refine ze hT zr zr zr zr zr ?_; refine WT.nil ?_; (iterate 2 refine AW.seq ?_); refine AW.reg ?_; refine ze hT zr zr zr zr zr ?_; refine zl hT 0 zr zr zr zr zr zr me zr ?_; (iterate 2 refine ze hT zr zr zr zr zr ?_); refine WT.nil ?_
  refine AW.range (S := Nat) (fun s => [(3, .int .i64 (s : Nat))]) (fun _ => _) (fun j s G => s = ((Ns.take j).map fun x => x.packs.length).sum) n 0
    zr zr zr zr zr zr zr zr zr (by omega) rfl rfl (fun _ => rfl) (fun _ => rfl) (SubK.of_map rfl) (OwnLe.refl _) (by simp) ?_ ?_
  · intro j s F1 hF1 hj hs1
    have hs1 : s = ((Ns.take j).map fun x => x.packs.length).sum := hs1
    have hle := sum_take_le (fun x : Node => x.packs.length) Ns (j + 1)
    refine AW.seq ?_; refine AW.reg ?_
    refine WT.idxL hT (hN.mono hF1) zr zr zr zr zr zr zr zr zr (by omega) (fun x hxj b8 off8 ro8 cs8 lx8 hb8 hp8 hrel8 => ?_)
    obtain ⟨xa, xn, xc, rfl, hxa⟩ := hrel8
    have hxl := hxa.len
    have e : ((Ns.take (j + 1)).map fun x => x.packs.length).sum = s + xn := by
      rw [List.take_add_one, hxj, List.map_append, List.sum_append, ← hs1]
      simp [hxl]
    rw [e] at hle
    refine zi (fo := 0) hT (by assumption) (by assumption) zr zr zr zr zr zr ?_
    refine WT.allocT hT zr zr zr zr zr zr (fun i5 hi5 => ?_)
    refine zs hT 0 0 zr zr zr zr zr zr zr zr zr zr zr zr ?_; refine WT.nil ?_; refine AW.reg ?_; (iterate 2 refine ze hT zr zr zr zr zr ?_); refine zl hT 0 zr zr zr zr zr zr me zr ?_; refine ze hT zr zr zr zr zr ?_; refine WT.addN zr zr zr zr zr zr (by omega) ?_; refine ze hT zr zr zr zr zr ?_; refine WT.nil ?_
    exact ⟨s + xn, SubK.of_map rfl, OwnLe.skip _ (OwnLe.refl _), e.symm⟩
  · intro s F1 hF1 hs1
    have hs1 : s = ((Ns.take n).map fun x => x.packs.length).sum := hs1
    rw [List.take_of_length_le (by omega)] at hs1
    refine AW.seq ?_; refine AW.reg ?_; (iterate 2 refine ze hT zr zr zr zr zr ?_); refine WT.nil ?_
    refine AW.ret ⟨_, [], ⟨_, _, rfl, rfl, rfl⟩, (by repeat (first | exact List.Sublist.refl _ | refine List.Sublist.cons _ ?_)), rfl, ?_⟩
    rw [← hs1]; rfl

/-- The mirrored place, with as many packs. -/
def mirP (n : Nat) (x m : Node) : Bool := ((m.key.sym.term == x.key.sym.term) && (((m.key.sym.n : Int) == (x.key.sym.n : Int)) && true)) && (((m.key.frm : Int) == (n : Int) - (x.key.to : Int)) && (((m.key.to : Int) == (n : Int) - (x.key.frm : Int)) && ((m.packs.length : Int) == (x.packs.length : Int))))

theorem mirP_spec (F : Frz) {i i3 : Nat} {n d : Nat} {b : Option Addr} {x y : Node} {xa ya : Option Addr} {xn xc yn yc : Nat} (hi : F i = some (.cells false [.bool x.key.sym.term, .int .i64 x.key.sym.n, .int .i64 x.key.frm, .int .i64 x.key.to, .slice xa xn xc])) (h3 : F i3 = some (.cells false [.slice b n d])) (hxn : xn = x.packs.length) (hyn : yn = y.packs.length)
    (hn : n ≤ 1000) (hf : x.key.frm ≤ n) (ht : x.key.to ≤ n) :
    Abs.Spec CC 21 [.agg ⟨[.bool y.key.sym.term, .int .i64 y.key.sym.n, .int .i64 y.key.frm, .int .i64 y.key.to, .slice ya yn yc]⟩, .pointer (some ⟨i, 0, none⟩), .pointer (some ⟨i3, 0, none⟩)] F [] fun _ v o => o = [] ∧ v = .bool (mirP n x y) := by
  subst hxn
  subst hyn
  refine Abs.Spec.fn (n := 39) Tryd.func21 rfl rfl fun own => ?_
  refine AW.seq (AW.reg ?_)
  refine WT.boxT zr zr zr zr zr zr (fun i2 hi2 => ?_)
  refine ze hT zr zr zr zr zr ?_; refine WT.nil ?_; refine AW.seq ?_; refine AW.reg ?_; refine ze hT zr zr zr zr zr ?_; refine zl hT 0 zr zr zr zr zr zr me zr ?_; refine ze hT zr zr zr zr zr ?_; refine zf hT (by assumption) zr zr zr zr zr zr ?_; refine zq hT zr zr zr zr zr zr zr ?_; refine ze hT zr zr zr zr zr ?_
  refine WT.split 10 rfl (fun h1 => ?_) (fun h1 => ?_)
  · refine ze hT zr zr zr zr zr ?_; refine zl hT 0 zr zr zr zr zr zr me zr ?_; refine zf hT (by assumption) zr zr zr zr zr zr ?_; (iterate 2 refine ze hT zr zr zr zr zr ?_); refine zf hT (by assumption) zr zr zr zr zr zr ?_; refine zb zr zr zr zr zr zr (by omega) ?_; (iterate 3 refine ze hT zr zr zr zr zr ?_)
    refine WT.split 20 rfl (fun h2 => ?_) (fun h2 => ?_)
    · refine ze hT zr zr zr zr zr ?_; refine zl hT 0 zr zr zr zr zr zr me zr ?_; refine zf hT (by assumption) zr zr zr zr zr zr ?_; (iterate 2 refine ze hT zr zr zr zr zr ?_); refine zf hT (by assumption) zr zr zr zr zr zr ?_; refine zb zr zr zr zr zr zr (by omega) ?_; (iterate 3 refine ze hT zr zr zr zr zr ?_)
      refine WT.split 30 rfl (fun h3 => ?_) (fun h3 => ?_)
      · refine ze hT zr zr zr zr zr ?_; refine zl hT 0 zr zr zr zr zr zr me zr ?_; (iterate 2 refine ze hT zr zr zr zr zr ?_); refine zf hT (by assumption) zr zr zr zr zr zr ?_; (iterate 4 refine ze hT zr zr zr zr zr ?_); refine WT.nil ?_
        refine AW.ret ⟨_, [], ⟨_, _, rfl, rfl, rfl⟩, (by repeat (first | exact List.Sublist.refl _ | refine List.Sublist.cons _ ?_)), rfl, ?_⟩
        unfold mirP
        rw [h1, h2, h3]; rfl
      · (iterate 7 refine zx zr zr zr zr ?_); (iterate 2 refine ze hT zr zr zr zr zr ?_); refine WT.nil ?_
        refine AW.ret ⟨_, [], ⟨_, _, rfl, rfl, rfl⟩, (by repeat (first | exact List.Sublist.refl _ | refine List.Sublist.cons _ ?_)), rfl, ?_⟩
        unfold mirP
        rw [h1, h2, h3]; rfl
    · (iterate 8 refine zx zr zr zr zr ?_); (iterate 2 refine ze hT zr zr zr zr zr ?_); (iterate 7 refine zx zr zr zr zr ?_); (iterate 2 refine ze hT zr zr zr zr zr ?_); refine WT.nil ?_
      refine AW.ret ⟨_, [], ⟨_, _, rfl, rfl, rfl⟩, (by repeat (first | exact List.Sublist.refl _ | refine List.Sublist.cons _ ?_)), rfl, ?_⟩
      unfold mirP
      rw [h1, h2]; rfl
  · (iterate 8 refine zx zr zr zr zr ?_); (iterate 2 refine ze hT zr zr zr zr zr ?_); (iterate 8 refine zx zr zr zr zr ?_); (iterate 2 refine ze hT zr zr zr zr zr ?_); (iterate 7 refine zx zr zr zr zr ?_); (iterate 2 refine ze hT zr zr zr zr zr ?_); refine WT.nil ?_
    refine AW.ret ⟨_, [], ⟨_, _, rfl, rfl, rfl⟩, (by repeat (first | exact List.Sublist.refl _ | refine List.Sublist.cons _ ?_)), rfl, ?_⟩
    unfold mirP
    rw [h1]; rfl

theorem forestMirrored_law (F : Frz) (hL : Laid F) {a b : Option Addr} {m n c d : Nat} {l w0 : List Int} (hl : Arr tInt F a m c l) (hw0 : Arr tInt F b n d w0) (hm : n ≤ 9223372036854775807) :
    Abs.Spec CC 3 [.slice a m c, .slice b n d] F [] fun _ v o => o = [] ∧ v = .bool true := by
  refine Abs.Spec.fn (n := 75) Tryd.func3 rfl rfl fun own => ?_
  refine AW.seq (AW.reg ?_)
  refine WT.boxT zr zr zr zr zr zr (fun i3 hi3 => ?_)
  refine ze hT zr zr zr zr zr ?_; refine WT.nil ?_; refine AW.seq ?_; refine AW.reg ?_; refine ze hT zr zr zr zr zr ?_; refine zl hT 0 zr zr zr zr zr zr me zr ?_
  refine WT.callF0 Tryd.func13 zr zr zr zr zr zr (made_spec _ hl hw0 hm 6 (by decide)) (fun F1 v hF1 hv => ?_)
  obtain ⟨g, ga, gm, gc, wa, wn, wc, w, rfl, hg, hr, hw, hw1, hw2⟩ := hv
  have hL1 := hL.mono hF1
  have hwlen := hw.len
  subst hwlen
  have hgl := hr.len
  have hgr := hg.rules
  have hgn := hg.nons
  have hgs := hg.start
  have hv := hg.valid
  unfold gramCells
  (iterate 3 refine ze hT zr zr zr zr zr ?_)
  refine WT.allocT hT zr zr zr zr zr zr (fun i5 hi5 => ?_)
  refine zs hT 0 0 zr zr zr zr zr zr zr zr zr zr zr zr ?_; refine zs hT 1 0 zr zr zr zr zr zr zr zr zr zr zr zr ?_; refine WT.nil ?_; refine AW.seq ?_; refine AW.reg ?_; refine zl hT 1 zr zr zr zr zr zr me zr ?_
  refine WT.callN Tryd.func14 zr zr zr zr zr zr (numClone_spec _ hw (by omega)) (fun F2 v B2 hF2 hv2 => ?_)
  obtain ⟨ca, cc, rfl, hcv⟩ := hv2
  refine ze hT zr zr zr zr zr ?_; refine WT.nil ?_; refine AW.seq ?_; refine AW.reg ?_; refine ze hT zr zr zr zr zr ?_
  refine WT.call1F 0 Tryd.func15 zr zr zr zr zr zr zr (fun _ => rfl) (numRev_spec _ hcv (by omega)) (fun F3 v B3 hF3 hv3 => ?_)
  refine WT.nil ?_; refine AW.seq ?_; refine AW.reg ?_; refine zl hT 1 zr zr zr zr zr zr me zr ?_; refine zl hT 2 zr zr zr zr zr zr me zr ?_
  have hF13 := hF2.trans hF3
  have hL3 := hL1.mono hF13
  refine WT.callF0 Tryd.func16 zr zr zr zr zr zr (forestOf_spec _ hL3 g hv (hr.mono hF13) (hw.mono hF13) (by omega) hw2) (fun F5 v hF5 hv5 => ?_)
  obtain ⟨E, hE, hv5⟩ := hv5
  obtain ⟨fa, fn, fc, fr, fe, rfl⟩ := makeRes_form hv5
  (iterate 3 refine ze hT zr zr zr zr zr ?_)
  refine WT.allocT hT zr zr zr zr zr zr (fun i7 hi7 => ?_)
  refine zs hT 0 0 zr zr zr zr zr zr zr zr zr zr zr zr ?_; refine ze hT zr zr zr zr zr ?_; refine WT.nil ?_; refine AW.seq ?_; refine AW.reg ?_; refine zl hT 2 zr zr zr zr zr zr me zr ?_
  refine WT.callN Tryd.func17 zr zr zr zr zr zr (mirrored_spec _ g ((hr.mono hF13).mono hF5) (by omega) (by omega) (fun r hr => by have := (hg.ok r hr).2.1; omega)) (fun F6 v B6 hF6 hv6 => ?_)
  obtain ⟨io, xs, bs, rfl, rfl, hxl, hR⟩ := hv6
  unfold gramCells
  refine WT.freezeAll 0 rfl rfl (fun F7 hF7 hB7 => ?_)
  refine WT.freezeAll 2 rfl rfl (fun F8 hF8 hB8 => ?_)
  have hrw := (((hv3.mono hF5).mono hF6).mono hF7).arr hF8 hB8
  have hcells := (hR.mono hF7).arr hF8 fun i b hm => hF8 _ _ (hB7 i b (List.mem_append_right _ hm))
  have hra : Arr tRule F8 (some ⟨io, 0, none⟩) gm 2 (mirG g).rules :=
    Bld.frozen (F := F8) (B := [(io, .cells false (flatR xs))]) ⟨by show gm = (g.rules.map _).length; rw [List.length_map]; exact hgl, .inr ⟨io, _, rfl, rfl, rfl, hcells, by decide⟩⟩ (Frz.le.refl F8) (fun i b hm => hF8 _ _ (hB7 i b (List.mem_append_left _ hm)))
  have hL8 := (((hL3.mono hF5).mono hF6).mono hF7).mono hF8
  refine ze hT zr zr zr zr zr ?_
  refine WT.callF0 Tryd.func16 zr zr zr zr zr zr (forestOf_spec _ hL8 (mirG g) (mir_valid hv) hra hrw (by rw [List.length_reverse]; omega) (fun t ht => hw2 t (List.mem_reverse.1 ht))) (fun F9 v hF9 hv9 => ?_)
  obtain ⟨E', hE', hv9⟩ := hv9
  obtain ⟨qa, qn, qc, qr, qe, rfl⟩ := makeRes_form hv9
  have hL9 := hL8.mono hF9
  obtain ⟨rfl, rfl, hqe, hn6, Ns, Ns', hN, hN', hsum, hsum2, hall⟩ := makeRes_mir hv (by omega) hE hE' hv5 hv9
  have hN9 := (((hN.mono hF6).mono hF7).mono hF8).mono hF9
  (iterate 3 refine ze hT zr zr zr zr zr ?_)
  refine WT.allocT hT zr zr zr zr zr zr (fun i9 hi9 => ?_)
  refine zs hT 0 0 zr zr zr zr zr zr zr zr zr zr zr zr ?_; refine ze hT zr zr zr zr zr ?_; refine WT.nil ?_; (iterate 2 refine AW.seq ?_); refine AW.reg ?_
  refine WT.callV Tryd.func18 zr zr zr zr zr zr (Abs.Spec.fact rfl hL9) (fun v hv => ?_)
  subst hv
  (iterate 5 refine ze hT zr zr zr zr zr ?_); refine WT.nil ?_
  refine AW.cond rfl (fun h => (by exfalso; simp at h; omega)) (fun _ => ?_)
  refine AW.skip ?_; (iterate 2 refine AW.seq ?_)
  refine AW.draw (ps := [(15, 14)]) rfl rfl ?_
  (iterate 4 refine ze hT zr zr zr zr zr ?_)
  refine WT.know (v' := .bool false) 46 rfl (by simp) ?_
  refine ze hT zr zr zr zr zr ?_; refine zl hT 2 zr zr zr zr zr zr me zr ?_; (iterate 2 refine ze hT zr zr zr zr zr ?_); refine zl hT 0 zr zr zr zr zr zr me zr ?_; (iterate 4 refine ze hT zr zr zr zr zr ?_)
  refine WT.know (v' := .bool false) 55 rfl (by simp) ?_
  refine zl hT 2 zr zr zr zr zr zr me zr ?_
  refine WT.callV Tryd.func19 zr zr zr zr zr zr (mpacks_spec _ hN9 hn6 hsum2) (fun v hv => ?_)
  subst hv
  refine zl hT 0 zr zr zr zr zr zr me zr ?_
  refine WT.callV Tryd.func19 zr zr zr zr zr zr (mpacks_spec _ hN' hn6 (by omega)) (fun v hv => ?_)
  subst hv
  (iterate 2 refine ze hT zr zr zr zr zr ?_); refine WT.nil ?_
  refine ⟨(by repeat (first | exact trivial | refine recs_pair rfl rfl (by first | exact keep0 | exact keep1 (keeps_frz (by assumption)) | exact kp 0 0 me me | exact kp 1 1 me me | exact kp 2 2 me me | exact kp 3 3 me me | exact kp 4 4 me me | exact kp 5 5 me me | exact kp 6 6 me me | exact kp 0 1 me me | exact kp 1 2 me me | exact kp 2 3 me me | exact kp 3 4 me me | exact kp 4 5 me me | exact kp 5 6 me me | exact kp 6 7 me me) ?_)), ?_⟩
  refine AW.cond rfl (fun h => (by exfalso; simp at h; omega)) (fun _ => ?_)
  refine AW.skip ?_; (iterate 2 refine AW.seq ?_); refine AW.reg ?_; refine ze hT zr zr zr zr zr ?_; refine zl hT 2 zr zr zr zr zr zr me zr ?_; (iterate 2 refine ze hT zr zr zr zr zr ?_); refine WT.nil ?_
  refine AW.freezeAll 5 rfl rfl (fun Fz hFz hBz => ?_)
  have hf3 := hBz i3 _ (List.mem_cons_self ..)
  refine AW.range (S := Unit) (fun _ => []) (fun _ => _) (fun j _ G => True) qn () zr zr zr zr zr zr zr zr zr (by omega) rfl rfl (fun _ => rfl) (fun _ => rfl) (SubK.of_map rfl) (OwnLe.refl _) trivial ?_ ?_
  · intro j _ F10 hF10 hj _
    have hNb := (hN9.mono hFz).mono hF10
    have hnl := hNb.len
    refine AW.seq ?_; refine AW.reg ?_
    refine WT.idxL hT hNb zr zr zr zr zr zr zr zr zr (by omega) (fun x hxj b8 off8 ro8 cs8 lx8 hb8 hp8 hrel8 => ?_)
    obtain ⟨xa, xn, xc, rfl, hxa⟩ := hrel8
    refine zi (fo := 0) hT (by assumption) (by assumption) zr zr zr zr zr zr ?_
    refine WT.allocT hT zr zr zr zr zr zr (fun i12 hi12 => ?_)
    refine zs hT 0 0 zr zr zr zr zr zr zr zr zr zr zr zr ?_; refine WT.nil ?_; refine AW.seq ?_; refine AW.reg ?_; refine ze hT zr zr zr zr zr ?_; refine zl hT 1 zr zr zr zr zr zr me zr ?_; refine ze hT zr zr zr zr zr ?_
    refine WT.freezeAll 0 rfl rfl (fun F11 hF11 hB11 => ?_)
    have hfi := hB11 i12 _ (List.mem_cons_self ..)
    have hf3b := hF11 _ _ (hF10 _ _ hf3)
    obtain ⟨k1, k2, y, hy, hyk, hyp⟩ := hall x (List.mem_of_getElem? hxj)
    skip
    refine WT.callV Tryd.func20 zr zr zr zr zr zr (nodeAny_spec _ (((hN'.mono hFz).mono hF10).mono hF11) hn6 (mirP w.length x) (g := 21) (first := []) (capt := [.pointer (some ⟨i12, 0, none⟩), .pointer (some ⟨i3, 0, none⟩)]) Tryd.func21 rfl (fun y hy b n d hyp => mirP_spec _ hfi hf3b hxa.len hyp.len (by omega) k1 k2)) (fun v hv => ?_)
    subst hv
    have hany : Ns'.any (mirP w.length x) = true := by
      rw [List.any_eq_true]
      refine ⟨y, hy, ?_⟩
      unfold mirP
      rw [hyk, hyp]
      unfold mirK
      simp
      omega
    rw [hany]
    refine ze hT zr zr zr zr zr ?_; refine WT.nil ?_
    refine AW.cond rfl (fun h => (by cases h)) (fun _ => ?_)
    refine AW.skip ?_
    exact ⟨(), SubK.of_map rfl, OwnLe.skip _ (OwnLe.refl _), trivial⟩
  · intro _ F10 hF10 _
    refine AW.seq ?_; refine AW.reg ?_; refine ze hT zr zr zr zr zr ?_; refine WT.nil ?_
    exact AW.ret ⟨_, [], ⟨_, _, rfl, rfl, rfl⟩, (by repeat (first | exact List.Sublist.refl _ | refine List.Sublist.cons _ ?_)), rfl, rfl⟩
end Go.Proofs.D

