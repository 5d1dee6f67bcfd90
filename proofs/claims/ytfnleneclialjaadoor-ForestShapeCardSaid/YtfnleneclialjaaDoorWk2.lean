/-
  Walks: what functions of the program do, over the abstract machine.
-/
import Derived.Test.YtfnleneclialjaaDoorWk1
set_option linter.unusedVariables false
set_option maxRecDepth 20000
set_option maxHeartbeats 0
open Go Go.Abs Go.Proofs Go.Proofs.D
namespace Go.Proofs.D

/-! ### trees of a grammar, counted -/
def listT (f : Sym → Nat → Nat → Nat) : List Sym → Nat → Nat → Nat
  | [], i, j => if i = j then 1 else 0
  | s :: l, i, j => ((List.range (j + 1)).map fun m => f s i m * listT f l m j).sum

/-- How many trees of a depth a symbol has over a part of a word. -/
def symT (g : Gram) (w : List Nat) : Nat → Sym → Nat → Nat → Nat
  | 0, _, _, _ => 0
  | d + 1, s, i, j => if s.term = true then (if w[i]? = some s.n ∧ j = i + 1 then 1 else 0)
      else (g.rules.map fun r => if r.left = s.n then listT (symT g w d) r.right i j else 0).sum

theorem sum_zero {l : List Nat} (h : ∀ x ∈ l, x = 0) : l.sum = 0 := by
  induction l with
  | nil => rfl
  | cons a l ih => rw [List.sum_cons, h a (List.mem_cons_self ..), ih fun x hx => h x (List.mem_cons_of_mem _ hx)]

theorem sum_pos {l : List Nat} (h : 1 ≤ l.sum) : ∃ x ∈ l, 1 ≤ x := by
  induction l with
  | nil => simp at h
  | cons a l ih =>
    by_cases ha : 1 ≤ a
    · exact ⟨a, List.mem_cons_self .., ha⟩
    · rw [List.sum_cons] at h
      obtain ⟨x, hx, h2⟩ := ih (by omega)
      exact ⟨x, List.mem_cons_of_mem _ hx, h2⟩

theorem listT_pos {g : Gram} {w : List Nat} {f : Sym → Nat → Nat → Nat} (hf : ∀ s i j, 1 ≤ f s i j → Der g w s i j) : ∀ {l : List Sym} {i j : Nat}, 1 ≤ listT f l i j → Ders g w l i j
  | [], i, j, h => by
    unfold listT at h
    split at h
    · rename_i e; subst e; exact .nil
    · omega
  | s :: l, i, j, h => by
    unfold listT at h
    obtain ⟨x, hx, h2⟩ := sum_pos h
    obtain ⟨m, _, rfl⟩ := List.mem_map.1 hx
    have h3 : 1 ≤ f s i m := by
      rcases Nat.eq_zero_or_pos (f s i m) with e | e
      · rw [e, Nat.zero_mul] at h2; omega
      · exact e
    have h4 : 1 ≤ listT f l m j := by
      rcases Nat.eq_zero_or_pos (listT f l m j) with e | e
      · rw [e, Nat.mul_zero] at h2; omega
      · exact e
    exact .cons (hf s i m h3) (listT_pos hf h4)

theorem symT_der {g : Gram} {w : List Nat} : ∀ {d : Nat} {s : Sym} {i j : Nat}, 1 ≤ symT g w d s i j → Der g w s i j
  | 0, s, i, j, h => absurd h (by simp [symT])
  | d + 1, s, i, j, h => by
    obtain ⟨st, sn⟩ := s
    unfold symT at h
    cases st with
    | true =>
      simp only [if_true] at h
      split at h
      · rename_i e
        obtain ⟨e1, rfl⟩ := e
        exact .term e1
      · omega
    | false =>
      simp only [Bool.false_eq_true, if_false] at h
      obtain ⟨x, hx, h2⟩ := sum_pos h
      obtain ⟨r, hr, rfl⟩ := List.mem_map.1 hx
      split at h2
      · rename_i e
        subst e
        exact .non hr (listT_pos (fun s i j h => symT_der h) h2)
      · omega

theorem listT_mono {f h : Sym → Nat → Nat → Nat} (hf : ∀ s i j, f s i j ≤ h s i j) : ∀ (l : List Sym) (i j : Nat), listT f l i j ≤ listT h l i j
  | [], i, j => Nat.le_refl _
  | s :: l, i, j => sumN_le _ fun m _ => Nat.mul_le_mul (hf s i m) (listT_mono hf l m j)

theorem symT_mono (g : Gram) (w : List Nat) : ∀ (d : Nat) (s : Sym) (i j : Nat), symT g w d s i j ≤ symT g w (d + 1) s i j
  | 0, s, i, j => Nat.zero_le _
  | d + 1, s, i, j => by
    show symT g w (d + 1) s i j ≤ symT g w (d + 1 + 1) s i j
    unfold symT
    split
    · exact Nat.le_refl _
    · refine sumN_le _ fun r _ => ?_
      split
      · exact listT_mono (fun s i j => symT_mono g w d s i j) _ _ _
      · exact Nat.le_refl _

theorem symT_le (g : Gram) (w : List Nat) {d e : Nat} (h : d ≤ e) (s : Sym) (i j : Nat) : symT g w d s i j ≤ symT g w e s i j := by
  induction e with
  | zero => obtain rfl : d = 0 := by omega
            exact Nat.le_refl _
  | succ e ih =>
    rcases Nat.lt_or_ge d (e + 1) with h2 | h2
    · exact Nat.le_trans (ih (by omega)) (symT_mono g w e s i j)
    · obtain rfl : d = e + 1 := by omega
      exact Nat.le_refl _

theorem der_symT {g : Gram} {w : List Nat} {s : Sym} {i j : Nat} (h : Der g w s i j) : ∃ d, 1 ≤ symT g w d s i j := by
  refine Der.rec (motive_1 := fun s i j _ => ∃ d, 1 ≤ symT g w d s i j) (motive_2 := fun l i j _ => ∃ d, 1 ≤ listT (symT g w d) l i j) ?_ ?_ ?_ ?_ h
  · intro t i h
    exact ⟨1, by unfold symT; simp [h]⟩
  · intro r i j hr _ ih
    obtain ⟨d, hd⟩ := ih
    refine ⟨d + 1, ?_⟩
    unfold symT
    simp only [Bool.false_eq_true, if_false]
    refine Nat.le_trans ?_ (sumN_mem (f := fun r' : Rule => if r'.left = r.left then listT (symT g w d) r'.right i j else 0) hr)
    simpa using hd
  · intro i; exact ⟨0, by simp [listT]⟩
  · intro s l i m j h1 h2 ih1 ih2
    obtain ⟨d1, h3⟩ := ih1
    obtain ⟨d2, h4⟩ := ih2
    have hmj := ders_le h2
    refine ⟨max d1 d2, ?_⟩
    unfold listT
    refine Nat.le_trans ?_ (sumN_mem (f := fun m => symT g w (max d1 d2) s i m * listT (symT g w (max d1 d2)) l m j) (List.mem_range.2 (show m < j + 1 by omega)))
    exact Nat.mul_le_mul (Nat.le_trans h3 (symT_le g w (by omega) s i m)) (Nat.le_trans h4 (listT_mono (fun s i j => symT_le g w (by omega) s i j) l m j))

/-! ### a forest's nodes have as many trees as the grammar says -/
theorem sum_flat {α β : Type} (f : α → List β) (h : β → Nat) : ∀ l : List α, ((l.flatMap f).map h).sum = (l.map fun a => ((f a).map h).sum).sum
  | [] => rfl
  | a :: l => by rw [List.flatMap_cons, List.map_append, List.sum_append, List.map_cons, List.sum_cons, sum_flat f h l]

theorem splits_sum {w : List Nat} {E : List (List Nat)} {to : Nat} {f : Sym → Nat → Nat → Nat} (hf : ∀ s i m, stepB w E s i m = false → i ≤ w.length → m ≤ to → f s i m = 0) (hto : to ≤ w.length) : ∀ (l : List Sym) (i : Nat), i ≤ w.length →
    ((splits w E to l i).map fun ks => prodN (ks.map fun q => f q.sym q.frm q.to)).sum = listT f l i to
  | [], i, hi => by
    unfold splits listT
    split <;> simp [prodN]
  | s :: l, i, hi => by
    unfold splits listT
    rw [sum_flat]
    congr 1
    apply List.map_congr_left
    intro m hm
    have hm := List.mem_range.1 hm
    split
    · rw [List.map_map, ← splits_sum hf hto l m (by omega)]
      clear hf
      generalize splits w E to l m = L
      induction L with
      | nil => simp
      | cons a L ih =>
        simp only [List.map_cons, List.sum_cons, Function.comp_apply, prodN, Nat.mul_add]
        simp only [Function.comp_def] at ih
        rw [← ih]
        simp [Function.comp_def, prodN]
    · rename_i h
      rw [hf s i m (by simpa using h) hi (by omega)]
      simp

theorem rules_sum {α : Type} (h : α → Nat) (f : Nat → Rule → List α) : ∀ (rs : List Rule) (k : Nat), (((List.range rs.length).flatMap fun i => match rs[i]? with | some r => f (k + i) r | none => []).map h).sum = (rs.zipIdx k |>.map fun p => ((f p.2 p.1).map h).sum).sum
  | [], k => by simp
  | r :: rs, k => by
    have ih := rules_sum h f rs (k + 1)
    rw [List.length_cons, List.range_succ_eq_map, List.flatMap_cons, List.map_append, List.sum_append, List.zipIdx_cons, List.map_cons, List.sum_cons, ← ih]
    simp only [List.getElem?_cons_zero, Nat.add_zero, List.flatMap_map]
    congr 4
    funext i
    simp only [List.getElem?_cons_succ, Nat.succ_eq_add_one]
    rw [show k + (i + 1) = k + 1 + i by omega]

theorem zip_sum {f : Rule → Nat} : ∀ (rs : List Rule) (k : Nat), (rs.zipIdx k |>.map fun p => f p.1).sum = (rs.map f).sum
  | [], k => by simp
  | r :: rs, k => by rw [List.zipIdx_cons, List.map_cons, List.map_cons, List.sum_cons, List.sum_cons, zip_sum rs (k + 1)]

/-- A key that the table of ends lets stand. -/
def StepK (w : List Nat) (E : List (List Nat)) (k : Key) : Prop := stepB w E k.sym k.frm k.to = true

theorem splits_step {w : List Nat} {E : List (List Nat)} {to : Nat} : ∀ {l : List Sym} {i : Nat} {ks : List Key}, ks ∈ splits w E to l i → ∀ q ∈ ks, StepK w E q
  | [], i, ks, h, q, hq => by
    unfold splits at h
    split at h
    · rw [List.mem_singleton.1 h] at hq; cases hq
    · cases h
  | s :: l, i, ks, h, q, hq => by
    unfold splits at h
    obtain ⟨m, _, hm⟩ := List.mem_flatMap.1 h
    split at hm
    · rename_i hs
      obtain ⟨ks', h2, rfl⟩ := List.mem_map.1 hm
      rcases List.mem_cons.1 hq with rfl | hq
      · exact hs
      · exact splits_step h2 q hq
    · cases hm

theorem Reachable.step {g : Gram} {w : List Nat} {E : List (List Nat)} {root k : Key} (h : Reachable g w E root k) (hr : StepK w E root) : StepK w E k := by
  cases h with
  | root => exact hr
  | kid _ hp hq =>
    obtain ⟨r, _, _, _, h3⟩ := mem_packsOf.1 hp
    exact splits_step h3 _ hq

theorem step_der {g : Gram} {w : List Nat} {E : List (List Nat)} (hE : EndsOf g w E) {s : Sym} {i j : Nat} (hi : i ≤ w.length) : stepB w E s i j = true ↔ Der g w s i j := by
  rw [stepB_iff]
  unfold Step
  obtain ⟨b, n⟩ := s
  cases b with
  | true => simp only [if_true]; rw [der_term]
  | false =>
    simp only [Bool.false_eq_true, if_false]
    exact hE.iff n i j hi

theorem packs_sum {g : Gram} {w : List Nat} {E : List (List Nat)} {k : Key} (hk : k.sym.term = false) {f : Sym → Nat → Nat → Nat} (hf : ∀ s i m, stepB w E s i m = false → i ≤ w.length → m ≤ k.to → f s i m = 0) (hi : k.frm ≤ w.length) (hto : k.to ≤ w.length) :
    ((packsOf g w E k).map fun p => prodN (p.kids.map fun q => f q.sym q.frm q.to)).sum = (g.rules.map fun r => if r.left = k.sym.n then listT f r.right k.frm k.to else 0).sum := by
  have e : packsOf g w E k = (List.range g.rules.length).flatMap fun i => match g.rules[i]? with | some r => (if r.left = k.sym.n ∧ k.sym.term = false then (splits w E k.to r.right k.frm).map (KPack.mk (0 + i)) else []) | none => [] := by
    unfold packsOf
    congr 1
    funext i
    unfold packsAt
    rw [Nat.zero_add]
    cases g.rules[i]? <;> rfl
  rw [e]
  refine (rules_sum (fun p : KPack => prodN (p.kids.map fun q => f q.sym q.frm q.to)) (fun i r => if r.left = k.sym.n ∧ k.sym.term = false then (splits w E k.to r.right k.frm).map (KPack.mk i) else []) g.rules 0).trans ?_
  rw [← zip_sum g.rules 0]
  congr 1
  apply List.map_congr_left
  intro p _
  by_cases h : p.1.left = k.sym.n
  · rw [if_pos ⟨h, hk⟩, if_pos h, ← splits_sum hf hto p.1.right k.frm hi, List.map_map]
    rfl
  · rw [if_neg (fun h2 => h h2.1), if_neg h]; rfl

theorem node_sym {g : Gram} (hg : Valid g) {w : List Nat} {E : List (List Nat)} (hE : EndsOf g w E) {root : Key} {S : List Key} (hK : Keys g w E root S) (hroot : GoodKey g w root) (hrs : StepK w E root) :
    ∀ (d : Nat) (k : Key), k ∈ S → nodeT (S.map (mkNode g w E S)) d (place S k) = symT g w d k.sym k.frm k.to
  | 0, k, _ => rfl
  | d + 1, k, hk => by
    have hgood := (hK.reach k hk).good hg hroot
    have hstep := (hK.reach k hk).step hrs
    have hat : (S.map (mkNode g w E S))[place S k]? = some (mkNode g w E S k) := by rw [List.getElem?_map, place_at hk]; rfl
    have hsum : ((mkNode g w E S k).packs.map (packN (nodeT (S.map (mkNode g w E S)) d))).sum = ((packsOf g w E k).map fun p => prodN (p.kids.map fun q => symT g w d q.sym q.frm q.to)).sum := by
      unfold mkNode
      simp only
      rw [List.map_map]
      congr 1
      apply List.map_congr_left
      intro p hp
      simp only [Function.comp_apply, packN, numPack, List.map_map]
      congr 1
      apply List.map_congr_left
      intro q hq
      exact node_sym hg hE hK hroot hrs d q (hK.closed k hk p hp q hq)
    rw [nodeT, hat]
    simp only
    rw [hsum, symT]
    unfold leafN
    cases ht : k.sym.term with
    | true =>
      have hno : packsOf g w E k = [] := by
        rw [List.eq_nil_iff_forall_not_mem]
        intro p hp
        obtain ⟨_, _, _, h3, _⟩ := mem_packsOf.1 hp
        rw [ht] at h3; cases h3
      have h2 := (stepB_iff.1 hstep)
      unfold Step at h2
      rw [if_pos ht] at h2
      rw [hno]
      simp [mkNode, ht, h2]
    | false =>
      rw [packs_sum ht (fun s i m h1 h2 _ => ?_) hgood.2.1 hgood.2.2]
      · simp [mkNode, ht]
      · rcases Nat.eq_zero_or_pos (symT g w d s i m) with e | e
        · exact e
        · have := (step_der hE h2).2 (symT_der e)
          rw [h1] at this; cases this

theorem nodes_prod {g : Gram} (hg : Valid g) {w : List Nat} {E : List (List Nat)} (hE : EndsOf g w E) {root : Key} {S : List Key} (hK : Keys g w E root S) (hroot : GoodKey g w root) (hrs : StepK w E root) : Prod (S.map (mkNode g w E S)) := by
  intro v hv
  rw [List.length_map] at hv
  obtain ⟨k, hk⟩ : ∃ k, S[v]? = some k := ⟨_, List.getElem?_eq_getElem hv⟩
  have hkm := List.mem_of_getElem? hk
  have hgood := (hK.reach k hkm).good hg hroot
  obtain ⟨d, hd⟩ := der_symT ((step_der hE hgood.2.1).1 ((hK.reach k hkm).step hrs))
  refine ⟨d, ?_⟩
  rw [← place_of hK.nodup hk, node_sym hg hE hK hroot hrs d k hkm]
  exact hd

theorem nodes_ok {g : Gram} (hg : Valid g) {w : List Nat} (hw : w.length ≤ 12) {E : List (List Nat)} {root : Key} {S : List Key} (hK : Keys g w E root S) (hroot : GoodKey g w root) : FOk (S.map (mkNode g w E S)) where
  few := by
    rw [List.length_map]
    exact Nat.le_trans (good_few hg (by omega) (fun k hk => (hK.reach k hk).good hg hroot) hK.nodup) (by decide)
  packs := fun x hx => by
    obtain ⟨k, hk, rfl⟩ := List.mem_map.1 hx
    have hgood := (hK.reach k hk).good hg hroot
    have := packsOf_len12 hg (E := E) (w := w) (show k.to ≤ 12 by have := hgood.2.2; omega)
    unfold mkNode
    rw [List.length_map]; omega
  kid := fun u v h => by
    obtain ⟨x, p, hx, hp, hu⟩ := h
    rw [List.getElem?_map] at hx
    cases hk : S[v]? with
    | none => rw [hk] at hx; cases hx
    | some k =>
      rw [hk] at hx
      obtain rfl := Option.some.inj hx
      obtain ⟨p', hp', rfl⟩ := List.mem_map.1 hp
      obtain ⟨q, hq, rfl⟩ := List.mem_map.1 hu
      have := hK.closed k (List.mem_of_getElem? hk) p' hp' q hq
      rw [List.length_map]
      exact List.idxOf_lt_length_of_mem this
end Go.Proofs.D

set_option linter.unusedVariables false
set_option maxRecDepth 20000
set_option maxHeartbeats 0
open Go Go.Abs Go.Proofs Go.Proofs.D
namespace Go.Proofs.D

theorem packSum_le12 {g : Gram} (hg : Valid g) {w : List Nat} {E : List (List Nat)} : ∀ (L : List Key), (∀ k ∈ L, k.to ≤ 12) → packSum g w E L ≤ L.length * 913952
  | [], _ => by simp [packSum]
  | k :: L, h => by
    have h1 := packSum_le12 hg (E := E) (w := w) L fun k hk => h k (List.mem_cons_of_mem _ hk)
    have h2 := packsOf_len12 hg (E := E) (w := w) (h k (List.mem_cons_self ..))
    unfold packSum at h1 ⊢
    rw [List.map_cons, List.sum_cons, List.length_cons, Nat.add_mul, Nat.one_mul]
    omega

def rootKey (g : Gram) (w : List Nat) : Key := ⟨⟨false, g.start⟩, 0, w.length⟩

theorem root_good {g : Gram} (hg : Valid g) (w : List Nat) : GoodKey g w (rootKey g w) := ⟨by unfold SymOk rootKey; simpa using hg.range.start, Nat.zero_le _, Nat.le_refl _⟩

/-- The forest over a table of ends. -/
def ForestV (g : Gram) (w : List Nat) (E : List (List Nat)) (F : Frz) (v : Value) : Prop :=
  (stepB w E ⟨false, g.start⟩ 0 w.length = false ∧ v = .agg ⟨[.slice none 0 0, .int .i64 (-1)]⟩) ∨
  (stepB w E ⟨false, g.start⟩ 0 w.length = true ∧ ∃ S a n c, v = .agg ⟨[.slice a n c, .int .i64 (place S (rootKey g w) : Nat)]⟩ ∧ Keys g w E (rootKey g w) S ∧ Arr tNode F a n c (S.map (mkNode g w E S)))

theorem ForestV.mono {g : Gram} {w : List Nat} {E : List (List Nat)} {F G : Frz} {v : Value} (h : ForestV g w E F v) (hF : Frz.le F G) : ForestV g w E G v := by
  rcases h with h | ⟨h1, S, a, n, c, h2, h3, h4⟩
  · exact .inl h
  · exact .inr ⟨h1, S, a, n, c, h2, h3, h4.mono hF⟩

theorem few_packs {g : Gram} (hg : Valid g) {w : List Nat} (hw : w.length ≤ 12) {E : List (List Nat)} {L : List Key} (hn : L.Nodup) (hr : ∀ k ∈ L, Reachable g w E (rootKey g w) k) : packSum g w E L ≤ 200000 * 913952 := by
  have hgood : ∀ k ∈ L, GoodKey g w k := fun k hk => (hr k hk).good hg (root_good hg w)
  refine Nat.le_trans (packSum_le12 hg L fun k hk => by have := (hgood k hk).2.2; omega) ?_
  exact Nat.mul_le_mul_right _ (good_few hg (by omega) hgood hn)

theorem countNone_spec (F : Frz) : Abs.Spec CC 66 [.agg ⟨[.slice none 0 0, .int .i64 (-1)]⟩] F [] fun F' r o => o = [] ∧ r = .int .i64 0 := by
  refine Abs.Spec.fn (n := 28) Tryd.func66 rfl rfl fun own => ?_
  refine AW.seq (AW.reg ?_)
  refine WT.boxT zr zr zr zr zr zr (fun i1 hi1 => ?_)
  refine ze hT zr zr zr zr zr ?_; refine WT.nil ?_; (iterate 2 refine AW.seq ?_); refine AW.reg ?_; refine ze hT zr zr zr zr zr ?_; refine zl hT 0 zr zr zr zr zr zr me zr ?_; refine ze hT zr zr zr zr zr ?_; refine WT.nil ?_
  refine AW.cond rfl (fun _ => ?_) (fun h => (by cases h))
  refine AW.seq ?_; refine AW.reg ?_; refine ze hT zr zr zr zr zr ?_; refine WT.nil ?_
  exact AW.ret ⟨_, [], ⟨_, _, rfl, rfl, rfl⟩, (by repeat (first | exact List.Sublist.refl _ | refine List.Sublist.cons _ ?_)), rfl, rfl⟩

theorem meanOf_spec (F : Frz) (hL : Laid F) (g : Gram) (hg : Valid g) {ga : Option Addr} {gm gc : Nat} (hr : Arr tRule F ga gm gc g.rules) {b : Option Addr} {n d : Nat} {w : List Nat} (hw : Arr tNat F b n d w) (hw12 : w.length ≤ 12) :
    Abs.Spec CC 67 [.agg ⟨gramCells g ga gm gc⟩, .slice b n d] F [] fun F' v o => o = [] ∧ ∃ E, EndsOf g w E ∧ ForestV g w E F' v := by
  unfold gramCells
  refine Abs.Spec.fn (n := 17) Tryd.func67 rfl rfl fun own => ?_
  refine AW.seq (AW.reg ?_)
  refine WT.boxT zr zr zr zr zr zr (fun i2 hi2 => ?_)
  refine WT.allocT hT zr zr zr zr zr zr (fun i4 hi4 => ?_)
  refine WT.nil ?_; refine AW.seq ?_
  refine AW.draw (ps := [(0, 4), (0, 9), (2, 9)]) rfl rfl ?_
  refine zl hT 1 zr zr zr zr zr zr me zr ?_; refine ze hT zr zr zr zr zr ?_; refine zl hT 1 zr zr zr zr zr zr me zr ?_; refine ze hT zr zr zr zr zr ?_
  refine WT.callF0 Tryd.func49 zr zr zr zr zr zr (ends_spec _ hL g hg hr hw (by omega)) (fun F1 v hF1 hv => ?_)
  obtain ⟨ea, ec, E, rfl, hE, hE2⟩ := hv
  have hEl := hE2.ok.size
  refine WT.callF0 Tryd.func70 zr zr zr zr zr zr (build_spec _ (hL.mono hF1) g hg (hr.mono hF1) (hw.mono hF1) hw12 hE hE2.ok 1099511627776 (by decide)) (fun F2 v hF2 hv => ?_)
  have hres : ∃ x, v = .tuple ⟨[.agg ⟨x⟩, .bool true]⟩ ∧ ForestV g w E F2 (.agg ⟨x⟩) ∧ ∃ a n c r, x = [.slice a n c, .int .i64 r] := by
    rcases hv with ⟨h1, rfl⟩ | ⟨h1, h2⟩
    · exact ⟨_, rfl, .inl ⟨h1, rfl⟩, _, _, _, _, rfl⟩
    · rcases h2 with ⟨S, a, n, c, rfl, hK, hA, _⟩ | ⟨_, L, h3, h4, h5⟩
      · exact ⟨_, rfl, .inr ⟨h1, S, a, n, c, rfl, hK, hA⟩, _, _, _, _, rfl⟩
      · have := few_packs hg hw12 h3 h4
        omega
  clear hv
  obtain ⟨x, rfl, hx, xa, xn, xc, xr, rfl⟩ := hres
  (iterate 3 refine ze hT zr zr zr zr zr ?_)
  refine WT.allocT hT zr zr zr zr zr zr (fun i5 hi5 => ?_)
  refine zs hT 0 0 zr zr zr zr zr zr zr zr zr zr zr zr ?_; refine ze hT zr zr zr zr zr ?_; refine WT.nil ?_
  refine ⟨(by repeat (first | exact trivial | refine recs_pair rfl rfl (by first | exact keep0 | exact keep1 (keeps_frz (by assumption)) | exact kp 0 0 me me | exact kp 1 1 me me | exact kp 2 2 me me | exact kp 3 3 me me | exact kp 4 4 me me | exact kp 5 5 me me | exact kp 6 6 me me | exact kp 0 1 me me | exact kp 1 2 me me | exact kp 2 3 me me | exact kp 3 4 me me | exact kp 4 5 me me | exact kp 5 6 me me | exact kp 6 7 me me) ?_)), ?_⟩
  refine AW.seq ?_; refine AW.reg ?_; refine zl hT 0 zr zr zr zr zr zr me zr ?_; refine zs hT 1 0 zr zr zr zr zr zr zr zr zr zr zr zr ?_; refine WT.nil ?_
  exact AW.ret ⟨_, [], ⟨_, _, ⟨_, rfl, fun G h0 s0 => loadA_cells (s0.has (p := 1) rfl (List.mem_cons_self ..)) (readT_ok hT rfl)⟩, rfl, rfl⟩, (by repeat (first | exact List.Sublist.refl _ | refine List.Sublist.cons _ ?_)), rfl, E, hE2, hx⟩

theorem still_zero {T : Nat → Nat} (h : ∀ d, T d = 0) : Still T 0 := ⟨0, fun d _ => h d⟩

theorem mcount_spec (F : Frz) (hL : Laid F) (g : Gram) (hg : Valid g) {ga : Option Addr} {gm gc : Nat} (hr : Arr tRule F ga gm gc g.rules) {b : Option Addr} {n d : Nat} {w : List Nat} (hw : Arr tNat F b n d w) (hw12 : w.length ≤ 12) (hw2 : ∀ t ∈ w, t < g.terms) :
    Abs.Spec CC 32 [.agg ⟨gramCells g ga gm gc⟩, .slice b n d] F [] fun F' v o => o = [] ∧ ∃ c, v = .tuple ⟨[.int .i64 c, .int .i64 0]⟩ ∧ CountVal (fun d => symT g w d ⟨false, g.start⟩ 0 w.length) c := by
  unfold gramCells
  refine Abs.Spec.fn (n := 17) Tryd.func32 rfl rfl fun own => ?_
  refine AW.seq (AW.reg ?_)
  refine WT.boxT zr zr zr zr zr zr (fun i2 hi2 => ?_)
  (iterate 2 refine ze hT zr zr zr zr zr ?_); refine WT.nil ?_; (iterate 2 refine AW.seq ?_); refine AW.reg ?_; refine zl hT 0 zr zr zr zr zr zr me zr ?_; refine ze hT zr zr zr zr zr ?_
  refine WT.callV Tryd.func65 zr zr zr zr zr zr (mcheck_spec _ g hg hr hw hw12 hw2) (fun v hv => ?_)
  subst hv
  refine ze hT zr zr zr zr zr ?_; refine WT.nil ?_; refine AW.seq ?_; refine AW.reg ?_; (iterate 2 refine ze hT zr zr zr zr zr ?_); refine WT.nil ?_
  refine AW.cond rfl (fun h => (by cases h)) (fun h => ?_)
  refine AW.skip ?_; refine AW.seq ?_; refine AW.reg ?_; refine zl hT 0 zr zr zr zr zr zr me zr ?_; refine ze hT zr zr zr zr zr ?_
  refine WT.callF0 Tryd.func67 zr zr zr zr zr zr (meanOf_spec _ hL g hg hr hw hw12) (fun F2 v hF2 hv => ?_)
  obtain ⟨E, hE, hv⟩ := hv
  rcases hv with ⟨h1, rfl⟩ | ⟨h1, S, a, n', c, rfl, hK, hA⟩
  · refine WT.callV Tryd.func66 zr zr zr zr zr zr (countNone_spec _) (fun v hv => ?_)
    subst hv
    (iterate 2 refine ze hT zr zr zr zr zr ?_); refine WT.nil ?_
    refine AW.ret ⟨_, [], ⟨_, _, rfl, ⟨_, _, rfl, rfl, rfl⟩, rfl⟩, (by repeat (first | exact List.Sublist.refl _ | refine List.Sublist.cons _ ?_)), rfl, 0, rfl, .inl ⟨0, still_zero fun d => ?_, rfl⟩⟩
    rcases Nat.eq_zero_or_pos (symT g w d ⟨false, g.start⟩ 0 w.length) with e | e
    · exact e
    · have := (step_der hE (Nat.zero_le _)).2 (symT_der e)
      rw [h1] at this; cases this
  · have hroot := root_good hg w
    have hrm := hK.first
    have hpl := place_at hrm
    have hlt := (List.getElem?_eq_some_iff.1 hpl).1
    refine WT.callV Tryd.func66 zr zr zr zr zr zr (count_spec _ (nodes_ok hg hw12 hK hroot) (nodes_prod hg hE hK hroot h1) hA (place S (rootKey g w)) (by rw [List.length_map]; exact hlt)) (fun v hv => ?_)
    obtain ⟨c', rfl, hc⟩ := hv
    (iterate 2 refine ze hT zr zr zr zr zr ?_); refine WT.nil ?_
    refine AW.ret ⟨_, [], ⟨_, _, rfl, ⟨_, _, rfl, rfl, rfl⟩, rfl⟩, (by repeat (first | exact List.Sublist.refl _ | refine List.Sublist.cons _ ?_)), rfl, c', rfl, ?_⟩
    have : (fun d => nodeT (S.map (mkNode g w E S)) d (place S (rootKey g w))) = fun d => symT g w d ⟨false, g.start⟩ 0 w.length := by
      funext d
      exact node_sym hg hE hK hroot h1 d _ hrm
    rw [this] at hc
    exact hc

/-! ### forest.Make, forest.Of -/
/-- A forest, or too many packs. -/
def MakeRes (g : Gram) (w : List Nat) (E : List (List Nat)) (F : Frz) (v : Value) : Prop :=
  (∃ s a n c r, s = .agg ⟨[.slice a n c, .int .i64 r]⟩ ∧ v = .tuple ⟨[s, .int .i64 0]⟩ ∧ ForestV g w E F s ∧ ∀ S, Keys g w E (rootKey g w) S → stepB w E ⟨false, g.start⟩ 0 w.length = true → packSum g w E S ≤ 20000) ∨
  (v = .tuple ⟨[.agg ⟨[.slice none 0 0, .int .i64 0]⟩, .int .i64 2]⟩ ∧ stepB w E ⟨false, g.start⟩ 0 w.length = true ∧ ∃ L : List Key, L.Nodup ∧ (∀ k ∈ L, Reachable g w E (rootKey g w) k) ∧ 20000 < packSum g w E L)

theorem keys_uniq {g : Gram} {w : List Nat} {E : List (List Nat)} {root : Key} {S S' : List Key} (h : Keys g w E root S) (h' : Keys g w E root S') : S = S' := by
  have hp : S.Perm S' := by
    rw [List.perm_ext_iff_of_nodup h.nodup h'.nodup]
    exact fun k => ⟨fun hk => h'.all (h.reach k hk), fun hk => h.all (h'.reach k hk)⟩
  refine List.Perm.eq_of_pairwise (le := fun x y => ltKey x y = true) (fun a b _ _ h1 h2 => ?_) h.sorted h'.sorted hp
  have := ltKey_swo.trans _ _ _ h1 h2
  rw [ltKey_swo.irrefl] at this; cases this

theorem make_spec (F : Frz) (hL : Laid F) (g : Gram) (hg : Valid g) {ga : Option Addr} {gm gc : Nat} (hr : Arr tRule F ga gm gc g.rules) {b : Option Addr} {n d : Nat} {w : List Nat} (hw : Arr tNat F b n d w) (hw12 : w.length ≤ 12)
    {a : Option Addr} {m c : Nat} {E : List (List Nat)} (hE : Arr (tList tU32) F a m c E) (hE2 : EndsOk g.nons w.length E) :
    Abs.Spec CC 48 [.agg ⟨gramCells g ga gm gc⟩, .slice b n d, .slice a m c] F [] fun F' v o => o = [] ∧ MakeRes g w E F' v := by
  unfold gramCells
  refine Abs.Spec.fn (n := 21) Tryd.func48 rfl rfl fun own => ?_
  refine AW.seq (AW.reg ?_)
  refine WT.boxT zr zr zr zr zr zr (fun i2 hi2 => ?_)
  refine WT.allocT hT zr zr zr zr zr zr (fun i4 hi4 => ?_)
  refine ze hT zr zr zr zr zr ?_; refine WT.nil ?_; refine AW.seq ?_; refine AW.reg ?_; refine zl hT 1 zr zr zr zr zr zr me zr ?_; (iterate 2 refine ze hT zr zr zr zr zr ?_)
  refine WT.callF0 Tryd.func70 zr zr zr zr zr zr (build_spec _ hL g hg hr hw hw12 hE hE2 20000 (by decide)) (fun F2 v hF2 hv => ?_)
  have hres : (∃ a n c r, v = .tuple ⟨[.agg ⟨[.slice a n c, .int .i64 r]⟩, .bool true]⟩ ∧ ForestV g w E F2 (.agg ⟨[.slice a n c, .int .i64 r]⟩) ∧ ∀ S, Keys g w E (rootKey g w) S → stepB w E ⟨false, g.start⟩ 0 w.length = true → packSum g w E S ≤ 20000) ∨
      (v = .tuple ⟨[.agg ⟨[.slice none 0 0, .int .i64 0]⟩, .bool false]⟩ ∧ stepB w E ⟨false, g.start⟩ 0 w.length = true ∧ ∃ L : List Key, L.Nodup ∧ (∀ k ∈ L, Reachable g w E (rootKey g w) k) ∧ 20000 < packSum g w E L) := by
    rcases hv with ⟨h1, rfl⟩ | ⟨h1, h2⟩
    · exact .inl ⟨_, _, _, _, rfl, .inl ⟨h1, rfl⟩, fun S _ h2 => by rw [h1] at h2; cases h2⟩
    · rcases h2 with ⟨S, a, n, c, rfl, hK, hA, hs⟩ | ⟨rfl, hL⟩
      · exact .inl ⟨_, _, _, _, rfl, .inr ⟨h1, S, a, n, c, rfl, hK, hA⟩, fun S' hS' _ => by rw [keys_uniq hS' hK]; exact hs⟩
      · exact .inr ⟨rfl, h1, hL⟩
  clear hv
  rcases hres with ⟨xa, xn, xc, xr, rfl, hx, hx2⟩ | ⟨rfl, hx, hx2⟩
  · (iterate 3 refine ze hT zr zr zr zr zr ?_)
    refine WT.allocT hT zr zr zr zr zr zr (fun i5 hi5 => ?_)
    refine zs hT 0 0 zr zr zr zr zr zr zr zr zr zr zr zr ?_; refine ze hT zr zr zr zr zr ?_; refine WT.nil ?_; (iterate 2 refine AW.seq ?_); refine AW.reg ?_; (iterate 2 refine ze hT zr zr zr zr zr ?_); refine WT.nil ?_
    refine AW.cond rfl (fun h => (by cases h)) (fun h => ?_)
    refine AW.skip ?_; refine AW.seq ?_; refine AW.reg ?_; refine zl hT 0 zr zr zr zr zr zr me zr ?_; refine zs hT 1 0 zr zr zr zr zr zr zr zr zr zr zr zr ?_; refine ze hT zr zr zr zr zr ?_; refine WT.nil ?_
    exact AW.ret ⟨_, [], ⟨_, _, ⟨_, rfl, fun G h0 s0 => loadA_cells (s0.has (p := 1) rfl (List.mem_cons_self ..)) (readT_ok hT rfl)⟩, ⟨_, _, rfl, rfl, rfl⟩, rfl⟩, (by repeat (first | exact List.Sublist.refl _ | refine List.Sublist.cons _ ?_)), rfl, .inl ⟨_, _, _, _, _, rfl, rfl, hx, hx2⟩⟩
  · (iterate 3 refine ze hT zr zr zr zr zr ?_)
    refine WT.allocT hT zr zr zr zr zr zr (fun i5 hi5 => ?_)
    refine zs hT 0 0 zr zr zr zr zr zr zr zr zr zr zr zr ?_; refine ze hT zr zr zr zr zr ?_; refine WT.nil ?_; (iterate 2 refine AW.seq ?_); refine AW.reg ?_; (iterate 2 refine ze hT zr zr zr zr zr ?_); refine WT.nil ?_
    refine AW.cond rfl (fun _ => ?_) (fun h => (by cases h))
    refine AW.seq ?_; refine AW.reg ?_; refine ze hT zr zr zr zr zr ?_; refine zs hT 1 0 zr zr zr zr zr zr zr zr zr zr zr zr ?_; refine ze hT zr zr zr zr zr ?_; refine WT.nil ?_
    exact AW.ret ⟨_, [], ⟨_, _, ⟨_, rfl, fun G h0 s0 => loadA_cells (s0.has (p := 1) rfl (List.mem_cons_self ..)) (readT_ok hT rfl)⟩, ⟨_, _, rfl, rfl, rfl⟩, rfl⟩, (by repeat (first | exact List.Sublist.refl _ | refine List.Sublist.cons _ ?_)), rfl, .inr ⟨rfl, hx, hx2⟩⟩

theorem forestOf_spec (F : Frz) (hL : Laid F) (g : Gram) (hg : Valid g) {ga : Option Addr} {gm gc : Nat} (hr : Arr tRule F ga gm gc g.rules) {b : Option Addr} {n d : Nat} {w : List Nat} (hw : Arr tNat F b n d w) (hw12 : w.length ≤ 12) (hw2 : ∀ t ∈ w, t < g.terms) :
    Abs.Spec CC 16 [.agg ⟨gramCells g ga gm gc⟩, .slice b n d] F [] fun F' v o => o = [] ∧ ∃ E, EndsOf g w E ∧ MakeRes g w E F' v := by
  unfold gramCells
  refine Abs.Spec.fn (n := 26) Tryd.func16 rfl rfl fun own => ?_
  refine AW.seq (AW.reg ?_)
  refine WT.boxT zr zr zr zr zr zr (fun i2 hi2 => ?_)
  refine WT.allocT hT zr zr zr zr zr zr (fun i4 hi4 => ?_)
  refine ze hT zr zr zr zr zr ?_; refine WT.nil ?_; (iterate 2 refine AW.seq ?_); refine AW.reg ?_; refine zl hT 1 zr zr zr zr zr zr me zr ?_; refine ze hT zr zr zr zr zr ?_
  refine WT.callV Tryd.func47 zr zr zr zr zr zr (accepts_spec _ hL g hg hr hw hw12 hw2) (fun v hv => ?_)
  subst hv
  (iterate 5 refine ze hT zr zr zr zr zr ?_); refine WT.nil ?_; refine AW.seq ?_; refine AW.reg ?_; (iterate 2 refine ze hT zr zr zr zr zr ?_); refine WT.nil ?_
  refine AW.cond rfl (fun h => (by cases h)) (fun h => ?_)
  refine AW.skip ?_; refine AW.seq ?_
  refine AW.draw (ps := [(0, 4)]) rfl rfl ?_
  refine zl hT 1 zr zr zr zr zr zr me zr ?_; refine ze hT zr zr zr zr zr ?_; refine zl hT 1 zr zr zr zr zr zr me zr ?_; refine ze hT zr zr zr zr zr ?_
  refine WT.callF0 Tryd.func49 zr zr zr zr zr zr (ends_spec _ hL g hg hr hw (by omega)) (fun F1 v hF1 hv => ?_)
  obtain ⟨ea, ec, E, rfl, hE, hE2⟩ := hv
  refine WT.callF0 Tryd.func48 zr zr zr zr zr zr (make_spec _ (hL.mono hF1) g hg (hr.mono hF1) (hw.mono hF1) hw12 hE hE2.ok) (fun F2 v hF2 hv => ?_)
  rcases hv with ⟨s, a, n', c, r, rfl, rfl, hx, hx2⟩ | ⟨rfl, hx, hx2⟩
  · (iterate 2 refine ze hT zr zr zr zr zr ?_); refine zs hT 0 0 zr zr zr zr zr zr zr zr zr zr zr zr ?_; refine ze hT zr zr zr zr zr ?_; refine WT.nil ?_
    refine ⟨(by repeat (first | exact trivial | refine recs_pair rfl rfl (by first | exact keep0 | exact keep1 (keeps_frz (by assumption)) | exact kp 0 0 me me | exact kp 1 1 me me | exact kp 2 2 me me | exact kp 3 3 me me | exact kp 4 4 me me | exact kp 5 5 me me | exact kp 6 6 me me | exact kp 0 1 me me | exact kp 1 2 me me | exact kp 2 3 me me | exact kp 3 4 me me | exact kp 4 5 me me | exact kp 5 6 me me | exact kp 6 7 me me) ?_)), ?_⟩
    exact AW.ret ⟨_, [], ⟨_, _, ⟨_, rfl, fun G h0 s0 => loadA_cells (s0.has (p := 0) rfl (List.mem_cons_self ..)) (readT_ok hT rfl)⟩, ⟨_, _, rfl, rfl, rfl⟩, rfl⟩, (by repeat (first | exact List.Sublist.refl _ | refine List.Sublist.cons _ ?_)), rfl, E, hE2, .inl ⟨_, _, _, _, _, rfl, rfl, hx, hx2⟩⟩
  · (iterate 2 refine ze hT zr zr zr zr zr ?_); refine zs hT 0 0 zr zr zr zr zr zr zr zr zr zr zr zr ?_; refine ze hT zr zr zr zr zr ?_; refine WT.nil ?_
    refine ⟨(by repeat (first | exact trivial | refine recs_pair rfl rfl (by first | exact keep0 | exact keep1 (keeps_frz (by assumption)) | exact kp 0 0 me me | exact kp 1 1 me me | exact kp 2 2 me me | exact kp 3 3 me me | exact kp 4 4 me me | exact kp 5 5 me me | exact kp 6 6 me me | exact kp 0 1 me me | exact kp 1 2 me me | exact kp 2 3 me me | exact kp 3 4 me me | exact kp 4 5 me me | exact kp 5 6 me me | exact kp 6 7 me me) ?_)), ?_⟩
    exact AW.ret ⟨_, [], ⟨_, _, ⟨_, rfl, fun G h0 s0 => loadA_cells (s0.has (p := 0) rfl (List.mem_cons_self ..)) (readT_ok hT rfl)⟩, ⟨_, _, rfl, rfl, rfl⟩, rfl⟩, (by repeat (first | exact List.Sublist.refl _ | refine List.Sublist.cons _ ?_)), rfl, E, hE2, .inr ⟨rfl, hx, hx2⟩⟩
end Go.Proofs.D

set_option linter.unusedVariables false
set_option maxRecDepth 20000
set_option maxHeartbeats 0
open Go Go.Abs Go.Proofs Go.Proofs.D
namespace Go.Abs
section
variable {C : Ctx} {T : RT} {n : Nat} {k : Kno} {F : Frz} {own : Own} {ops rest : List Oper} {o : Oper} {Q : Kno → Frz → Own → List Rec → Prop} {args' : List Value}
/-- A call of a function value whose result is frozen. -/
theorem WT.callCF0 {f : FuncId} {fn : Func} {fo : Operand} {as_ : Array Operand} {ts : Array TypeId} {args args' first capt : List Value} {P : Frz → Value → Prop} (hf : C.func f = some fn) (hb : fn.body.isSome = true) (hop : o.op = .call ⟨.value fo, as_, ts⟩)
    (hw : wantK ops k o = some true) {dst : Nat} (hdst : o.dst = some dst) (hn : Nat.blt dst n = true) (hfo : evK C k fo = some (.func (.func f) ⟨first⟩ ⟨capt⟩)) (hv : vals (evK C k) as_.toList = some args) (hargs : first ++ args ++ capt = args') (spec : Spec C f args' F [] fun F' v o => o = [] ∧ P F' v)
    (h : ∀ F' v, Frz.le F F' → P F' v → WT C n ops rest ((dst, v) :: k) F' own (fun k2 F2 own2 rs => Q k2 F2 own2 (⟨F, own, F', own, []⟩ :: rs))) :
    WT C n ops (o :: rest) k F own Q := by
  subst hargs
  refine WT.step (l := []) (by rw [hop]; rfl) fun e h' hk hs => ?_
  obtain ⟨v, h1, F1, oout, ⟨m, hd⟩, hF, hs1, rfl, hp⟩ := spec own h' hs
  refine ⟨v, h1, F1, own, ⟨m, fun N hN => ?_⟩, hF, hs1, by rw [hdst, putK_some hn]; exact h F1 v hF hp⟩
  unfold stepA
  rw [wantK_ok hk hw]
  have : opA C (evK C k) h' o.op = some (.call f (first ++ args ++ capt)) := by
    rw [hop]
    simp only [opA, hfo, hv, callA_func hf hb]
  simp only [opA_mono hk.eval this, hd N hN]
theorem firstZ {h : Heap} {s m c : Nat} {a : Option Addr} (ha : ∀ p, a = some p → p.spot = none) : firstA h s 0 (.slice a m c) = some [] := by
  match a, ha with
  | none, _ => rfl
  | some ⟨b, off, none⟩, _ => rfl
  | some ⟨b, off, some _⟩, ha => have := ha _ rfl; cases this

/-- A frozen slice, empty or not, is appended to an own block that is not empty. -/
theorem WT.appendA {α : Type} {R : Ty α} (hT : rowsOk C T = true) (p : Nat) {B : List (Nat × Blk)} {upd : List (Nat × Blk) → Own} {a b2 : Option Addr} {m c d c2 by_ : Nat} {xs ys : List α} {t e t2 e2 : Nat} {r r2 : Row} {z : Value} {xo so : Operand}
    (hb : Bld R F a m c B xs) (hy : Arr R F b2 d c2 ys) (hp : own[p]? = some B) (hupd : ∀ B', setO own p B' = some (upd B')) (hop : o.op = .call ⟨.builtin .append, ⟨[so, xo]⟩, ⟨[t, t2]⟩⟩) (hw : wantK ops k o = some true) {dst : Nat} (hdst : o.dst = some dst) (hn : Nat.blt dst n = true)
    (hs : evK C k so = some (.slice a m c)) (hx : evK C k xo = some (.slice b2 d c2)) (hr : rowOf T t = some r) (hd : r.d = .slice e) (hsz : sizeT T e = some R.size) (hz : zeroT T e = some z) (hby : bytesT T e = some by_)
    (hr2 : rowOf T t2 = some r2) (hd2 : r2.d = .slice e2) (hpos : 0 < R.size ∧ 0 < by_) (hroom : (m + d) * by_ ≤ 140737488355328)
    (h : ∀ a' c' B', Bld R F a' (m + d) c' B' (xs ++ ys) → WT C n ops rest ((dst, .slice a' (m + d) c') :: k) F (upd B') (fun k2 F2 own2 rs => Q k2 F2 own2 (⟨F, own, F, upd B', []⟩ :: rs))) :
    WT C n ops (o :: rest) k F own Q := by
  by_cases hd0 : d = 0
  · subst hd0
    obtain rfl : ys = [] := List.eq_nil_of_length_eq_zero hy.len.symm
    have e : upd B = own := by
      rw [← setO_ok _ _ _ _ (hupd B)]
      obtain ⟨hlt, rfl⟩ := List.getElem?_eq_some_iff.1 hp
      exact List.set_getElem_self hlt
    have := h a c B (by simpa using hb)
    rw [e] at this
    exact WT.append0 hT hop hw hdst hn hs hx hr hd hsz hz hby hr2 hd2 (fun h0 s0 => firstZ hy.spot) hpos (by simpa using hroom) this
  · obtain ⟨ds, hds, hcs⟩ := news_arr hT hy hr2 hd2 e
    exact WT.appendT hT p hb hp hupd hop hw hdst hn hs hx hr hd hsz hz hby (fun h0 s0 => hds _ h0 s0) hcs hy.len ⟨by omega, hpos⟩ hroom h
end
end Go.Abs
namespace Go.Proofs.D

/-! ### the order of nodes -/
def rankL (k : Key) : List Nat := [k.frm, k.to, if k.sym.term = true then 0 else 1, k.sym.n]

theorem rank_spec (F : Frz) {l : List Value} (x : Node) (hx : tNode.rel F l x) : Abs.Spec CC 55 [.agg ⟨l⟩] F [] fun F' v o => o = [] ∧ ∃ a c, v = .slice a 4 c ∧ Arr tNat F' a 4 c (rankL x.key) := by
  obtain ⟨a, n, c, rfl, _⟩ := hx
  obtain ⟨⟨⟨kt, kn⟩, kf, ko⟩, ps⟩ := x
  refine Abs.Spec.fn (n := 22) Tryd.func55 rfl rfl fun own => ?_
  refine AW.seq (AW.reg ?_)
  refine WT.boxT zr zr zr zr zr zr (fun i1 hi1 => ?_)
  refine ze hT zr zr zr zr zr ?_; refine WT.nil ?_; (iterate 2 refine AW.seq ?_); refine AW.reg ?_; (iterate 2 refine ze hT zr zr zr zr zr ?_); refine zl hT 0 zr zr zr zr zr zr me zr ?_; refine WT.nil ?_
  refine AW.cond rfl (fun ht => ?_) (fun ht => ?_)
  · have ht : kt = true := by simpa using ht
    subst ht
    refine AW.seq ?_; refine AW.reg ?_; refine ze hT zr zr zr zr zr ?_; refine zl hT 0 zr zr zr zr zr zr me zr ?_; refine ze hT zr zr zr zr zr ?_; refine zl hT 0 zr zr zr zr zr zr me zr ?_; (iterate 2 refine ze hT zr zr zr zr zr ?_); refine zl hT 0 zr zr zr zr zr zr me zr ?_
    refine WT.buildT hT zr zr zr zr zr zr zr zr zr zr zr zr zr zr (fun i2 hi2 => ?_)
    refine WT.freezeAll 0 rfl rfl (fun G1 hG1 hB1 => ?_)
    have hra : Arr tNat G1 (some ⟨i2, 0, none⟩) 4 1 (rankL ⟨⟨true, kn⟩, kf, ko⟩) := Bld.frozen (F := F) (B := [(i2, .cells false [.int .i64 kf, .int .i64 ko, .int .i64 0, .int .i64 kn])]) ⟨rfl, .inr ⟨i2, _, rfl, rfl, rfl, Cells.cons (l := [_]) (x := kf) rfl (Cells.cons (l := [_]) (x := ko) rfl (Cells.cons (l := [_]) (x := (0 : Nat)) rfl (Cells.single (R := tNat) (x := kn) rfl))), (by decide : 0 < tNat.size)⟩⟩ hG1 hB1
    refine ze hT zr zr zr zr zr ?_; refine WT.nil ?_
    exact AW.ret ⟨_, [], ⟨_, _, rfl, rfl, rfl⟩, (by repeat (first | exact List.Sublist.refl _ | refine List.Sublist.cons _ ?_)), rfl, _, _, rfl, hra⟩
  · have ht : kt = false := by simpa using ht
    subst ht
    refine AW.skip ?_; refine AW.seq ?_; refine AW.reg ?_; refine ze hT zr zr zr zr zr ?_; refine zl hT 0 zr zr zr zr zr zr me zr ?_; refine ze hT zr zr zr zr zr ?_; refine zl hT 0 zr zr zr zr zr zr me zr ?_; (iterate 2 refine ze hT zr zr zr zr zr ?_); refine zl hT 0 zr zr zr zr zr zr me zr ?_
    refine WT.buildT hT zr zr zr zr zr zr zr zr zr zr zr zr zr zr (fun i2 hi2 => ?_)
    refine WT.freezeAll 0 rfl rfl (fun G1 hG1 hB1 => ?_)
    have hra : Arr tNat G1 (some ⟨i2, 0, none⟩) 4 1 (rankL ⟨⟨false, kn⟩, kf, ko⟩) := Bld.frozen (F := F) (B := [(i2, .cells false [.int .i64 kf, .int .i64 ko, .int .i64 1, .int .i64 kn])]) ⟨rfl, .inr ⟨i2, _, rfl, rfl, rfl, Cells.cons (l := [_]) (x := kf) rfl (Cells.cons (l := [_]) (x := ko) rfl (Cells.cons (l := [_]) (x := (1 : Nat)) rfl (Cells.single (R := tNat) (x := kn) rfl))), (by decide : 0 < tNat.size)⟩⟩ hG1 hB1
    refine ze hT zr zr zr zr zr ?_; refine WT.nil ?_
    exact AW.ret ⟨_, [], ⟨_, _, rfl, rfl, rfl⟩, (by repeat (first | exact List.Sublist.refl _ | refine List.Sublist.cons _ ?_)), rfl, _, _, rfl, hra⟩

theorem less_spec (F : Frz) {l m : List Value} (x y : Node) (hx : tNode.rel F l x) (hy : tNode.rel F m y) : Abs.Spec CC 22 [.agg ⟨l⟩, .agg ⟨m⟩] F [] fun _ v o => o = [] ∧ v = .bool (decide (cmpNats (rankL x.key) (rankL y.key) < 0)) := by
  have hx0 := hx
  have hy0 := hy
  obtain ⟨a, n, c, rfl, _⟩ := hx
  obtain ⟨a', n', c', rfl, _⟩ := hy
  refine Abs.Spec.fn (n := 14) Tryd.func22 rfl rfl fun own => ?_
  refine AW.seq (AW.reg ?_)
  refine WT.boxT zr zr zr zr zr zr (fun i2 hi2 => ?_)
  refine WT.boxT zr zr zr zr zr zr (fun i3 hi3 => ?_)
  refine ze hT zr zr zr zr zr ?_; refine WT.nil ?_; refine AW.seq ?_; refine AW.reg ?_; refine ze hT zr zr zr zr zr ?_; refine WT.nil ?_; refine AW.seq ?_
  refine AW.draw (ps := [(4, 2)]) rfl rfl ?_
  refine ze hT zr zr zr zr zr ?_; refine zl hT 1 zr zr zr zr zr zr me zr ?_
  refine WT.callCF0 Tryd.func55 zr zr zr zr zr zr zr zr (rank_spec _ x hx0) (fun F1 v hF1 hv => ?_)
  obtain ⟨ra, rc, rfl, hra⟩ := hv
  refine ze hT zr zr zr zr zr ?_; refine zl hT 0 zr zr zr zr zr zr me zr ?_
  refine WT.callCF0 Tryd.func55 zr zr zr zr zr zr zr zr (rank_spec _ y (tNode.mono _ _ _ _ hF1 hy0)) (fun F2 v hF2 hv => ?_)
  obtain ⟨sa, sc, rfl, hsa⟩ := hv
  skip
  refine WT.callV Tryd.func23 zr zr zr zr zr zr (numCompare_spec _ (hra.mono hF2) hsa (by decide) (by decide)) (fun v hv => ?_)
  subst hv
  (iterate 2 refine ze hT zr zr zr zr zr ?_); refine WT.nil ?_
  refine ⟨(by repeat (first | exact trivial | refine recs_pair rfl rfl (by first | exact keep0 | exact keep1 (keeps_frz (by assumption)) | exact kp 0 0 me me | exact kp 1 1 me me | exact kp 2 2 me me | exact kp 3 3 me me | exact kp 4 4 me me | exact kp 5 5 me me | exact kp 6 6 me me | exact kp 0 1 me me | exact kp 1 2 me me | exact kp 2 3 me me | exact kp 3 4 me me | exact kp 4 5 me me | exact kp 5 6 me me | exact kp 6 7 me me) ?_)), ?_⟩
  skip
  exact AW.ret ⟨_, [], ⟨_, _, rfl, rfl, rfl⟩, (by repeat (first | exact List.Sublist.refl _ | refine List.Sublist.cons _ ?_)), rfl, rfl⟩

theorem rank_lt {x y : Key} (h : ltKey x y = true) : cmpNats (rankL x) (rankL y) < 0 := by
  rw [ltKey_iff] at h
  obtain ⟨⟨xt, xn⟩, xf, xo⟩ := x
  obtain ⟨⟨yt, yn⟩, yf, yo⟩ := y
  rw [cmpSym_lt] at h
  simp only at h
  unfold rankL
  simp only [cmpNats, cmpInt]
  cases xt <;> cases yt <;> simp at h ⊢ <;> repeat' split <;> omega

/-! ### Index and Contains of truth values -/
def tBool : Ty Bool where
  size := 1
  rel := fun _ l x => l = [.bool x]
  len := fun _ _ _ h => by subst h; rfl
  one := fun _ _ _ h => by subst h; rfl
  mono := fun _ _ _ _ _ h => h

theorem boolIdx_spec (F : Frz) {a : Option Addr} {m c : Nat} {xs : List Bool} (hx : Arr tBool F a m c xs) (hm : m ≤ 1000000) (y : Bool) :
    Abs.Spec CC 57 [.slice a m c, .bool y] F [] fun _ v o => o = [] ∧ v = .int .i64 (idxOf (fun x => decide (y = x)) xs) := by
  refine Abs.Spec.fn (n := 19) Tryd.func57 rfl rfl fun own => ?_
  have hxlen := hx.len
  refine AW.seq ?_; refine AW.reg ?_; refine ze hT zr zr zr zr zr ?_; refine WT.nil ?_; (iterate 2 refine AW.seq ?_); refine AW.reg ?_; (iterate 3 refine ze hT zr zr zr zr zr ?_); refine WT.nil ?_
  refine AW.range (S := Unit) (fun _ => []) (fun _ => _) (fun j _ G => ∀ z ∈ xs.take j, decide (y = z) = false) m () zr zr zr zr zr zr zr zr zr (by omega) rfl rfl (fun _ => rfl) (fun _ => rfl) (SubK.of_map rfl) (OwnLe.refl _) (by simp) ?_ ?_
  · intro j _ F1 hF1 hj hP
    have hx1 := hx.mono hF1
    refine AW.seq ?_; refine AW.reg ?_; (iterate 2 refine ze hT zr zr zr zr zr ?_); refine WT.nil ?_; refine AW.seq ?_; refine AW.reg ?_; (iterate 3 refine ze hT zr zr zr zr zr ?_)
    refine WT.idxL hT hx1 zr zr zr zr zr zr zr zr zr (by omega) (fun x hxj b1 off ro cs lx hb hp1 hrel => ?_)
    obtain rfl : lx = _ := hrel
    refine zi (fo := 0) hT (by assumption) (by assumption) zr zr zr zr zr zr ?_; refine zu hT zr zr zr zr zr zr zr zr ?_; refine WT.nil ?_
    refine AW.cond rfl (fun hc => ?_) (fun hc => ?_)
    · refine AW.seq ?_; refine AW.reg ?_; (iterate 2 refine ze hT zr zr zr zr zr ?_); refine WT.nil ?_
      refine AW.ret ⟨_, [], ⟨_, _, rfl, rfl, rfl⟩, (by repeat (first | exact List.Sublist.refl _ | refine List.Sublist.cons _ ?_)), rfl, ?_⟩
      rw [idxOf_at hxj (by simp at hc; simp; exact hc) hP]; rfl
    · refine AW.skip ?_
      exact ⟨(), SubK.of_map rfl, (by repeat (first | exact OwnLe.refl _ | refine OwnLe.skip _ ?_)), take_all hxj hP (by simp at hc; simp; exact hc)⟩
  · intro _ F1 hF1 hP
    rw [List.take_of_length_le (by omega)] at hP
    refine AW.seq ?_; refine AW.reg ?_; refine ze hT zr zr zr zr zr ?_; refine WT.nil ?_
    refine AW.ret ⟨_, [], ⟨_, _, rfl, rfl, rfl⟩, (by repeat (first | exact List.Sublist.refl _ | refine List.Sublist.cons _ ?_)), rfl, ?_⟩
    rw [idxOf_none hP]; rfl

theorem boolContains_spec (F : Frz) {a : Option Addr} {m c : Nat} {xs : List Bool} (hx : Arr tBool F a m c xs) (hm : m ≤ 1000000) (y : Bool) :
    Abs.Spec CC 24 [.slice a m c, .bool y] F [] fun _ v o => o = [] ∧ v = .bool (decide (y ∈ xs)) := by
  refine Abs.Spec.fn (n := 9) Tryd.func24 rfl rfl fun own => ?_
  refine AW.seq ?_; refine AW.reg ?_; refine ze hT zr zr zr zr zr ?_; refine WT.nil ?_; refine AW.seq ?_; refine AW.reg ?_; (iterate 2 refine ze hT zr zr zr zr zr ?_)
  refine WT.callV Tryd.func57 zr zr zr zr zr zr (boolIdx_spec _ hx hm y) (fun v hv => ?_)
  subst hv
  (iterate 2 refine ze hT zr zr zr zr zr ?_); refine WT.nil ?_
  refine AW.ret ⟨_, [], ⟨_, _, rfl, rfl, rfl⟩, (by repeat (first | exact List.Sublist.refl _ | refine List.Sublist.cons _ ?_)), rfl, ?_⟩
  have : decide (idxOf (fun x => decide (y = x)) xs ≥ 0) = decide (y ∈ xs) := by
    rw [idxOf_nonneg, Bool.eq_iff_iff]; simp
  rw [← this]; rfl

/-! ### the shape of a forest -/
/-- Keys that follow each other. -/
def Chain (to : Nat) : List Sym → Nat → List Key → Prop
  | [], i, ks => ks = [] ∧ i = to
  | s :: l, i, ks => ∃ q ks', ks = q :: ks' ∧ q.sym = s ∧ q.frm = i ∧ Chain to l q.to ks'

theorem splits_chain {w : List Nat} {E : List (List Nat)} {to : Nat} : ∀ {l : List Sym} {i : Nat} {ks : List Key}, ks ∈ splits w E to l i → Chain to l i ks
  | [], i, ks, h => by
    unfold splits at h
    split at h
    · rename_i h1
      exact ⟨List.mem_singleton.1 h, h1⟩
    · cases h
  | s :: l, i, ks, h => by
    unfold splits at h
    obtain ⟨m, _, hm⟩ := List.mem_flatMap.1 h
    split at hm
    · obtain ⟨ks', h2, rfl⟩ := List.mem_map.1 hm
      exact ⟨_, ks', rfl, rfl, rfl, splits_chain h2⟩
    · cases hm

/-- The end of the first keys. -/
def endAt (i : Nat) (ks : List Key) : Nat → Nat
  | 0 => i
  | j + 1 => match ks[j]? with | some q => q.to | none => i

theorem Chain.at_ {to : Nat} : ∀ {l : List Sym} {i : Nat} {ks : List Key}, Chain to l i ks → ∀ {j : Nat} {q : Key}, ks[j]? = some q → l[j]? = some q.sym ∧ q.frm = endAt i ks j
  | [], i, ks, h, j, q, hq => by
    obtain ⟨rfl, _⟩ := h
    simp at hq
  | s :: l, i, ks, h, j, q, hq => by
    obtain ⟨q0, ks', rfl, h1, h2, h3⟩ := h
    cases j with
    | zero =>
      obtain rfl : q0 = q := by simpa using hq
      exact ⟨by simp [h1], h2⟩
    | succ j =>
      rw [List.getElem?_cons_succ] at hq
      obtain ⟨h4, h5⟩ := h3.at_ hq
      refine ⟨by rw [List.getElem?_cons_succ]; exact h4, ?_⟩
      rw [h5]
      cases j with
      | zero => simp [endAt]
      | succ j =>
        simp only [endAt, List.getElem?_cons_succ]
        have : ∃ q', ks'[j]? = some q' := ⟨_, List.getElem?_eq_getElem (by have := (List.getElem?_eq_some_iff.1 hq).1; omega)⟩
        obtain ⟨q', hq'⟩ := this
        rw [hq']

theorem Chain.end_ {to : Nat} : ∀ {l : List Sym} {i : Nat} {ks : List Key}, Chain to l i ks → endAt i ks ks.length = to ∧ ks.length = l.length
  | [], i, ks, h => by
    obtain ⟨rfl, h⟩ := h
    exact ⟨h, rfl⟩
  | s :: l, i, ks, h => by
    obtain ⟨q0, ks', rfl, h1, h2, h3⟩ := h
    obtain ⟨h4, h5⟩ := h3.end_
    refine ⟨?_, by simp [h5]⟩
    rw [List.length_cons]
    simp only [endAt]
    rw [← h4]
    cases hk : ks'.length with
    | zero => simp [endAt]
    | succ j =>
      have hlt : j < ks'.length := by omega
      rw [List.getElem?_cons_succ]
      simp only [endAt]
      rw [List.getElem?_eq_getElem hlt]

/-- What the law looks at in a node's pack. -/
structure PackOk (g : Gram) (S : List Key) (k : Key) (p : NPack) (kp : KPack) : Prop where
  num : p = numPack S kp
  rule : ∃ r, g.rules[kp.rule]? = some r ∧ r.left = k.sym.n ∧ Chain k.to r.right k.frm kp.kids
  ins : ∀ q ∈ kp.kids, q ∈ S

structure NodeOk (g : Gram) (w : List Nat) (S : List Key) (k : Key) (x : Node) : Prop where
  key : x.key = k
  term : k.sym.term = true → k.to = k.frm + 1 ∧ k.to ≤ w.length ∧ w[k.frm]? = some k.sym.n ∧ x.packs = []
  non : k.sym.term = false → x.packs ≠ []
  pack : ∀ p ∈ x.packs, ∃ kp, PackOk g S k p kp
  sorted : x.packs.Pairwise fun x y => cmpNPack x y < 0

theorem packsOf_term {g : Gram} {w : List Nat} {E : List (List Nat)} {k : Key} (h : k.sym.term = true) : packsOf g w E k = [] := by
  rw [List.eq_nil_iff_forall_not_mem]
  intro p hp
  obtain ⟨r, _, _, h3, _⟩ := mem_packsOf.1 hp
  rw [h] at h3; cases h3

theorem stepB_term {w : List Nat} {E : List (List Nat)} {n i j : Nat} (h : stepB w E ⟨true, n⟩ i j = true) : j = i + 1 ∧ w[i]? = some n := by
  rw [stepB_iff] at h
  have h : Step w E ⟨true, n⟩ i j := h
  unfold Step at h
  simp only [if_true] at h
  exact ⟨h.2, h.1⟩

theorem node_shape {g : Gram} (hg : Valid g) {w : List Nat} {E : List (List Nat)} (hE : EndsOf g w E) {root : Key} {S : List Key} (hK : Keys g w E root S) (hroot : GoodKey g w root) (hrs : StepK w E root) {k : Key} (hk : k ∈ S) : NodeOk g w S k (mkNode g w E S k) where
  key := rfl
  term := fun h => by
    have hgood := (hK.reach k hk).good hg hroot
    have hst := (hK.reach k hk).step hrs
    obtain ⟨⟨kt, kn⟩, kf, ko⟩ := k
    have h : kt = true := h
    subst h
    obtain ⟨h1, h2⟩ := stepB_term hst
    refine ⟨h1, hgood.2.2, h2, ?_⟩
    unfold mkNode
    rw [packsOf_term rfl]; rfl
  non := fun h hn => by
    have hp := nodes_prod hg hE hK hroot hrs
    obtain ⟨v, hv, hvk⟩ := List.getElem_of_mem hk
    obtain ⟨d, hd⟩ := hp v (by rw [List.length_map]; exact hv)
    have hx : (S.map (mkNode g w E S))[v]? = some (mkNode g w E S k) := by rw [List.getElem?_map, List.getElem?_eq_getElem hv, hvk]; rfl
    cases d with
    | zero => simp [nodeT] at hd
    | succ d =>
      unfold nodeT at hd
      rw [hx] at hd
      simp only at hd
      rw [hn] at hd
      simp [leafN, mkNode, h] at hd
  pack := fun p hp => by
    obtain ⟨kp, hkp, rfl⟩ := List.mem_map.1 hp
    obtain ⟨r, h1, h2, _, h3⟩ := mem_packsOf.1 hkp
    exact ⟨kp, rfl, ⟨r, h1, h2, splits_chain h3⟩, fun q hq => hK.closed k hk kp hkp q hq⟩
  sorted := (node_sorted hK hk).imp fun h => h.2

/-- Every key but the root is a kid. -/
theorem kid_of {g : Gram} {w : List Nat} {E : List (List Nat)} {root : Key} {S : List Key} (hK : Keys g w E root S) {q : Key} (hq : q ∈ S) (hne : q ≠ root) : ∃ x ∈ S.map (mkNode g w E S), ∃ p ∈ x.packs, place S q ∈ p.kids := by
  cases hK.reach q hq with
  | root => exact absurd rfl hne
  | @kid k q p h1 h2 h3 =>
    exact ⟨_, List.mem_map.2 ⟨k, hK.all h1, rfl⟩, _, List.mem_map.2 ⟨p, h2, rfl⟩, List.mem_map.2 ⟨q, h3, rfl⟩⟩
end Go.Proofs.D

set_option linter.unusedVariables false
set_option maxRecDepth 20000
set_option maxHeartbeats 0
open Go Go.Abs Go.Proofs Go.Proofs.D
namespace Go.Proofs.D



theorem cmpNats_pack (x y : NPack) : cmpNats (x.rule :: x.kids) (y.rule :: y.kids) = cmpNPack x y := by
  unfold cmpNPack
  simp only [cmpNats, orInt]
  split
  · split <;> simp_all
  · rfl

theorem cells_bool {F : Frz} : ∀ K : List Bool, Cells tBool F (K.map cBool.cell) K
  | [] => .nil
  | x :: K => Cells.cons (l := [.bool x]) rfl (cells_bool K)

theorem cell_set (K : List Bool) (c : Nat) : (K.map cBool.cell).set (0 + c * 1) (.bool true) = (K.set c true).map cBool.cell := by
  rw [Nat.zero_add, Nat.mul_one, List.map_set]; rfl

theorem set_true {K : List Bool} {c i : Nat} (h : K[i]? = some true) : (K.set c true)[i]? = some true := by
  by_cases e : i = c
  · subst e; rw [List.getElem?_set_self (List.getElem?_eq_some_iff.1 h).1]
  · rw [List.getElem?_set_ne (Ne.symm e)]; exact h

theorem forestShape_law (F : Frz) (hL : Laid F) {a b : Option Addr} {m n c d : Nat} {l w0 : List Int} (hl : Arr tInt F a m c l) (hw0 : Arr tInt F b n d w0) (hm : n ≤ 9223372036854775807) :
    Abs.Spec CC 4 [.slice a m c, .slice b n d] F [] fun _ v o => o = [] ∧ v = .bool true := by
  refine Abs.Spec.fn (n := 316) Tryd.func4 rfl rfl fun own => ?_
  refine AW.seq ?_; refine AW.reg ?_; refine ze hT zr zr zr zr zr ?_; refine WT.nil ?_; refine AW.seq ?_; refine AW.reg ?_; (iterate 2 refine ze hT zr zr zr zr zr ?_)
  refine WT.callF0 Tryd.func13 zr zr zr zr zr zr (made_spec _ hl hw0 hm 8 (by decide)) (fun F1 v hF1 hv => ?_)
  obtain ⟨g, ga, gm, gc, wa, wn, wc, w, rfl, hg, hr, hw, hw1, hw2⟩ := hv
  have hL1 := hL.mono hF1
  have hwlen := hw.len
  subst hwlen
  have hgl := hr.len
  have hgr := hg.rules
  have hgn := hg.nons
  have hgs := hg.start
  have hv := hg.valid
  unfold gramCells
  (iterate 3 refine ze hT zr zr zr zr zr ?_)
  refine WT.allocT hT zr zr zr zr zr zr (fun i5 hi5 => ?_)
  refine zs hT 0 0 zr zr zr zr zr zr zr zr zr zr zr zr ?_; refine ze hT zr zr zr zr zr ?_; refine WT.nil ?_; refine AW.seq ?_; refine AW.reg ?_; refine zl hT 0 zr zr zr zr zr zr me zr ?_; refine ze hT zr zr zr zr zr ?_
  refine WT.callF0 Tryd.func16 zr zr zr zr zr zr (forestOf_spec _ hL1 g hv hr hw (by omega) hw2) (fun F2 v hF2 hv2 => ?_)
  have hL2 := hL1.mono hF2
  obtain ⟨E, hE, hv2⟩ := hv2
  rcases hv2 with ⟨s, xa, xn, xc, xr, hs, rfl, hx, hx2⟩ | ⟨rfl, hx, hx2⟩
  · rcases hx with ⟨h1, rfl⟩ | ⟨h1, S, fa, fn, fc, rfl, hK, hA⟩
    · (iterate 3 refine ze hT zr zr zr zr zr ?_)
      refine WT.allocT hT zr zr zr zr zr zr (fun i6 hi6 => ?_)
      refine zs hT 0 0 zr zr zr zr zr zr zr zr zr zr zr zr ?_; refine ze hT zr zr zr zr zr ?_; refine WT.nil ?_; (iterate 2 refine AW.seq ?_); refine AW.reg ?_
      refine WT.callV Tryd.func18 zr zr zr zr zr zr (Abs.Spec.fact rfl hL2) (fun v hv => ?_)
      subst hv
      (iterate 5 refine ze hT zr zr zr zr zr ?_); refine WT.nil ?_
      refine AW.cond rfl (fun h => (by cases h)) (fun _ => ?_)
      refine AW.skip ?_; (iterate 2 refine AW.seq ?_); refine AW.reg ?_; refine ze hT zr zr zr zr zr ?_; refine zl hT 0 zr zr zr zr zr zr me zr ?_; refine ze hT zr zr zr zr zr ?_; refine WT.nil ?_
      refine AW.cond rfl (fun _ => ?_) (fun h => (by cases h))
      refine AW.seq ?_; refine AW.reg ?_; refine ze hT zr zr zr zr zr ?_; refine zl hT 0 zr zr zr zr zr zr me zr ?_; (iterate 3 refine ze hT zr zr zr zr zr ?_); refine WT.nil ?_
      exact AW.ret ⟨_, [], ⟨_, _, rfl, rfl, rfl⟩, (by repeat (first | exact List.Sublist.refl _ | refine List.Sublist.cons _ ?_)), rfl, rfl⟩
    · have hroot := root_good hv w
      have hfl := hA.len
      rw [List.length_map] at hfl
      have hsl : S.length ≤ 200000 := good_few hv (by omega) (fun k hk => (hK.reach k hk).good hv hroot) hK.nodup
      have hpl := place_at hK.first
      have hplt := (List.getElem?_eq_some_iff.1 hpl).1
      have hw3 := hw.mono hF2
      have hr3 := hr.mono hF2
      (iterate 3 refine ze hT zr zr zr zr zr ?_)
      refine WT.allocT hT zr zr zr zr zr zr (fun i6 hi6 => ?_)
      refine zs hT 0 0 zr zr zr zr zr zr zr zr zr zr zr zr ?_; refine ze hT zr zr zr zr zr ?_; refine WT.nil ?_; (iterate 2 refine AW.seq ?_); refine AW.reg ?_
      refine WT.callV Tryd.func18 zr zr zr zr zr zr (Abs.Spec.fact rfl hL2) (fun v hv => ?_)
      subst hv
      (iterate 5 refine ze hT zr zr zr zr zr ?_); refine WT.nil ?_
      refine AW.cond rfl (fun h => (by cases h)) (fun _ => ?_)
      refine AW.skip ?_; (iterate 2 refine AW.seq ?_); refine AW.reg ?_; refine ze hT zr zr zr zr zr ?_; refine zl hT 0 zr zr zr zr zr zr me zr ?_; refine ze hT zr zr zr zr zr ?_; refine WT.nil ?_
      refine AW.cond rfl (fun h => (by simp at h)) (fun _ => ?_)
      refine AW.skip ?_; refine AW.seq ?_; refine AW.reg ?_; refine ze hT zr zr zr zr zr ?_; refine zl hT 0 zr zr zr zr zr zr me zr ?_; refine ze hT zr zr zr zr zr ?_
      refine WT.makeT (l := fn) hT zr zr zr zr zr zr zr zr zr zr zr zr (by first | omega | (dsimp only at *; omega)) (fun ik hik => ?_)
      rw [cap_eq, if_neg (show ¬ fn = 0 by omega)]
      refine ze hT zr zr zr zr zr ?_; refine WT.nil ?_; (iterate 2 refine AW.seq ?_); refine AW.reg ?_; refine ze hT zr zr zr zr zr ?_; refine zl hT 1 zr zr zr zr zr zr me zr ?_; (iterate 2 refine ze hT zr zr zr zr zr ?_); refine WT.nil ?_
      have e0 : List.replicate fn (Value.bool false) = (List.replicate fn false).map cBool.cell := by rw [List.map_replicate]; rfl
      refine AW.range (S := List Bool) (fun _ => []) (fun K => [(ik, .cells false (K.map cBool.cell))] :: [(i6, .cells false [.slice fa fn fc, .int .i64 (place S (rootKey g w) : Nat)])] :: [(i5, .cells false [.int .i64 g.terms, .int .i64 g.nons, .int .i64 g.start, .slice ga gm gc])] :: own)
        (fun j K G => K.length = fn ∧ ∀ x ∈ (S.map (mkNode g w E S)).take j, ∀ p ∈ x.packs, ∀ c ∈ p.kids, K[c]? = some true) fn (List.replicate fn false)
        zr zr zr zr zr zr zr zr zr (by omega) rfl rfl (fun _ => rfl) (fun _ => rfl) (SubK.of_map rfl) (by rw [← e0]; exact OwnLe.refl _) ⟨by simp, by simp⟩ ?_ ?_
      · intro j K F3 hF3 hj hK1
        obtain ⟨hK0, hK1⟩ := hK1
        have hA4 := hA.mono hF3
        have hw4 := hw3.mono hF3
        have hr4 := hr3.mono hF3
        refine AW.seq ?_; refine AW.reg ?_; refine ze hT zr zr zr zr zr ?_
        have hml : (S.map (mkNode g w E S)).length = fn := hA.len.symm
        refine WT.idxL hT hA4 zr zr zr zr zr zr zr zr zr (by omega) (fun x hxj b5 off5 ro5 cs5 lx5 hb5 hp5 hrel5 => ?_)
        obtain ⟨k, hk, rfl⟩ : ∃ k, S[j]? = some k ∧ x = mkNode g w E S k := by
          rw [List.getElem?_map] at hxj
          cases hk : S[j]? with
          | none => rw [hk] at hxj; cases hxj
          | some k => rw [hk] at hxj; exact ⟨k, rfl, (Option.some.inj hxj).symm⟩
        have hkm := List.mem_of_getElem? hk
        have hok := node_shape hv hE hK hroot h1 hkm
        have hrel0 := hrel5
        obtain ⟨pa, pn, pc, hlx, hpa⟩ := hrel5
        have hlx : lx5 = [.bool k.sym.term, .int .i64 k.sym.n, .int .i64 k.frm, .int .i64 k.to, .slice pa pn pc] := hlx
        subst hlx
        have hpal := hpa.len
        have hpfew := (nodes_ok hv (by omega) hK hroot).packs _ (List.mem_of_getElem? hxj)
        refine zi (fo := 0) hT (by assumption) (by assumption) zr zr zr zr zr zr ?_
        refine WT.allocT hT zr zr zr zr zr zr (fun i10 hi10 => ?_)
        refine ze hT zr zr zr zr zr ?_
        refine zs hT 0 0 zr zr zr zr zr zr zr zr zr zr zr zr ?_
        refine WT.nil ?_
        refine AW.seq ?_
        refine AW.seq ?_
        refine AW.jnT (S := Unit) (fun _ => [(124, .bool false)]) (fun _ => [(i10, .cells false [.bool k.sym.term, .int .i64 k.sym.n, .int .i64 k.frm, .int .i64 k.to, .slice pa pn pc])] :: [(ik, .cells false (K.map cBool.cell))] :: [(i6, .cells false [.slice fa fn fc, .int .i64 (place S (rootKey g w) : Nat)])] :: [(i5, .cells false [.int .i64 g.terms, .int .i64 g.nons, .int .i64 g.start, .slice ga gm gc])] :: own) (fun _ _ => True) ?_ (fun _ F4 hF4 _ => ?_)
        · refine AW.draw (ps := []) zr zr ?_; (iterate 3 refine ze hT zr zr zr zr zr ?_)
          refine WT.split 60 rfl (fun hj0 => ?_) (fun hj0 => ?_)
          · have hj0 : 0 < j := by simp at hj0; omega
            refine ze hT zr zr zr zr zr ?_; refine zl hT 2 zr zr zr zr zr zr me zr ?_; refine ze hT zr zr zr zr zr ?_; refine WT.sub1 zr zr zr zr zr zr (by omega) ?_
            refine WT.idxL (j := j - 1) hT hA4 zr zr zr zr zr zr zr zr zr (by omega) (fun y hyj b6 off6 ro6 cs6 ly hb6 hp6 hrel6 => ?_)
            have hlt : ltKey y.key k = true := by
              rw [List.getElem?_map] at hyj
              cases hk2 : S[j - 1]? with
              | none => rw [hk2] at hyj; cases hyj
              | some k2 =>
                rw [hk2] at hyj
                obtain rfl := Option.some.inj hyj
                obtain ⟨q1, q2⟩ := List.getElem?_eq_some_iff.1 hk2
                obtain ⟨q3, q4⟩ := List.getElem?_eq_some_iff.1 hk
                have := List.pairwise_iff_getElem.1 hK.sorted (j - 1) j q1 q3 (by omega)
                rw [q2, q4] at this
                exact this
            have hly := tNode.len _ _ _ hrel6
            have hrel7 := hrel6
            obtain ⟨ya, yn, yc, rfl, hya⟩ := hrel6
            refine zi (fo := 0) hT (by assumption) (by assumption) zr zr zr zr zr zr ?_; refine zl hT 0 zr zr zr zr zr zr me zr ?_
            refine WT.callV Tryd.func22 zr zr zr zr zr zr (less_spec _ y (mkNode g w E S k) hrel7 hrel0) (fun v hv2 => ?_)
            subst hv2
            refine WT.know (v' := .bool true) 68 rfl (congrArg Value.bool (decide_eq_true (rank_lt hlt))) ?_
            (iterate 5 refine ze hT zr zr zr zr zr ?_); refine zl hT 0 zr zr zr zr zr zr me zr ?_; refine ze hT zr zr zr zr zr ?_
            refine WT.split 75 rfl (fun ht => ?_) (fun ht => ?_)
            · obtain ⟨e1, e2, e3, e4⟩ := hok.term ht
              have e1 : k.to = k.frm + 1 := e1
              have e0 : k.frm ≤ 8 := by have : k.to ≤ w.length := e2; omega
              have e2 : k.to ≤ w.length := e2
              have e4' : pn = 0 := by rw [hpal]; exact congrArg List.length e4
              subst e4'
              refine ze hT zr zr zr zr zr ?_; refine zl hT 0 zr zr zr zr zr zr me zr ?_; (iterate 3 refine ze hT zr zr zr zr zr ?_); refine zl hT 0 zr zr zr zr zr zr me zr ?_; refine ze hT zr zr zr zr zr ?_; refine zl hT 0 zr zr zr zr zr zr me zr ?_; refine WT.add1 zr zr zr zr zr zr (by omega) ?_; (iterate 3 refine ze hT zr zr zr zr zr ?_)
              refine WT.split 79 rfl (fun h => (by exfalso; have h := of_decide_eq_true h; omega)) (fun _ => ?_)
              skip
              refine WT.split 87 rfl (fun h => (by exfalso; simp at h; omega)) (fun _ => ?_)
              refine ze hT zr zr zr zr zr ?_; refine zl hT 0 zr zr zr zr zr zr me zr ?_; (iterate 5 refine ze hT zr zr zr zr zr ?_)
              refine WT.split 94 rfl (fun h => (by exfalso; simp at h; omega)) (fun _ => ?_)
              (iterate 2 refine ze hT zr zr zr zr zr ?_); refine zl hT 0 zr zr zr zr zr zr me zr ?_
              refine WT.idxL hT hw4 zr zr zr zr zr zr zr zr zr (show k.frm < w.length by omega) (fun y hyj b6 off6 ro6 cs6 ly hb6 hp6 hrel6 => ?_)
              obtain rfl : ly = _ := hrel6
              obtain rfl : y = k.sym.n := by have hyj : w[k.frm]? = some y := hyj; rw [e3] at hyj; exact (Option.some.inj hyj).symm
              refine zi (fo := 0) hT (by assumption) (by assumption) zr zr zr zr zr zr ?_; (iterate 2 refine ze hT zr zr zr zr zr ?_); refine zl hT 0 zr zr zr zr zr zr me zr ?_; (iterate 3 refine ze hT zr zr zr zr zr ?_)
              refine WT.split 105 rfl (fun h => (by exfalso; simp at h)) (fun _ => ?_)
              refine ze hT zr zr zr zr zr ?_; refine zl hT 0 zr zr zr zr zr zr me zr ?_; (iterate 8 refine ze hT zr zr zr zr zr ?_); refine zl hT 0 zr zr zr zr zr zr me zr ?_; (iterate 2 refine ze hT zr zr zr zr zr ?_)
              refine WT.know (v' := .bool false) 118 rfl (by rw [ht]; rfl) ?_
              (iterate 4 refine zx zr zr zr zr ?_); (iterate 2 refine ze hT zr zr zr zr zr ?_); refine WT.nil ?_; refine And.intro trivial ?_
              exact ⟨(), SubK.of_map rfl, OwnLe.refl _, trivial⟩
            · have e5 : pn ≠ 0 := by
                intro h0
                exact hok.non ht (List.eq_nil_of_length_eq_zero (by rw [← hpal]; exact h0))
              (iterate 35 refine zx zr zr zr zr ?_); (iterate 5 refine ze hT zr zr zr zr zr ?_); refine zl hT 0 zr zr zr zr zr zr me zr ?_; (iterate 2 refine ze hT zr zr zr zr zr ?_)
              refine WT.know (v' := .bool true) 118 rfl (by rw [ht]; rfl) ?_
              refine ze hT zr zr zr zr zr ?_
              refine zl hT 0 zr zr zr zr zr zr me rfl ?_
              refine ze hT zr zr zr zr zr ?_
              refine ze hT zr zr zr zr zr ?_
              refine WT.know (v' := .bool false) 122 rfl (by congr 1; simp; omega) ?_
              (iterate 2 refine ze hT zr zr zr zr zr ?_); refine WT.nil ?_; refine And.intro trivial ?_
              exact ⟨(), SubK.of_map rfl, OwnLe.refl _, trivial⟩
          · (iterate 9 refine zx zr zr zr zr ?_); (iterate 4 refine ze hT zr zr zr zr zr ?_); refine zl hT 0 zr zr zr zr zr zr me zr ?_; refine ze hT zr zr zr zr zr ?_
            refine WT.split 75 rfl (fun ht => ?_) (fun ht => ?_)
            · obtain ⟨e1, e2, e3, e4⟩ := hok.term ht
              have e1 : k.to = k.frm + 1 := e1
              have e0 : k.frm ≤ 8 := by have : k.to ≤ w.length := e2; omega
              have e2 : k.to ≤ w.length := e2
              have e4' : pn = 0 := by rw [hpal]; exact congrArg List.length e4
              subst e4'
              refine ze hT zr zr zr zr zr ?_; refine zl hT 0 zr zr zr zr zr zr me zr ?_; (iterate 3 refine ze hT zr zr zr zr zr ?_); refine zl hT 0 zr zr zr zr zr zr me zr ?_; refine ze hT zr zr zr zr zr ?_; refine zl hT 0 zr zr zr zr zr zr me zr ?_; refine WT.add1 zr zr zr zr zr zr (by omega) ?_; (iterate 3 refine ze hT zr zr zr zr zr ?_)
              refine WT.split 79 rfl (fun h => (by exfalso; have h := of_decide_eq_true h; omega)) (fun _ => ?_)
              skip
              refine WT.split 87 rfl (fun h => (by exfalso; simp at h; omega)) (fun _ => ?_)
              refine ze hT zr zr zr zr zr ?_; refine zl hT 0 zr zr zr zr zr zr me zr ?_; (iterate 5 refine ze hT zr zr zr zr zr ?_)
              refine WT.split 94 rfl (fun h => (by exfalso; simp at h; omega)) (fun _ => ?_)
              (iterate 2 refine ze hT zr zr zr zr zr ?_); refine zl hT 0 zr zr zr zr zr zr me zr ?_
              refine WT.idxL hT hw4 zr zr zr zr zr zr zr zr zr (show k.frm < w.length by omega) (fun y hyj b6 off6 ro6 cs6 ly hb6 hp6 hrel6 => ?_)
              obtain rfl : ly = _ := hrel6
              obtain rfl : y = k.sym.n := by have hyj : w[k.frm]? = some y := hyj; rw [e3] at hyj; exact (Option.some.inj hyj).symm
              refine zi (fo := 0) hT (by assumption) (by assumption) zr zr zr zr zr zr ?_; (iterate 2 refine ze hT zr zr zr zr zr ?_); refine zl hT 0 zr zr zr zr zr zr me zr ?_; (iterate 3 refine ze hT zr zr zr zr zr ?_)
              refine WT.split 105 rfl (fun h => (by exfalso; simp at h)) (fun _ => ?_)
              refine ze hT zr zr zr zr zr ?_; refine zl hT 0 zr zr zr zr zr zr me zr ?_; (iterate 8 refine ze hT zr zr zr zr zr ?_); refine zl hT 0 zr zr zr zr zr zr me zr ?_; (iterate 2 refine ze hT zr zr zr zr zr ?_)
              refine WT.know (v' := .bool false) 118 rfl (by rw [ht]; rfl) ?_
              (iterate 4 refine zx zr zr zr zr ?_); (iterate 2 refine ze hT zr zr zr zr zr ?_); refine WT.nil ?_; refine And.intro trivial ?_
              exact ⟨(), SubK.of_map rfl, OwnLe.refl _, trivial⟩
            · have e5 : pn ≠ 0 := by
                intro h0
                exact hok.non ht (List.eq_nil_of_length_eq_zero (by rw [← hpal]; exact h0))
              (iterate 35 refine zx zr zr zr zr ?_); (iterate 5 refine ze hT zr zr zr zr zr ?_); refine zl hT 0 zr zr zr zr zr zr me zr ?_; (iterate 2 refine ze hT zr zr zr zr zr ?_)
              refine WT.know (v' := .bool true) 118 rfl (by rw [ht]; rfl) ?_
              refine ze hT zr zr zr zr zr ?_
              refine zl hT 0 zr zr zr zr zr zr me rfl ?_
              refine ze hT zr zr zr zr zr ?_
              refine ze hT zr zr zr zr zr ?_
              refine WT.know (v' := .bool false) 122 rfl (by congr 1; simp; omega) ?_
              (iterate 2 refine ze hT zr zr zr zr zr ?_); refine WT.nil ?_; refine And.intro trivial ?_
              exact ⟨(), SubK.of_map rfl, OwnLe.refl _, trivial⟩
        · refine AW.cond rfl (fun h => (by cases h)) (fun _ => ?_)
          refine AW.skip ?_; refine AW.seq ?_; refine AW.reg ?_; refine ze hT zr zr zr zr zr ?_; refine zl hT 0 zr zr zr zr zr zr me zr ?_; (iterate 2 refine ze hT zr zr zr zr zr ?_); refine WT.nil ?_
          refine AW.range (S := List Bool) (fun _ => []) (fun K => [(i10, .cells false [.bool k.sym.term, .int .i64 k.sym.n, .int .i64 k.frm, .int .i64 k.to, .slice pa pn pc])] :: [(ik, .cells false (K.map cBool.cell))] :: [(i6, .cells false [.slice fa fn fc, .int .i64 (place S (rootKey g w) : Nat)])] :: [(i5, .cells false [.int .i64 g.terms, .int .i64 g.nons, .int .i64 g.start, .slice ga gm gc])] :: own)
            (fun j2 K G => K.length = fn ∧ (∀ x ∈ (S.map (mkNode g w E S)).take j, ∀ p ∈ x.packs, ∀ c ∈ p.kids, K[c]? = some true) ∧ ∀ p ∈ (mkNode g w E S k).packs.take j2, ∀ c ∈ p.kids, K[c]? = some true) pn K
            zr zr zr zr zr zr zr zr zr (by omega) rfl rfl (fun _ => rfl) (fun _ => rfl) (SubK.of_map rfl) (OwnLe.refl _) ⟨hK0, hK1, by simp⟩ ?_ ?_
          · intro j2 K2 F5 hF5 hj2 hP
            obtain ⟨hM0, hM1, hM2⟩ := hP
            have hpa5 := (hpa.mono hF4).mono hF5
            have hA5 := (hA4.mono hF4).mono hF5
            have hr5 := (hr4.mono hF4).mono hF5
            refine AW.seq ?_; refine AW.reg ?_; refine ze hT zr zr zr zr zr ?_
            refine WT.idxL hT hpa5 zr zr zr zr zr zr zr zr zr (by omega) (fun p hpj b7 off7 ro7 cs7 lx7 hb7 hp7 hrel7 => ?_)
            obtain ⟨kk, hpk⟩ := hok.pack p (List.mem_of_getElem? hpj)
            obtain ⟨rl, hr1, hr2, hr3⟩ := hpk.rule
            obtain rfl := hpk.num
            have hend := hr3.end_
            obtain ⟨ka, kn, kc, hlx, hka, hkb⟩ := hrel7
            have hlx : lx7 = [.int .i64 kk.rule, .slice ka kn kc] := hlx
            subst hlx
            have hkal := hka.len
            have hkn : kn = kk.kids.length := by rw [hkal]; exact List.length_map _
            have hrlt := (List.getElem?_eq_some_iff.1 hr1).1
            have hrr := (hg.ok rl (List.mem_of_getElem? hr1)).2.1
            refine zi (fo := 0) hT (by assumption) (by assumption) zr zr zr zr zr zr ?_
            refine WT.allocT hT zr zr zr zr zr zr (fun i12 hi12 => ?_)
            refine ze hT zr zr zr zr zr ?_
            refine zs hT 0 0 zr zr zr zr zr zr zr zr zr zr zr zr ?_
            refine WT.nil ?_
            refine AW.seq ?_
            refine AW.seq ?_
            refine AW.jnT (S := Unit) (fun _ => [(160, .bool false)]) (fun _ => [(i12, .cells false [.int .i64 kk.rule, .slice ka kn kc])] :: [(i10, .cells false [.bool k.sym.term, .int .i64 k.sym.n, .int .i64 k.frm, .int .i64 k.to, .slice pa pn pc])] :: [(ik, .cells false (K2.map cBool.cell))] :: [(i6, .cells false [.slice fa fn fc, .int .i64 (place S (rootKey g w) : Nat)])] :: [(i5, .cells false [.int .i64 g.terms, .int .i64 g.nons, .int .i64 g.start, .slice ga gm gc])] :: own) (fun _ _ => True) ?_ (fun _ F6 hF6 _ => ?_)
            · refine AW.draw (ps := [(4, 21), (6, 21), (9, 21), (12, 10), (12, 21), (14, 10), (14, 21), (17, 10), (17, 21), (20, 10), (20, 18), (23, 10), (23, 18), (23, 21)]) rfl rfl ?_
              (iterate 3 refine ze hT zr zr zr zr zr ?_)
              refine WT.split 135 rfl (fun hj0 => ?_) (fun hj0 => ?_)
              · have hj0 : 0 < j2 := by simp at hj0; omega
                refine ze hT zr zr zr zr zr ?_; refine zl hT 1 zr zr zr zr zr zr me zr ?_; refine ze hT zr zr zr zr zr ?_; refine WT.sub1 zr zr zr zr zr zr (by omega) ?_
                refine WT.idxL (j := j2 - 1) hT hpa5 zr zr zr zr zr zr zr zr zr (by omega) (fun q hqj b8 off8 ro8 cs8 lx8 hb8 hp8 hrel8 => ?_)
                have hcmp : cmpNPack q (numPack S kk) < 0 := by
                  obtain ⟨q1, q2⟩ := List.getElem?_eq_some_iff.1 hqj
                  obtain ⟨q3, q4⟩ := List.getElem?_eq_some_iff.1 hpj
                  have := List.pairwise_iff_getElem.1 hok.sorted (j2 - 1) j2 q1 q3 (by omega)
                  rw [q2, q4] at this
                  exact this
                obtain ⟨qa0, qn0, qc0, rfl, hqa0, hqb0⟩ := hrel8
                refine ze hT zr zr zr zr zr ?_; refine zi (fo := 0) hT (by assumption) (by assumption) zr zr zr zr zr zr ?_
                refine WT.buildT hT zr zr zr zr zr zr zr zr zr zr zr zr zr zr (fun i1 hi1 => ?_)
                refine ze hT zr zr zr zr zr ?_; refine zl hT 2 zr zr zr zr zr zr me zr ?_; refine ze hT zr zr zr zr zr ?_; refine WT.sub1 zr zr zr zr zr zr (by omega) ?_
                refine WT.idxL (j := j2 - 1) hT hpa5 zr zr zr zr zr zr zr zr zr (by omega) (fun q' hqj' b9 off9 ro9 cs9 lx9 hb9 hp9 hrel9 => ?_)
                obtain rfl : q' = q := by rw [hqj] at hqj'; exact (Option.some.inj hqj').symm
                obtain ⟨qa, qn, qc, rfl, hqa, hqb⟩ := hrel9
                have hqal := hqa.len
                have hqfew : q'.kids.length ≤ 4 := by
                  obtain ⟨kq, hkq⟩ := hok.pack q' (List.mem_of_getElem? hqj)
                  obtain ⟨rq, hq1, hq2, hq3⟩ := hkq.rule
                  have := hq3.end_.2
                  have := (hg.ok rq (List.mem_of_getElem? hq1)).2.1
                  rw [hkq.num]
                  show (kq.kids.map (place S)).length ≤ 4
                  rw [List.length_map]; omega
                refine ze hT zr zr zr zr zr ?_; refine zi hT (by assumption) (by assumption) zr zr zr zr zr zr ?_
                have hbq : Bld tNat F5 (some ⟨i1, 0, none⟩) 1 1 [(i1, .cells false [.int .i64 q'.rule])] [q'.rule] := ⟨rfl, .inr ⟨i1, _, rfl, rfl, rfl, Cells.single (R := tNat) (x := q'.rule) rfl, by decide⟩⟩
                refine WT.appendA hT 0 hbq hqa rfl (fun _ => rfl) zr zr zr zr zr zr zr zr zr zr zr zr zr (by decide) (by first | omega | (dsimp only at *; omega)) (fun a3 c3 B3 hB3 => ?_)
                refine ze hT zr zr zr zr zr ?_; refine zl hT 1 zr zr zr zr zr zr me zr ?_
                refine WT.buildT hT zr zr zr zr zr zr zr zr zr zr zr zr zr zr (fun i2 hi2 => ?_)
                refine ze hT zr zr zr zr zr ?_; refine zl hT 2 zr zr zr zr zr zr me zr ?_
                have hbk : Bld tNat F5 (some ⟨i2, 0, none⟩) 1 1 [(i2, .cells false [.int .i64 kk.rule])] [kk.rule] := ⟨rfl, .inr ⟨i2, _, rfl, rfl, rfl, Cells.single (R := tNat) (x := kk.rule) rfl, by decide⟩⟩
                refine WT.appendA hT 0 hbk hka rfl (fun _ => rfl) zr zr zr zr zr zr zr zr zr zr zr zr zr (by decide) (by first | omega | (dsimp only at *; omega)) (fun a4 c4 B4 hB4 => ?_)
                refine WT.freezeAll 0 rfl rfl (fun G1 hG1 hD1 => ?_)
                refine WT.freezeAll 1 rfl rfl (fun G2 hG2 hD2 => ?_)
                have ha4 := (hB4.frozen hG1 hD1).mono hG2
                have ha3 := hB3.frozen (hG1.trans hG2) hD2
                skip
                refine WT.callV Tryd.func23 zr zr zr zr zr zr (numCompare_spec _ ha3 ha4 (by omega) (by omega)) (fun v hv2 => ?_)
                subst hv2
                have hc2 : cmpNats ([q'.rule] ++ q'.kids) ([kk.rule] ++ (numPack S kk).kids) < 0 := by
                  have : cmpNats ([q'.rule] ++ q'.kids) ([kk.rule] ++ (numPack S kk).kids) = cmpNPack q' (numPack S kk) := cmpNats_pack q' (numPack S kk)
                  rw [this]; exact hcmp
                refine WT.binV zr zr zr zr zr zr (by decide) (v := .bool false) (by show some (Value.bool (decide _)) = _; rw [decide_eq_false (by omega)]) ?_
                refine ze hT zr zr zr zr zr ?_; refine WT.nil ?_
                refine ⟨(by repeat (first | exact trivial | refine recs_pair rfl rfl (by first | exact keep0 | exact keep1 (keeps_frz (by assumption)) | exact kp 0 0 me me | exact kp 1 1 me me | exact kp 2 2 me me | exact kp 3 3 me me | exact kp 4 4 me me | exact kp 5 5 me me | exact kp 6 6 me me | exact kp 0 1 me me | exact kp 1 2 me me | exact kp 2 3 me me | exact kp 3 4 me me | exact kp 4 5 me me | exact kp 5 6 me me | exact kp 6 7 me me) ?_)), ?_⟩
                exact ⟨(), SubK.of_map rfl, OwnLe.skip _ (OwnLe.skip _ (OwnLe.refl _)), trivial⟩
              · (iterate 24 refine zx zr zr zr zr ?_); refine ze hT zr zr zr zr zr ?_; refine WT.nil ?_
                refine ⟨(by repeat (first | exact trivial | refine recs_pair rfl rfl (by first | exact keep0 | exact keep1 (keeps_frz (by assumption)) | exact kp 0 0 me me | exact kp 1 1 me me | exact kp 2 2 me me | exact kp 3 3 me me | exact kp 4 4 me me | exact kp 5 5 me me | exact kp 6 6 me me | exact kp 0 1 me me | exact kp 1 2 me me | exact kp 2 3 me me | exact kp 3 4 me me | exact kp 4 5 me me | exact kp 5 6 me me | exact kp 6 7 me me) ?_)), ?_⟩
                exact ⟨(), SubK.of_map rfl, OwnLe.refl _, trivial⟩
            · have hr6 := hr5.mono hF6
              have hA6 := hA5.mono hF6
              have hka6 := hka.mono hF6
              refine AW.cond rfl (fun h => (by cases h)) (fun _ => ?_)
              refine AW.skip ?_; (iterate 2 refine AW.seq ?_); refine AW.draw (ps := []) zr zr ?_; refine ze hT zr zr zr zr zr ?_; refine zl hT 0 zr zr zr zr zr zr me zr ?_; (iterate 3 refine ze hT zr zr zr zr zr ?_); refine zl hT 0 zr zr zr zr zr zr me zr ?_; refine ze hT zr zr zr zr zr ?_; refine zl hT 4 zr zr zr zr zr zr me zr ?_; (iterate 4 refine ze hT zr zr zr zr zr ?_)
              refine WT.split 164 rfl (fun h => (by exfalso; have h := of_decide_eq_true h; omega)) (fun _ => ?_)
              skip
              refine WT.split 172 rfl (fun h => (by exfalso; have h := of_decide_eq_true h; omega)) (fun _ => ?_)
              refine ze hT zr zr zr zr zr ?_; refine zl hT 4 zr zr zr zr zr zr me zr ?_; refine ze hT zr zr zr zr zr ?_; refine zl hT 0 zr zr zr zr zr zr me zr ?_
              refine WT.idxL (j := kk.rule) hT hr6 zr zr zr zr zr zr zr zr zr (by omega) (fun r2 hrj b8 off8 ro8 cs8 lx8 hb8 hp8 hrel8 => ?_)
              obtain rfl : r2 = rl := by rw [hr1] at hrj; exact (Option.some.inj hrj).symm
              obtain ⟨ra, rn, rc, rfl, hra⟩ := hrel8
              have hral := hra.len
              refine ze hT zr zr zr zr zr ?_; refine zi (fo := 0) hT (by assumption) (by assumption) zr zr zr zr zr zr ?_; (iterate 2 refine ze hT zr zr zr zr zr ?_); refine zl hT 1 zr zr zr zr zr zr me zr ?_; (iterate 3 refine ze hT zr zr zr zr zr ?_)
              refine WT.split 185 rfl (fun h => (by exfalso; simp at h; omega)) (fun _ => ?_)
              refine ze hT zr zr zr zr zr ?_; refine zl hT 0 zr zr zr zr zr zr me zr ?_; (iterate 2 refine ze hT zr zr zr zr zr ?_); refine zl hT 4 zr zr zr zr zr zr me zr ?_; refine ze hT zr zr zr zr zr ?_; refine zl hT 0 zr zr zr zr zr zr me zr ?_
              refine WT.idxL (j := kk.rule) hT hr6 zr zr zr zr zr zr zr zr zr (by omega) (fun r3 hrj3 b9 off9 ro9 cs9 lx9 hb9 hp9 hrel9 => ?_)
              obtain rfl : r3 = r2 := by rw [hr1] at hrj3; exact (Option.some.inj hrj3).symm
              obtain ⟨sa, sn, sc, rfl, hsa⟩ := hrel9
              have hsal := hsa.len
              refine ze hT zr zr zr zr zr ?_; refine zi hT (by assumption) (by assumption) zr zr zr zr zr zr ?_; (iterate 3 refine ze hT zr zr zr zr zr ?_); refine WT.nil ?_; refine And.intro trivial ?_
              refine AW.cond rfl (fun h => (by exfalso; simp at h; omega)) (fun _ => ?_)
              refine AW.skip ?_; refine AW.seq ?_; refine AW.reg ?_; refine ze hT zr zr zr zr zr ?_; refine zl hT 1 zr zr zr zr zr zr me zr ?_; refine ze hT zr zr zr zr zr ?_; refine WT.nil ?_; (iterate 2 refine AW.seq ?_); refine AW.reg ?_; refine ze hT zr zr zr zr zr ?_; refine zl hT 0 zr zr zr zr zr zr me zr ?_; (iterate 2 refine ze hT zr zr zr zr zr ?_); refine WT.nil ?_
              refine AW.range (S := List Bool × Nat) (fun z => [(13, .int .i64 (z.2 : Nat))]) (fun z => [(i12, .cells false [.int .i64 kk.rule, .slice ka kn kc])] :: [(i10, .cells false [.bool k.sym.term, .int .i64 k.sym.n, .int .i64 k.frm, .int .i64 k.to, .slice pa pn pc])] :: [(ik, .cells false (z.1.map cBool.cell))] :: [(i6, .cells false [.slice fa fn fc, .int .i64 (place S (rootKey g w) : Nat)])] :: [(i5, .cells false [.int .i64 g.terms, .int .i64 g.nons, .int .i64 g.start, .slice ga gm gc])] :: own)
                (fun u z G => z.1.length = fn ∧ (∀ x ∈ (S.map (mkNode g w E S)).take j, ∀ p ∈ x.packs, ∀ c ∈ p.kids, z.1[c]? = some true) ∧ (∀ p ∈ (mkNode g w E S k).packs.take j2, ∀ c ∈ p.kids, z.1[c]? = some true) ∧ (∀ c ∈ (numPack S kk).kids.take u, z.1[c]? = some true) ∧ z.2 = endAt k.frm kk.kids u) kn ⟨K2, k.frm⟩
                zr zr zr zr zr zr zr zr zr (by omega) rfl rfl (fun _ => rfl) (fun _ => rfl) (SubK.of_map rfl) (OwnLe.refl _) ⟨hM0, hM1, hM2, by simp, rfl⟩ ?_ ?_
              · intro u z F7 hF7 hu hP
                obtain ⟨hZ0, hZ1, hZ2, hZ3, hZ4⟩ := hP
                have hA7 := hA6.mono hF7
                have hr7 := hr6.mono hF7
                have hka7 := hka6.mono hF7
                refine AW.seq ?_; refine AW.reg ?_; refine ze hT zr zr zr zr zr ?_
                refine WT.idxL (j := u) hT hka7 zr zr zr zr zr zr zr zr zr (by omega) (fun c' hcj b8' off8' ro8' cs8' lx8' hb8' hp8' hrel8' => ?_)
                obtain rfl : lx8' = _ := hrel8'
                obtain ⟨q, hq, rfl⟩ : ∃ q, kk.kids[u]? = some q ∧ c' = place S q := by
                  have hcj : (kk.kids.map (place S))[u]? = some c' := hcj
                  rw [List.getElem?_map] at hcj
                  cases hq : kk.kids[u]? with
                  | none => rw [hq] at hcj; cases hcj
                  | some q => rw [hq] at hcj; exact ⟨q, rfl, (Option.some.inj hcj).symm⟩
                obtain ⟨hat1, hat2⟩ := hr3.at_ hq
                have hqS := hpk.ins q (List.mem_of_getElem? hq)
                have hqp := place_at hqS
                have hqlt := (List.getElem?_eq_some_iff.1 hqp).1
                have hnq : (S.map (mkNode g w E S))[place S q]? = some (mkNode g w E S q) := by rw [List.getElem?_map, hqp]; rfl
                refine zi (fo := 0) hT (by assumption) (by assumption) zr zr zr zr zr zr ?_; (iterate 2 refine ze hT zr zr zr zr zr ?_); refine WT.nil ?_; (iterate 2 refine AW.seq ?_); refine AW.draw (ps := []) zr zr ?_; (iterate 5 refine ze hT zr zr zr zr zr ?_); refine zl hT 3 zr zr zr zr zr zr me zr ?_; (iterate 4 refine ze hT zr zr zr zr zr ?_)
                refine WT.split 218 rfl (fun h => (by exfalso; have h := of_decide_eq_true h; omega)) (fun _ => ?_)
                refine ze hT zr zr zr zr zr ?_; refine zl hT 3 zr zr zr zr zr zr me zr ?_; refine ze hT zr zr zr zr zr ?_
                refine WT.idxL (j := place S q) hT hA7 zr zr zr zr zr zr zr zr zr (by omega) (fun y hyj b10 off10 ro10 cs10 ly hb10 hp10 hrel10 => ?_)
                obtain rfl : y = mkNode g w E S q := by rw [hnq] at hyj; exact (Option.some.inj hyj).symm
                obtain ⟨na, nn, nc, hly, _⟩ := hrel10
                have hly : ly = [.bool q.sym.term, .int .i64 q.sym.n, .int .i64 q.frm, .int .i64 q.to, .slice na nn nc] := hly
                subst hly
                refine ze hT zr zr zr zr zr ?_; refine zi (fo := 0) hT (by assumption) (by assumption) zr zr zr zr zr zr ?_; refine ze hT zr zr zr zr zr ?_; refine zl hT 4 zr zr zr zr zr zr me zr ?_; refine ze hT zr zr zr zr zr ?_; refine zl hT 0 zr zr zr zr zr zr me zr ?_
                refine WT.idxL (j := kk.rule) hT hr7 zr zr zr zr zr zr zr zr zr (by omega) (fun r4 hrj4 b11 off11 ro11 cs11 lx11 hb11 hp11 hrel11 => ?_)
                obtain rfl : r4 = r3 := by rw [hr1] at hrj4; exact (Option.some.inj hrj4).symm
                obtain ⟨ta, tn, tc, rfl, hta⟩ := hrel11
                have htal := hta.len
                refine ze hT zr zr zr zr zr ?_; refine zi hT (by assumption) (by assumption) zr zr zr zr zr zr ?_; refine ze hT zr zr zr zr zr ?_
                refine WT.idxL (j := u) hT hta zr zr zr zr zr zr zr zr zr (by omega) (fun sy hsj b12 off12 ro12 cs12 lx12 hb12 hp12 hrel12 => ?_)
                obtain rfl : lx12 = _ := hrel12
                obtain rfl : sy = q.sym := by rw [hat1] at hsj; exact (Option.some.inj hsj).symm
                refine zi (fo := 0) hT (by assumption) (by assumption) zr zr zr zr zr zr ?_; refine zp hT zr zr zr zr zr zr zr ?_; (iterate 2 refine ze hT zr zr zr zr zr ?_)
                refine WT.split 237 rfl (fun h => (by exfalso; simp at h)) (fun _ => ?_)
                refine ze hT zr zr zr zr zr ?_; refine zl hT 3 zr zr zr zr zr zr me zr ?_; refine ze hT zr zr zr zr zr ?_
                refine WT.idxL (j := place S q) hT hA7 zr zr zr zr zr zr zr zr zr (by omega) (fun y2 hyj2 b13 off13 ro13 cs13 ly2 hb13 hp13 hrel13 => ?_)
                obtain rfl : y2 = mkNode g w E S q := by rw [hnq] at hyj2; exact (Option.some.inj hyj2).symm
                obtain ⟨na2, nn2, nc2, hly2, _⟩ := hrel13
                have hly2 : ly2 = [.bool q.sym.term, .int .i64 q.sym.n, .int .i64 q.frm, .int .i64 q.to, .slice na2 nn2 nc2] := hly2
                subst hly2
                refine ze hT zr zr zr zr zr ?_; refine zi hT (by assumption) (by assumption) zr zr zr zr zr zr ?_; (iterate 3 refine ze hT zr zr zr zr zr ?_); refine WT.nil ?_; refine And.intro trivial ?_
                refine AW.cond rfl (fun h => (by exfalso; simp at h; omega)) (fun _ => ?_)
                refine AW.skip ?_; refine AW.reg ?_; (iterate 3 refine ze hT zr zr zr zr zr ?_); refine zl hT 3 zr zr zr zr zr zr me zr ?_; refine ze hT zr zr zr zr zr ?_
                refine WT.idxL (j := place S q) hT hA7 zr zr zr zr zr zr zr zr zr (by omega) (fun y3 hyj3 b14 off14 ro14 cs14 ly3 hb14 hp14 hrel14 => ?_)
                obtain rfl : y3 = mkNode g w E S q := by rw [hnq] at hyj3; exact (Option.some.inj hyj3).symm
                obtain ⟨na3, nn3, nc3, hly3, _⟩ := hrel14
                have hly3 : ly3 = [.bool q.sym.term, .int .i64 q.sym.n, .int .i64 q.frm, .int .i64 q.to, .slice na3 nn3 nc3] := hly3
                subst hly3
                refine ze hT zr zr zr zr zr ?_; refine zi hT (by assumption) (by assumption) zr zr zr zr zr zr ?_; refine ze hT zr zr zr zr zr ?_
                refine WT.idxA (j := place S q) (s := 1) hT zr zr zr zr zr zr zr zr zr (by omega) ?_
                refine WT.storeAt hT 2 0 zr zr zr zr zr zr zr zr zr zr (by simp; omega) rfl rfl ?_
                rw [cell_set z.1 (place S q)]
                refine WT.nil ?_
                refine ⟨(z.1.set (place S q) true, q.to), SubK.of_map rfl, OwnLe.refl _, by simp [hZ0], fun x hx p hp c hc => set_true (hZ1 x hx p hp c hc), fun p hp c hc => set_true (hZ2 p hp c hc), fun c hc => ?_, ?_⟩
                · rw [List.take_add_one, hcj, List.mem_append] at hc
                  rcases hc with hc | hc
                  · exact set_true (hZ3 c hc)
                  · obtain rfl : c = place S q := by simpa using hc
                    rw [List.getElem?_set_self (by omega)]
                · show q.to = endAt k.frm kk.kids (u + 1)
                  simp only [endAt]
                  rw [hq]
              · intro z F7 hF7 hP
                obtain ⟨hZ0, hZ1, hZ2, hZ3, hZ4⟩ := hP
                rw [List.take_of_length_le (by omega)] at hZ3
                rw [hkn, hend.1] at hZ4
                obtain ⟨K3, at3⟩ := z
                have hZ4 : at3 = k.to := hZ4
                subst hZ4
                refine AW.seq ?_; refine AW.reg ?_; (iterate 2 refine ze hT zr zr zr zr zr ?_); refine zl hT 1 zr zr zr zr zr zr me zr ?_; refine ze hT zr zr zr zr zr ?_; refine WT.nil ?_
                refine AW.cond rfl (fun h => (by exfalso; simp at h)) (fun _ => ?_)
                refine AW.skip ?_
                refine ⟨K3, SubK.of_map rfl, OwnLe.skip _ (OwnLe.refl _), hZ0, hZ1, fun p hp => ?_⟩
                rw [List.take_add_one, hpj, List.mem_append] at hp
                rcases hp with hp | hp
                · exact hZ2 p hp
                · obtain rfl : p = numPack S kk := by simpa using hp
                  exact hZ3
          · intro K2 F5 hF5 hP
            obtain ⟨hM0, hM1, hM2⟩ := hP
            rw [List.take_of_length_le (by omega)] at hM2
            skip
            refine ⟨K2, SubK.of_map rfl, OwnLe.skip _ (OwnLe.refl _), hM0, fun x hx => ?_⟩
            rw [List.take_add_one, hxj, List.mem_append] at hx
            rcases hx with hx | hx
            · exact hM1 x hx
            · obtain rfl : x = mkNode g w E S k := by simpa using hx
              exact hM2
      · intro K F3 hF3 hK1
        obtain ⟨hK0, hK1⟩ := hK1
        (iterate 2 refine AW.seq ?_); refine AW.draw (ps := []) zr zr ?_; refine ze hT zr zr zr zr zr ?_; refine zl hT 1 zr zr zr zr zr zr me zr ?_; (iterate 3 refine ze hT zr zr zr zr zr ?_); refine zl hT 1 zr zr zr zr zr zr me zr ?_; refine ze hT zr zr zr zr zr ?_; refine zl hT 1 zr zr zr zr zr zr me zr ?_; (iterate 4 refine ze hT zr zr zr zr zr ?_)
        rw [List.take_of_length_le (by rw [List.length_map]; omega)] at hK1
        have hA8 := hA.mono hF3
        have hnr : (S.map (mkNode g w E S))[place S (rootKey g w)]? = some (mkNode g w E S (rootKey g w)) := by rw [List.getElem?_map, hpl]; rfl
        have hml : (S.map (mkNode g w E S)).length = fn := hA.len.symm
        refine WT.split 274 rfl (fun h => (by exfalso; have h := of_decide_eq_true h; omega)) (fun _ => ?_)
        refine ze hT zr zr zr zr zr ?_; refine zl hT 1 zr zr zr zr zr zr me zr ?_; refine ze hT zr zr zr zr zr ?_; refine zl hT 1 zr zr zr zr zr zr me zr ?_
        refine WT.idxL (j := place S (rootKey g w)) hT hA8 zr zr zr zr zr zr zr zr zr (by omega) (fun y hyj b10 off10 ro10 cs10 ly hb10 hp10 hrel10 => ?_)
        obtain rfl : y = mkNode g w E S (rootKey g w) := by rw [hnr] at hyj; exact (Option.some.inj hyj).symm
        obtain ⟨na, nn, nc, hly, _⟩ := hrel10
        have hly : ly = [.bool false, .int .i64 g.start, .int .i64 (0 : Nat), .int .i64 w.length, .slice na nn nc] := hly
        subst hly
        refine ze hT zr zr zr zr zr ?_; refine zi (fo := 0) hT (by assumption) (by assumption) zr zr zr zr zr zr ?_; refine ze hT zr zr zr zr zr ?_; refine zl hT 2 zr zr zr zr zr zr me zr ?_; refine ze hT zr zr zr zr zr ?_; refine zp hT zr zr zr zr zr zr zr ?_; (iterate 2 refine ze hT zr zr zr zr zr ?_)
        refine WT.split 287 rfl (fun h => (by exfalso; simp at h)) (fun _ => ?_)
        refine ze hT zr zr zr zr zr ?_; refine zl hT 1 zr zr zr zr zr zr me zr ?_; refine ze hT zr zr zr zr zr ?_; refine zl hT 1 zr zr zr zr zr zr me zr ?_
        refine WT.idxL (j := place S (rootKey g w)) hT hA8 zr zr zr zr zr zr zr zr zr (by omega) (fun y2 hyj2 b11 off11 ro11 cs11 ly2 hb11 hp11 hrel11 => ?_)
        obtain rfl : y2 = mkNode g w E S (rootKey g w) := by rw [hnr] at hyj2; exact (Option.some.inj hyj2).symm
        obtain ⟨na2, nn2, nc2, hly2, _⟩ := hrel11
        have hly2 : ly2 = [.bool false, .int .i64 g.start, .int .i64 (0 : Nat), .int .i64 w.length, .slice na2 nn2 nc2] := hly2
        subst hly2
        refine ze hT zr zr zr zr zr ?_; refine zi hT (by assumption) (by assumption) zr zr zr zr zr zr ?_; (iterate 4 refine ze hT zr zr zr zr zr ?_); refine zl hT 1 zr zr zr zr zr zr me zr ?_; refine ze hT zr zr zr zr zr ?_; refine zl hT 1 zr zr zr zr zr zr me zr ?_
        refine WT.idxL (j := place S (rootKey g w)) hT hA8 zr zr zr zr zr zr zr zr zr (by omega) (fun y3 hyj3 b12 off12 ro12 cs12 ly3 hb12 hp12 hrel12 => ?_)
        obtain rfl : y3 = mkNode g w E S (rootKey g w) := by rw [hnr] at hyj3; exact (Option.some.inj hyj3).symm
        obtain ⟨na3, nn3, nc3, hly3, _⟩ := hrel12
        have hly3 : ly3 = [.bool false, .int .i64 g.start, .int .i64 (0 : Nat), .int .i64 w.length, .slice na3 nn3 nc3] := hly3
        subst hly3
        refine ze hT zr zr zr zr zr ?_; refine zi hT (by assumption) (by assumption) zr zr zr zr zr zr ?_; (iterate 4 refine ze hT zr zr zr zr zr ?_); refine WT.nil ?_; refine And.intro trivial ?_
        refine AW.cond rfl (fun h => (by exfalso; simp at h)) (fun _ => ?_)
        refine AW.skip ?_; refine AW.seq ?_; refine AW.reg ?_; (iterate 2 refine ze hT zr zr zr zr zr ?_); refine zl hT 1 zr zr zr zr zr zr me zr ?_
        refine WT.idxA (j := place S (rootKey g w)) (s := 1) hT zr zr zr zr zr zr zr zr zr (by omega) ?_
        refine WT.storeAt hT 0 0 zr zr zr zr zr zr zr zr zr zr (by simp; omega) rfl rfl ?_
        rw [cell_set K (place S (rootKey g w))]
        refine WT.freezeAll 0 rfl rfl (fun G1 hG1 hD1 => ?_)
        have hKl : (K.set (place S (rootKey g w)) true).length = fn := by simp [hK0]
        have hka : Arr tBool G1 (some ⟨ik, 0, none⟩) fn 1 (K.set (place S (rootKey g w)) true) := by
          have hb : Bld tBool F3 (some ⟨ik, 0, none⟩) fn 1 [(ik, .cells false ((K.set (place S (rootKey g w)) true).map cBool.cell))] (K.set (place S (rootKey g w)) true) := ⟨hKl.symm, .inr ⟨ik, _, rfl, rfl, rfl, cells_bool _, by decide⟩⟩
          exact hb.frozen hG1 hD1
        refine WT.nil ?_; refine AW.seq ?_; refine AW.reg ?_; refine ze hT zr zr zr zr zr ?_
        refine WT.callV Tryd.func24 zr zr zr zr zr zr (boolContains_spec _ hka (by omega) false) (fun v hv2 => ?_)
        subst hv2
        have hall : decide (false ∈ K.set (place S (rootKey g w)) true) = false := by
          apply decide_eq_false
          intro hmem
          obtain ⟨i, hi, hie⟩ := List.getElem_of_mem hmem
          have hi1 : i < S.length := by omega
          have hsi : S[i]? = some S[i] := List.getElem?_eq_getElem hi1
          have htrue : (K.set (place S (rootKey g w)) true)[i]? = some true := by
            by_cases e : S[i] = rootKey g w
            · have : place S (rootKey g w) = i := place_of hK.nodup (by rw [hsi, e])
              rw [this, List.getElem?_set_self (by omega)]
            · obtain ⟨x, hx, p, hp, hc⟩ := kid_of hK (List.getElem_mem hi1) e
              have := hK1 x hx p hp _ hc
              rw [place_of hK.nodup hsi] at this
              exact set_true this
          rw [List.getElem?_eq_getElem hi, hie] at htrue
          cases htrue
        rw [hall]
        (iterate 2 refine ze hT zr zr zr zr zr ?_); refine WT.nil ?_
        exact AW.ret ⟨_, [], ⟨_, _, rfl, rfl, rfl⟩, (by repeat (first | exact List.Sublist.refl _ | refine List.Sublist.cons _ ?_)), rfl, rfl⟩
  · (iterate 3 refine ze hT zr zr zr zr zr ?_)
    refine WT.allocT hT zr zr zr zr zr zr (fun i6 hi6 => ?_)
    refine zs hT 0 0 zr zr zr zr zr zr zr zr zr zr zr zr ?_; refine ze hT zr zr zr zr zr ?_; refine WT.nil ?_; (iterate 2 refine AW.seq ?_); refine AW.reg ?_
    refine WT.callV Tryd.func18 zr zr zr zr zr zr (Abs.Spec.fact rfl hL2) (fun v hv => ?_)
    subst hv
    (iterate 5 refine ze hT zr zr zr zr zr ?_); refine WT.nil ?_
    refine AW.cond rfl (fun _ => ?_) (fun h => (by cases h))
    refine AW.seq ?_; refine AW.reg ?_
    refine WT.callV Tryd.func18 zr zr zr zr zr zr (Abs.Spec.fact rfl hL2) (fun v hv => ?_)
    subst hv
    (iterate 5 refine ze hT zr zr zr zr zr ?_); refine WT.nil ?_
    exact AW.ret ⟨_, [], ⟨_, _, rfl, rfl, rfl⟩, (by repeat (first | exact List.Sublist.refl _ | refine List.Sublist.cons _ ?_)), rfl, rfl⟩
end Go.Proofs.D

