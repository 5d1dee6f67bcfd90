/-
  Walks: what functions of the program do, over the abstract machine.
-/
import Derived.Test.YtfnleneclialjaaDoorWk1
set_option linter.unusedVariables false
set_option maxRecDepth 20000
set_option maxHeartbeats 0
open Go Go.Abs Go.Proofs Go.Proofs.D
namespace Go.Proofs.D

/-! ### trees of a grammar, counted -/
def listT (f : Sym → Nat → Nat → Nat) : List Sym → Nat → Nat → Nat
  | [], i, j => if i = j then 1 else 0
  | s :: l, i, j => ((List.range (j + 1)).map fun m => f s i m * listT f l m j).sum

/-- How many trees of a depth a symbol has over a part of a word. -/
def symT (g : Gram) (w : List Nat) : Nat → Sym → Nat → Nat → Nat
  | 0, _, _, _ => 0
  | d + 1, s, i, j => if s.term = true then (if w[i]? = some s.n ∧ j = i + 1 then 1 else 0)
      else (g.rules.map fun r => if r.left = s.n then listT (symT g w d) r.right i j else 0).sum

theorem sum_zero {l : List Nat} (h : ∀ x ∈ l, x = 0) : l.sum = 0 := by
  induction l with
  | nil => rfl
  | cons a l ih => rw [List.sum_cons, h a (List.mem_cons_self ..), ih fun x hx => h x (List.mem_cons_of_mem _ hx)]

theorem sum_pos {l : List Nat} (h : 1 ≤ l.sum) : ∃ x ∈ l, 1 ≤ x := by
  induction l with
  | nil => simp at h
  | cons a l ih =>
    by_cases ha : 1 ≤ a
    · exact ⟨a, List.mem_cons_self .., ha⟩
    · rw [List.sum_cons] at h
      obtain ⟨x, hx, h2⟩ := ih (by omega)
      exact ⟨x, List.mem_cons_of_mem _ hx, h2⟩

theorem listT_pos {g : Gram} {w : List Nat} {f : Sym → Nat → Nat → Nat} (hf : ∀ s i j, 1 ≤ f s i j → Der g w s i j) : ∀ {l : List Sym} {i j : Nat}, 1 ≤ listT f l i j → Ders g w l i j
  | [], i, j, h => by
    unfold listT at h
    split at h
    · rename_i e; subst e; exact .nil
    · omega
  | s :: l, i, j, h => by
    unfold listT at h
    obtain ⟨x, hx, h2⟩ := sum_pos h
    obtain ⟨m, _, rfl⟩ := List.mem_map.1 hx
    have h3 : 1 ≤ f s i m := by
      rcases Nat.eq_zero_or_pos (f s i m) with e | e
      · rw [e, Nat.zero_mul] at h2; omega
      · exact e
    have h4 : 1 ≤ listT f l m j := by
      rcases Nat.eq_zero_or_pos (listT f l m j) with e | e
      · rw [e, Nat.mul_zero] at h2; omega
      · exact e
    exact .cons (hf s i m h3) (listT_pos hf h4)

theorem symT_der {g : Gram} {w : List Nat} : ∀ {d : Nat} {s : Sym} {i j : Nat}, 1 ≤ symT g w d s i j → Der g w s i j
  | 0, s, i, j, h => absurd h (by simp [symT])
  | d + 1, s, i, j, h => by
    obtain ⟨st, sn⟩ := s
    unfold symT at h
    cases st with
    | true =>
      simp only [if_true] at h
      split at h
      · rename_i e
        obtain ⟨e1, rfl⟩ := e
        exact .term e1
      · omega
    | false =>
      simp only [Bool.false_eq_true, if_false] at h
      obtain ⟨x, hx, h2⟩ := sum_pos h
      obtain ⟨r, hr, rfl⟩ := List.mem_map.1 hx
      split at h2
      · rename_i e
        subst e
        exact .non hr (listT_pos (fun s i j h => symT_der h) h2)
      · omega

theorem listT_mono {f h : Sym → Nat → Nat → Nat} (hf : ∀ s i j, f s i j ≤ h s i j) : ∀ (l : List Sym) (i j : Nat), listT f l i j ≤ listT h l i j
  | [], i, j => Nat.le_refl _
  | s :: l, i, j => sumN_le _ fun m _ => Nat.mul_le_mul (hf s i m) (listT_mono hf l m j)

theorem symT_mono (g : Gram) (w : List Nat) : ∀ (d : Nat) (s : Sym) (i j : Nat), symT g w d s i j ≤ symT g w (d + 1) s i j
  | 0, s, i, j => Nat.zero_le _
  | d + 1, s, i, j => by
    show symT g w (d + 1) s i j ≤ symT g w (d + 1 + 1) s i j
    unfold symT
    split
    · exact Nat.le_refl _
    · refine sumN_le _ fun r _ => ?_
      split
      · exact listT_mono (fun s i j => symT_mono g w d s i j) _ _ _
      · exact Nat.le_refl _

theorem symT_le (g : Gram) (w : List Nat) {d e : Nat} (h : d ≤ e) (s : Sym) (i j : Nat) : symT g w d s i j ≤ symT g w e s i j := by
  induction e with
  | zero => obtain rfl : d = 0 := by omega
            exact Nat.le_refl _
  | succ e ih =>
    rcases Nat.lt_or_ge d (e + 1) with h2 | h2
    · exact Nat.le_trans (ih (by omega)) (symT_mono g w e s i j)
    · obtain rfl : d = e + 1 := by omega
      exact Nat.le_refl _

theorem der_symT {g : Gram} {w : List Nat} {s : Sym} {i j : Nat} (h : Der g w s i j) : ∃ d, 1 ≤ symT g w d s i j := by
  refine Der.rec (motive_1 := fun s i j _ => ∃ d, 1 ≤ symT g w d s i j) (motive_2 := fun l i j _ => ∃ d, 1 ≤ listT (symT g w d) l i j) ?_ ?_ ?_ ?_ h
  · intro t i h
    exact ⟨1, by unfold symT; simp [h]⟩
  · intro r i j hr _ ih
    obtain ⟨d, hd⟩ := ih
    refine ⟨d + 1, ?_⟩
    unfold symT
    simp only [Bool.false_eq_true, if_false]
    refine Nat.le_trans ?_ (sumN_mem (f := fun r' : Rule => if r'.left = r.left then listT (symT g w d) r'.right i j else 0) hr)
    simpa using hd
  · intro i; exact ⟨0, by simp [listT]⟩
  · intro s l i m j h1 h2 ih1 ih2
    obtain ⟨d1, h3⟩ := ih1
    obtain ⟨d2, h4⟩ := ih2
    have hmj := ders_le h2
    refine ⟨max d1 d2, ?_⟩
    unfold listT
    refine Nat.le_trans ?_ (sumN_mem (f := fun m => symT g w (max d1 d2) s i m * listT (symT g w (max d1 d2)) l m j) (List.mem_range.2 (show m < j + 1 by omega)))
    exact Nat.mul_le_mul (Nat.le_trans h3 (symT_le g w (by omega) s i m)) (Nat.le_trans h4 (listT_mono (fun s i j => symT_le g w (by omega) s i j) l m j))

/-! ### a forest's nodes have as many trees as the grammar says -/
theorem sum_flat {α β : Type} (f : α → List β) (h : β → Nat) : ∀ l : List α, ((l.flatMap f).map h).sum = (l.map fun a => ((f a).map h).sum).sum
  | [] => rfl
  | a :: l => by rw [List.flatMap_cons, List.map_append, List.sum_append, List.map_cons, List.sum_cons, sum_flat f h l]

theorem splits_sum {w : List Nat} {E : List (List Nat)} {to : Nat} {f : Sym → Nat → Nat → Nat} (hf : ∀ s i m, stepB w E s i m = false → i ≤ w.length → m ≤ to → f s i m = 0) (hto : to ≤ w.length) : ∀ (l : List Sym) (i : Nat), i ≤ w.length →
    ((splits w E to l i).map fun ks => prodN (ks.map fun q => f q.sym q.frm q.to)).sum = listT f l i to
  | [], i, hi => by
    unfold splits listT
    split <;> simp [prodN]
  | s :: l, i, hi => by
    unfold splits listT
    rw [sum_flat]
    congr 1
    apply List.map_congr_left
    intro m hm
    have hm := List.mem_range.1 hm
    split
    · rw [List.map_map, ← splits_sum hf hto l m (by omega)]
      clear hf
      generalize splits w E to l m = L
      induction L with
      | nil => simp
      | cons a L ih =>
        simp only [List.map_cons, List.sum_cons, Function.comp_apply, prodN, Nat.mul_add]
        simp only [Function.comp_def] at ih
        rw [← ih]
        simp [Function.comp_def, prodN]
    · rename_i h
      rw [hf s i m (by simpa using h) hi (by omega)]
      simp

theorem rules_sum {α : Type} (h : α → Nat) (f : Nat → Rule → List α) : ∀ (rs : List Rule) (k : Nat), (((List.range rs.length).flatMap fun i => match rs[i]? with | some r => f (k + i) r | none => []).map h).sum = (rs.zipIdx k |>.map fun p => ((f p.2 p.1).map h).sum).sum
  | [], k => by simp
  | r :: rs, k => by
    have ih := rules_sum h f rs (k + 1)
    rw [List.length_cons, List.range_succ_eq_map, List.flatMap_cons, List.map_append, List.sum_append, List.zipIdx_cons, List.map_cons, List.sum_cons, ← ih]
    simp only [List.getElem?_cons_zero, Nat.add_zero, List.flatMap_map]
    congr 4
    funext i
    simp only [List.getElem?_cons_succ, Nat.succ_eq_add_one]
    rw [show k + (i + 1) = k + 1 + i by omega]

theorem zip_sum {f : Rule → Nat} : ∀ (rs : List Rule) (k : Nat), (rs.zipIdx k |>.map fun p => f p.1).sum = (rs.map f).sum
  | [], k => by simp
  | r :: rs, k => by rw [List.zipIdx_cons, List.map_cons, List.map_cons, List.sum_cons, List.sum_cons, zip_sum rs (k + 1)]

/-- A key that the table of ends lets stand. -/
def StepK (w : List Nat) (E : List (List Nat)) (k : Key) : Prop := stepB w E k.sym k.frm k.to = true

theorem splits_step {w : List Nat} {E : List (List Nat)} {to : Nat} : ∀ {l : List Sym} {i : Nat} {ks : List Key}, ks ∈ splits w E to l i → ∀ q ∈ ks, StepK w E q
  | [], i, ks, h, q, hq => by
    unfold splits at h
    split at h
    · rw [List.mem_singleton.1 h] at hq; cases hq
    · cases h
  | s :: l, i, ks, h, q, hq => by
    unfold splits at h
    obtain ⟨m, _, hm⟩ := List.mem_flatMap.1 h
    split at hm
    · rename_i hs
      obtain ⟨ks', h2, rfl⟩ := List.mem_map.1 hm
      rcases List.mem_cons.1 hq with rfl | hq
      · exact hs
      · exact splits_step h2 q hq
    · cases hm

theorem Reachable.step {g : Gram} {w : List Nat} {E : List (List Nat)} {root k : Key} (h : Reachable g w E root k) (hr : StepK w E root) : StepK w E k := by
  cases h with
  | root => exact hr
  | kid _ hp hq =>
    obtain ⟨r, _, _, _, h3⟩ := mem_packsOf.1 hp
    exact splits_step h3 _ hq

theorem step_der {g : Gram} {w : List Nat} {E : List (List Nat)} (hE : EndsOf g w E) {s : Sym} {i j : Nat} (hi : i ≤ w.length) : stepB w E s i j = true ↔ Der g w s i j := by
  rw [stepB_iff]
  unfold Step
  obtain ⟨b, n⟩ := s
  cases b with
  | true => simp only [if_true]; rw [der_term]
  | false =>
    simp only [Bool.false_eq_true, if_false]
    exact hE.iff n i j hi

theorem packs_sum {g : Gram} {w : List Nat} {E : List (List Nat)} {k : Key} (hk : k.sym.term = false) {f : Sym → Nat → Nat → Nat} (hf : ∀ s i m, stepB w E s i m = false → i ≤ w.length → m ≤ k.to → f s i m = 0) (hi : k.frm ≤ w.length) (hto : k.to ≤ w.length) :
    ((packsOf g w E k).map fun p => prodN (p.kids.map fun q => f q.sym q.frm q.to)).sum = (g.rules.map fun r => if r.left = k.sym.n then listT f r.right k.frm k.to else 0).sum := by
  have e : packsOf g w E k = (List.range g.rules.length).flatMap fun i => match g.rules[i]? with | some r => (if r.left = k.sym.n ∧ k.sym.term = false then (splits w E k.to r.right k.frm).map (KPack.mk (0 + i)) else []) | none => [] := by
    unfold packsOf
    congr 1
    funext i
    unfold packsAt
    rw [Nat.zero_add]
    cases g.rules[i]? <;> rfl
  rw [e]
  refine (rules_sum (fun p : KPack => prodN (p.kids.map fun q => f q.sym q.frm q.to)) (fun i r => if r.left = k.sym.n ∧ k.sym.term = false then (splits w E k.to r.right k.frm).map (KPack.mk i) else []) g.rules 0).trans ?_
  rw [← zip_sum g.rules 0]
  congr 1
  apply List.map_congr_left
  intro p _
  by_cases h : p.1.left = k.sym.n
  · rw [if_pos ⟨h, hk⟩, if_pos h, ← splits_sum hf hto p.1.right k.frm hi, List.map_map]
    rfl
  · rw [if_neg (fun h2 => h h2.1), if_neg h]; rfl

theorem node_sym {g : Gram} (hg : Valid g) {w : List Nat} {E : List (List Nat)} (hE : EndsOf g w E) {root : Key} {S : List Key} (hK : Keys g w E root S) (hroot : GoodKey g w root) (hrs : StepK w E root) :
    ∀ (d : Nat) (k : Key), k ∈ S → nodeT (S.map (mkNode g w E S)) d (place S k) = symT g w d k.sym k.frm k.to
  | 0, k, _ => rfl
  | d + 1, k, hk => by
    have hgood := (hK.reach k hk).good hg hroot
    have hstep := (hK.reach k hk).step hrs
    have hat : (S.map (mkNode g w E S))[place S k]? = some (mkNode g w E S k) := by rw [List.getElem?_map, place_at hk]; rfl
    have hsum : ((mkNode g w E S k).packs.map (packN (nodeT (S.map (mkNode g w E S)) d))).sum = ((packsOf g w E k).map fun p => prodN (p.kids.map fun q => symT g w d q.sym q.frm q.to)).sum := by
      unfold mkNode
      simp only
      rw [List.map_map]
      congr 1
      apply List.map_congr_left
      intro p hp
      simp only [Function.comp_apply, packN, numPack, List.map_map]
      congr 1
      apply List.map_congr_left
      intro q hq
      exact node_sym hg hE hK hroot hrs d q (hK.closed k hk p hp q hq)
    rw [nodeT, hat]
    simp only
    rw [hsum, symT]
    unfold leafN
    cases ht : k.sym.term with
    | true =>
      have hno : packsOf g w E k = [] := by
        rw [List.eq_nil_iff_forall_not_mem]
        intro p hp
        obtain ⟨_, _, _, h3, _⟩ := mem_packsOf.1 hp
        rw [ht] at h3; cases h3
      have h2 := (stepB_iff.1 hstep)
      unfold Step at h2
      rw [if_pos ht] at h2
      rw [hno]
      simp [mkNode, ht, h2]
    | false =>
      rw [packs_sum ht (fun s i m h1 h2 _ => ?_) hgood.2.1 hgood.2.2]
      · simp [mkNode, ht]
      · rcases Nat.eq_zero_or_pos (symT g w d s i m) with e | e
        · exact e
        · have := (step_der hE h2).2 (symT_der e)
          rw [h1] at this; cases this

theorem nodes_prod {g : Gram} (hg : Valid g) {w : List Nat} {E : List (List Nat)} (hE : EndsOf g w E) {root : Key} {S : List Key} (hK : Keys g w E root S) (hroot : GoodKey g w root) (hrs : StepK w E root) : Prod (S.map (mkNode g w E S)) := by
  intro v hv
  rw [List.length_map] at hv
  obtain ⟨k, hk⟩ : ∃ k, S[v]? = some k := ⟨_, List.getElem?_eq_getElem hv⟩
  have hkm := List.mem_of_getElem? hk
  have hgood := (hK.reach k hkm).good hg hroot
  obtain ⟨d, hd⟩ := der_symT ((step_der hE hgood.2.1).1 ((hK.reach k hkm).step hrs))
  refine ⟨d, ?_⟩
  rw [← place_of hK.nodup hk, node_sym hg hE hK hroot hrs d k hkm]
  exact hd

theorem nodes_ok {g : Gram} (hg : Valid g) {w : List Nat} (hw : w.length ≤ 12) {E : List (List Nat)} {root : Key} {S : List Key} (hK : Keys g w E root S) (hroot : GoodKey g w root) : FOk (S.map (mkNode g w E S)) where
  few := by
    rw [List.length_map]
    exact Nat.le_trans (good_few hg (by omega) (fun k hk => (hK.reach k hk).good hg hroot) hK.nodup) (by decide)
  packs := fun x hx => by
    obtain ⟨k, hk, rfl⟩ := List.mem_map.1 hx
    have hgood := (hK.reach k hk).good hg hroot
    have := packsOf_len12 hg (E := E) (w := w) (show k.to ≤ 12 by have := hgood.2.2; omega)
    unfold mkNode
    rw [List.length_map]; omega
  kid := fun u v h => by
    obtain ⟨x, p, hx, hp, hu⟩ := h
    rw [List.getElem?_map] at hx
    cases hk : S[v]? with
    | none => rw [hk] at hx; cases hx
    | some k =>
      rw [hk] at hx
      obtain rfl := Option.some.inj hx
      obtain ⟨p', hp', rfl⟩ := List.mem_map.1 hp
      obtain ⟨q, hq, rfl⟩ := List.mem_map.1 hu
      have := hK.closed k (List.mem_of_getElem? hk) p' hp' q hq
      rw [List.length_map]
      exact List.idxOf_lt_length_of_mem this
end Go.Proofs.D

set_option linter.unusedVariables false
set_option maxRecDepth 20000
set_option maxHeartbeats 0
open Go Go.Abs Go.Proofs Go.Proofs.D
namespace Go.Proofs.D

theorem packSum_le12 {g : Gram} (hg : Valid g) {w : List Nat} {E : List (List Nat)} : ∀ (L : List Key), (∀ k ∈ L, k.to ≤ 12) → packSum g w E L ≤ L.length * 913952
  | [], _ => by simp [packSum]
  | k :: L, h => by
    have h1 := packSum_le12 hg (E := E) (w := w) L fun k hk => h k (List.mem_cons_of_mem _ hk)
    have h2 := packsOf_len12 hg (E := E) (w := w) (h k (List.mem_cons_self ..))
    unfold packSum at h1 ⊢
    rw [List.map_cons, List.sum_cons, List.length_cons, Nat.add_mul, Nat.one_mul]
    omega

def rootKey (g : Gram) (w : List Nat) : Key := ⟨⟨false, g.start⟩, 0, w.length⟩

theorem root_good {g : Gram} (hg : Valid g) (w : List Nat) : GoodKey g w (rootKey g w) := ⟨by unfold SymOk rootKey; simpa using hg.range.start, Nat.zero_le _, Nat.le_refl _⟩

/-- The forest over a table of ends. -/
def ForestV (g : Gram) (w : List Nat) (E : List (List Nat)) (F : Frz) (v : Value) : Prop :=
  (stepB w E ⟨false, g.start⟩ 0 w.length = false ∧ v = .agg ⟨[.slice none 0 0, .int .i64 (-1)]⟩) ∨
  (stepB w E ⟨false, g.start⟩ 0 w.length = true ∧ ∃ S a n c, v = .agg ⟨[.slice a n c, .int .i64 (place S (rootKey g w) : Nat)]⟩ ∧ Keys g w E (rootKey g w) S ∧ Arr tNode F a n c (S.map (mkNode g w E S)))

theorem ForestV.mono {g : Gram} {w : List Nat} {E : List (List Nat)} {F G : Frz} {v : Value} (h : ForestV g w E F v) (hF : Frz.le F G) : ForestV g w E G v := by
  rcases h with h | ⟨h1, S, a, n, c, h2, h3, h4⟩
  · exact .inl h
  · exact .inr ⟨h1, S, a, n, c, h2, h3, h4.mono hF⟩

theorem few_packs {g : Gram} (hg : Valid g) {w : List Nat} (hw : w.length ≤ 12) {E : List (List Nat)} {L : List Key} (hn : L.Nodup) (hr : ∀ k ∈ L, Reachable g w E (rootKey g w) k) : packSum g w E L ≤ 200000 * 913952 := by
  have hgood : ∀ k ∈ L, GoodKey g w k := fun k hk => (hr k hk).good hg (root_good hg w)
  refine Nat.le_trans (packSum_le12 hg L fun k hk => by have := (hgood k hk).2.2; omega) ?_
  exact Nat.mul_le_mul_right _ (good_few hg (by omega) hgood hn)

theorem countNone_spec (F : Frz) : Abs.Spec CC 66 [.agg ⟨[.slice none 0 0, .int .i64 (-1)]⟩] F [] fun F' r o => o = [] ∧ r = .int .i64 0 := by
  refine Abs.Spec.fn (n := 28) Tryd.func66 rfl rfl fun own => ?_
  refine AW.seq (AW.reg ?_)
  refine WT.boxT zr zr zr zr zr zr (fun i1 hi1 => ?_)
  refine ze hT zr zr zr zr zr ?_; refine WT.nil ?_; (iterate 2 refine AW.seq ?_); refine AW.reg ?_; refine ze hT zr zr zr zr zr ?_; refine zl hT 0 zr zr zr zr zr zr me zr ?_; refine ze hT zr zr zr zr zr ?_; refine WT.nil ?_
  refine AW.cond rfl (fun _ => ?_) (fun h => (by cases h))
  refine AW.seq ?_; refine AW.reg ?_; refine ze hT zr zr zr zr zr ?_; refine WT.nil ?_
  exact AW.ret ⟨_, [], ⟨_, _, rfl, rfl, rfl⟩, (by repeat (first | exact List.Sublist.refl _ | refine List.Sublist.cons _ ?_)), rfl, rfl⟩

theorem meanOf_spec (F : Frz) (hL : Laid F) (g : Gram) (hg : Valid g) {ga : Option Addr} {gm gc : Nat} (hr : Arr tRule F ga gm gc g.rules) {b : Option Addr} {n d : Nat} {w : List Nat} (hw : Arr tNat F b n d w) (hw12 : w.length ≤ 12) :
    Abs.Spec CC 67 [.agg ⟨gramCells g ga gm gc⟩, .slice b n d] F [] fun F' v o => o = [] ∧ ∃ E, EndsOf g w E ∧ ForestV g w E F' v := by
  unfold gramCells
  refine Abs.Spec.fn (n := 17) Tryd.func67 rfl rfl fun own => ?_
  refine AW.seq (AW.reg ?_)
  refine WT.boxT zr zr zr zr zr zr (fun i2 hi2 => ?_)
  refine WT.allocT hT zr zr zr zr zr zr (fun i4 hi4 => ?_)
  refine WT.nil ?_; refine AW.seq ?_
  refine AW.draw (ps := [(0, 4), (0, 9), (2, 9)]) rfl rfl ?_
  refine zl hT 1 zr zr zr zr zr zr me zr ?_; refine ze hT zr zr zr zr zr ?_; refine zl hT 1 zr zr zr zr zr zr me zr ?_; refine ze hT zr zr zr zr zr ?_
  refine WT.callF0 Tryd.func49 zr zr zr zr zr zr (ends_spec _ hL g hg hr hw (by omega)) (fun F1 v hF1 hv => ?_)
  obtain ⟨ea, ec, E, rfl, hE, hE2⟩ := hv
  have hEl := hE2.ok.size
  refine WT.callF0 Tryd.func70 zr zr zr zr zr zr (build_spec _ (hL.mono hF1) g hg (hr.mono hF1) (hw.mono hF1) hw12 hE hE2.ok 1099511627776 (by decide)) (fun F2 v hF2 hv => ?_)
  have hres : ∃ x, v = .tuple ⟨[.agg ⟨x⟩, .bool true]⟩ ∧ ForestV g w E F2 (.agg ⟨x⟩) ∧ ∃ a n c r, x = [.slice a n c, .int .i64 r] := by
    rcases hv with ⟨h1, rfl⟩ | ⟨h1, h2⟩
    · exact ⟨_, rfl, .inl ⟨h1, rfl⟩, _, _, _, _, rfl⟩
    · rcases h2 with ⟨S, a, n, c, rfl, hK, hA, _⟩ | ⟨_, L, h3, h4, h5⟩
      · exact ⟨_, rfl, .inr ⟨h1, S, a, n, c, rfl, hK, hA⟩, _, _, _, _, rfl⟩
      · have := few_packs hg hw12 h3 h4
        omega
  clear hv
  obtain ⟨x, rfl, hx, xa, xn, xc, xr, rfl⟩ := hres
  (iterate 3 refine ze hT zr zr zr zr zr ?_)
  refine WT.allocT hT zr zr zr zr zr zr (fun i5 hi5 => ?_)
  refine zs hT 0 0 zr zr zr zr zr zr zr zr zr zr zr zr ?_; refine ze hT zr zr zr zr zr ?_; refine WT.nil ?_
  refine ⟨(by repeat (first | exact trivial | refine recs_pair rfl rfl (by first | exact keep0 | exact keep1 (keeps_frz (by assumption)) | exact kp 0 0 me me | exact kp 1 1 me me | exact kp 2 2 me me | exact kp 3 3 me me | exact kp 4 4 me me | exact kp 5 5 me me | exact kp 6 6 me me | exact kp 0 1 me me | exact kp 1 2 me me | exact kp 2 3 me me | exact kp 3 4 me me | exact kp 4 5 me me | exact kp 5 6 me me | exact kp 6 7 me me) ?_)), ?_⟩
  refine AW.seq ?_; refine AW.reg ?_; refine zl hT 0 zr zr zr zr zr zr me zr ?_; refine zs hT 1 0 zr zr zr zr zr zr zr zr zr zr zr zr ?_; refine WT.nil ?_
  exact AW.ret ⟨_, [], ⟨_, _, ⟨_, rfl, fun G h0 s0 => loadA_cells (s0.has (p := 1) rfl (List.mem_cons_self ..)) (readT_ok hT rfl)⟩, rfl, rfl⟩, (by repeat (first | exact List.Sublist.refl _ | refine List.Sublist.cons _ ?_)), rfl, E, hE2, hx⟩

theorem still_zero {T : Nat → Nat} (h : ∀ d, T d = 0) : Still T 0 := ⟨0, fun d _ => h d⟩

theorem mcount_spec (F : Frz) (hL : Laid F) (g : Gram) (hg : Valid g) {ga : Option Addr} {gm gc : Nat} (hr : Arr tRule F ga gm gc g.rules) {b : Option Addr} {n d : Nat} {w : List Nat} (hw : Arr tNat F b n d w) (hw12 : w.length ≤ 12) (hw2 : ∀ t ∈ w, t < g.terms) :
    Abs.Spec CC 32 [.agg ⟨gramCells g ga gm gc⟩, .slice b n d] F [] fun F' v o => o = [] ∧ ∃ c, v = .tuple ⟨[.int .i64 c, .int .i64 0]⟩ ∧ CountVal (fun d => symT g w d ⟨false, g.start⟩ 0 w.length) c := by
  unfold gramCells
  refine Abs.Spec.fn (n := 17) Tryd.func32 rfl rfl fun own => ?_
  refine AW.seq (AW.reg ?_)
  refine WT.boxT zr zr zr zr zr zr (fun i2 hi2 => ?_)
  (iterate 2 refine ze hT zr zr zr zr zr ?_); refine WT.nil ?_; (iterate 2 refine AW.seq ?_); refine AW.reg ?_; refine zl hT 0 zr zr zr zr zr zr me zr ?_; refine ze hT zr zr zr zr zr ?_
  refine WT.callV Tryd.func65 zr zr zr zr zr zr (mcheck_spec _ g hg hr hw hw12 hw2) (fun v hv => ?_)
  subst hv
  refine ze hT zr zr zr zr zr ?_; refine WT.nil ?_; refine AW.seq ?_; refine AW.reg ?_; (iterate 2 refine ze hT zr zr zr zr zr ?_); refine WT.nil ?_
  refine AW.cond rfl (fun h => (by cases h)) (fun h => ?_)
  refine AW.skip ?_; refine AW.seq ?_; refine AW.reg ?_; refine zl hT 0 zr zr zr zr zr zr me zr ?_; refine ze hT zr zr zr zr zr ?_
  refine WT.callF0 Tryd.func67 zr zr zr zr zr zr (meanOf_spec _ hL g hg hr hw hw12) (fun F2 v hF2 hv => ?_)
  obtain ⟨E, hE, hv⟩ := hv
  rcases hv with ⟨h1, rfl⟩ | ⟨h1, S, a, n', c, rfl, hK, hA⟩
  · refine WT.callV Tryd.func66 zr zr zr zr zr zr (countNone_spec _) (fun v hv => ?_)
    subst hv
    (iterate 2 refine ze hT zr zr zr zr zr ?_); refine WT.nil ?_
    refine AW.ret ⟨_, [], ⟨_, _, rfl, ⟨_, _, rfl, rfl, rfl⟩, rfl⟩, (by repeat (first | exact List.Sublist.refl _ | refine List.Sublist.cons _ ?_)), rfl, 0, rfl, .inl ⟨0, still_zero fun d => ?_, rfl⟩⟩
    rcases Nat.eq_zero_or_pos (symT g w d ⟨false, g.start⟩ 0 w.length) with e | e
    · exact e
    · have := (step_der hE (Nat.zero_le _)).2 (symT_der e)
      rw [h1] at this; cases this
  · have hroot := root_good hg w
    have hrm := hK.first
    have hpl := place_at hrm
    have hlt := (List.getElem?_eq_some_iff.1 hpl).1
    refine WT.callV Tryd.func66 zr zr zr zr zr zr (count_spec _ (nodes_ok hg hw12 hK hroot) (nodes_prod hg hE hK hroot h1) hA (place S (rootKey g w)) (by rw [List.length_map]; exact hlt)) (fun v hv => ?_)
    obtain ⟨c', rfl, hc⟩ := hv
    (iterate 2 refine ze hT zr zr zr zr zr ?_); refine WT.nil ?_
    refine AW.ret ⟨_, [], ⟨_, _, rfl, ⟨_, _, rfl, rfl, rfl⟩, rfl⟩, (by repeat (first | exact List.Sublist.refl _ | refine List.Sublist.cons _ ?_)), rfl, c', rfl, ?_⟩
    have : (fun d => nodeT (S.map (mkNode g w E S)) d (place S (rootKey g w))) = fun d => symT g w d ⟨false, g.start⟩ 0 w.length := by
      funext d
      exact node_sym hg hE hK hroot h1 d _ hrm
    rw [this] at hc
    exact hc

/-! ### forest.Make, forest.Of -/
/-- A forest, or too many packs. -/
def MakeRes (g : Gram) (w : List Nat) (E : List (List Nat)) (F : Frz) (v : Value) : Prop :=
  (∃ s a n c r, s = .agg ⟨[.slice a n c, .int .i64 r]⟩ ∧ v = .tuple ⟨[s, .int .i64 0]⟩ ∧ ForestV g w E F s ∧ ∀ S, Keys g w E (rootKey g w) S → stepB w E ⟨false, g.start⟩ 0 w.length = true → packSum g w E S ≤ 20000) ∨
  (v = .tuple ⟨[.agg ⟨[.slice none 0 0, .int .i64 0]⟩, .int .i64 2]⟩ ∧ stepB w E ⟨false, g.start⟩ 0 w.length = true ∧ ∃ L : List Key, L.Nodup ∧ (∀ k ∈ L, Reachable g w E (rootKey g w) k) ∧ 20000 < packSum g w E L)

theorem keys_uniq {g : Gram} {w : List Nat} {E : List (List Nat)} {root : Key} {S S' : List Key} (h : Keys g w E root S) (h' : Keys g w E root S') : S = S' := by
  have hp : S.Perm S' := by
    rw [List.perm_ext_iff_of_nodup h.nodup h'.nodup]
    exact fun k => ⟨fun hk => h'.all (h.reach k hk), fun hk => h.all (h'.reach k hk)⟩
  refine List.Perm.eq_of_pairwise (le := fun x y => ltKey x y = true) (fun a b _ _ h1 h2 => ?_) h.sorted h'.sorted hp
  have := ltKey_swo.trans _ _ _ h1 h2
  rw [ltKey_swo.irrefl] at this; cases this

theorem make_spec (F : Frz) (hL : Laid F) (g : Gram) (hg : Valid g) {ga : Option Addr} {gm gc : Nat} (hr : Arr tRule F ga gm gc g.rules) {b : Option Addr} {n d : Nat} {w : List Nat} (hw : Arr tNat F b n d w) (hw12 : w.length ≤ 12)
    {a : Option Addr} {m c : Nat} {E : List (List Nat)} (hE : Arr (tList tU32) F a m c E) (hE2 : EndsOk g.nons w.length E) :
    Abs.Spec CC 48 [.agg ⟨gramCells g ga gm gc⟩, .slice b n d, .slice a m c] F [] fun F' v o => o = [] ∧ MakeRes g w E F' v := by
  unfold gramCells
  refine Abs.Spec.fn (n := 21) Tryd.func48 rfl rfl fun own => ?_
  refine AW.seq (AW.reg ?_)
  refine WT.boxT zr zr zr zr zr zr (fun i2 hi2 => ?_)
  refine WT.allocT hT zr zr zr zr zr zr (fun i4 hi4 => ?_)
  refine ze hT zr zr zr zr zr ?_; refine WT.nil ?_; refine AW.seq ?_; refine AW.reg ?_; refine zl hT 1 zr zr zr zr zr zr me zr ?_; (iterate 2 refine ze hT zr zr zr zr zr ?_)
  refine WT.callF0 Tryd.func70 zr zr zr zr zr zr (build_spec _ hL g hg hr hw hw12 hE hE2 20000 (by decide)) (fun F2 v hF2 hv => ?_)
  have hres : (∃ a n c r, v = .tuple ⟨[.agg ⟨[.slice a n c, .int .i64 r]⟩, .bool true]⟩ ∧ ForestV g w E F2 (.agg ⟨[.slice a n c, .int .i64 r]⟩) ∧ ∀ S, Keys g w E (rootKey g w) S → stepB w E ⟨false, g.start⟩ 0 w.length = true → packSum g w E S ≤ 20000) ∨
      (v = .tuple ⟨[.agg ⟨[.slice none 0 0, .int .i64 0]⟩, .bool false]⟩ ∧ stepB w E ⟨false, g.start⟩ 0 w.length = true ∧ ∃ L : List Key, L.Nodup ∧ (∀ k ∈ L, Reachable g w E (rootKey g w) k) ∧ 20000 < packSum g w E L) := by
    rcases hv with ⟨h1, rfl⟩ | ⟨h1, h2⟩
    · exact .inl ⟨_, _, _, _, rfl, .inl ⟨h1, rfl⟩, fun S _ h2 => by rw [h1] at h2; cases h2⟩
    · rcases h2 with ⟨S, a, n, c, rfl, hK, hA, hs⟩ | ⟨rfl, hL⟩
      · exact .inl ⟨_, _, _, _, rfl, .inr ⟨h1, S, a, n, c, rfl, hK, hA⟩, fun S' hS' _ => by rw [keys_uniq hS' hK]; exact hs⟩
      · exact .inr ⟨rfl, h1, hL⟩
  clear hv
  rcases hres with ⟨xa, xn, xc, xr, rfl, hx, hx2⟩ | ⟨rfl, hx, hx2⟩
  · (iterate 3 refine ze hT zr zr zr zr zr ?_)
    refine WT.allocT hT zr zr zr zr zr zr (fun i5 hi5 => ?_)
    refine zs hT 0 0 zr zr zr zr zr zr zr zr zr zr zr zr ?_; refine ze hT zr zr zr zr zr ?_; refine WT.nil ?_; (iterate 2 refine AW.seq ?_); refine AW.reg ?_; (iterate 2 refine ze hT zr zr zr zr zr ?_); refine WT.nil ?_
    refine AW.cond rfl (fun h => (by cases h)) (fun h => ?_)
    refine AW.skip ?_; refine AW.seq ?_; refine AW.reg ?_; refine zl hT 0 zr zr zr zr zr zr me zr ?_; refine zs hT 1 0 zr zr zr zr zr zr zr zr zr zr zr zr ?_; refine ze hT zr zr zr zr zr ?_; refine WT.nil ?_
    exact AW.ret ⟨_, [], ⟨_, _, ⟨_, rfl, fun G h0 s0 => loadA_cells (s0.has (p := 1) rfl (List.mem_cons_self ..)) (readT_ok hT rfl)⟩, ⟨_, _, rfl, rfl, rfl⟩, rfl⟩, (by repeat (first | exact List.Sublist.refl _ | refine List.Sublist.cons _ ?_)), rfl, .inl ⟨_, _, _, _, _, rfl, rfl, hx, hx2⟩⟩
  · (iterate 3 refine ze hT zr zr zr zr zr ?_)
    refine WT.allocT hT zr zr zr zr zr zr (fun i5 hi5 => ?_)
    refine zs hT 0 0 zr zr zr zr zr zr zr zr zr zr zr zr ?_; refine ze hT zr zr zr zr zr ?_; refine WT.nil ?_; (iterate 2 refine AW.seq ?_); refine AW.reg ?_; (iterate 2 refine ze hT zr zr zr zr zr ?_); refine WT.nil ?_
    refine AW.cond rfl (fun _ => ?_) (fun h => (by cases h))
    refine AW.seq ?_; refine AW.reg ?_; refine ze hT zr zr zr zr zr ?_; refine zs hT 1 0 zr zr zr zr zr zr zr zr zr zr zr zr ?_; refine ze hT zr zr zr zr zr ?_; refine WT.nil ?_
    exact AW.ret ⟨_, [], ⟨_, _, ⟨_, rfl, fun G h0 s0 => loadA_cells (s0.has (p := 1) rfl (List.mem_cons_self ..)) (readT_ok hT rfl)⟩, ⟨_, _, rfl, rfl, rfl⟩, rfl⟩, (by repeat (first | exact List.Sublist.refl _ | refine List.Sublist.cons _ ?_)), rfl, .inr ⟨rfl, hx, hx2⟩⟩

theorem forestOf_spec (F : Frz) (hL : Laid F) (g : Gram) (hg : Valid g) {ga : Option Addr} {gm gc : Nat} (hr : Arr tRule F ga gm gc g.rules) {b : Option Addr} {n d : Nat} {w : List Nat} (hw : Arr tNat F b n d w) (hw12 : w.length ≤ 12) (hw2 : ∀ t ∈ w, t < g.terms) :
    Abs.Spec CC 16 [.agg ⟨gramCells g ga gm gc⟩, .slice b n d] F [] fun F' v o => o = [] ∧ ∃ E, EndsOf g w E ∧ MakeRes g w E F' v := by
  unfold gramCells
  refine Abs.Spec.fn (n := 26) Tryd.func16 rfl rfl fun own => ?_
  refine AW.seq (AW.reg ?_)
  refine WT.boxT zr zr zr zr zr zr (fun i2 hi2 => ?_)
  refine WT.allocT hT zr zr zr zr zr zr (fun i4 hi4 => ?_)
  refine ze hT zr zr zr zr zr ?_; refine WT.nil ?_; (iterate 2 refine AW.seq ?_); refine AW.reg ?_; refine zl hT 1 zr zr zr zr zr zr me zr ?_; refine ze hT zr zr zr zr zr ?_
  refine WT.callV Tryd.func47 zr zr zr zr zr zr (accepts_spec _ hL g hg hr hw hw12 hw2) (fun v hv => ?_)
  subst hv
  (iterate 5 refine ze hT zr zr zr zr zr ?_); refine WT.nil ?_; refine AW.seq ?_; refine AW.reg ?_; (iterate 2 refine ze hT zr zr zr zr zr ?_); refine WT.nil ?_
  refine AW.cond rfl (fun h => (by cases h)) (fun h => ?_)
  refine AW.skip ?_; refine AW.seq ?_
  refine AW.draw (ps := [(0, 4)]) rfl rfl ?_
  refine zl hT 1 zr zr zr zr zr zr me zr ?_; refine ze hT zr zr zr zr zr ?_; refine zl hT 1 zr zr zr zr zr zr me zr ?_; refine ze hT zr zr zr zr zr ?_
  refine WT.callF0 Tryd.func49 zr zr zr zr zr zr (ends_spec _ hL g hg hr hw (by omega)) (fun F1 v hF1 hv => ?_)
  obtain ⟨ea, ec, E, rfl, hE, hE2⟩ := hv
  refine WT.callF0 Tryd.func48 zr zr zr zr zr zr (make_spec _ (hL.mono hF1) g hg (hr.mono hF1) (hw.mono hF1) hw12 hE hE2.ok) (fun F2 v hF2 hv => ?_)
  rcases hv with ⟨s, a, n', c, r, rfl, rfl, hx, hx2⟩ | ⟨rfl, hx, hx2⟩
  · (iterate 2 refine ze hT zr zr zr zr zr ?_); refine zs hT 0 0 zr zr zr zr zr zr zr zr zr zr zr zr ?_; refine ze hT zr zr zr zr zr ?_; refine WT.nil ?_
    refine ⟨(by repeat (first | exact trivial | refine recs_pair rfl rfl (by first | exact keep0 | exact keep1 (keeps_frz (by assumption)) | exact kp 0 0 me me | exact kp 1 1 me me | exact kp 2 2 me me | exact kp 3 3 me me | exact kp 4 4 me me | exact kp 5 5 me me | exact kp 6 6 me me | exact kp 0 1 me me | exact kp 1 2 me me | exact kp 2 3 me me | exact kp 3 4 me me | exact kp 4 5 me me | exact kp 5 6 me me | exact kp 6 7 me me) ?_)), ?_⟩
    exact AW.ret ⟨_, [], ⟨_, _, ⟨_, rfl, fun G h0 s0 => loadA_cells (s0.has (p := 0) rfl (List.mem_cons_self ..)) (readT_ok hT rfl)⟩, ⟨_, _, rfl, rfl, rfl⟩, rfl⟩, (by repeat (first | exact List.Sublist.refl _ | refine List.Sublist.cons _ ?_)), rfl, E, hE2, .inl ⟨_, _, _, _, _, rfl, rfl, hx, hx2⟩⟩
  · (iterate 2 refine ze hT zr zr zr zr zr ?_); refine zs hT 0 0 zr zr zr zr zr zr zr zr zr zr zr zr ?_; refine ze hT zr zr zr zr zr ?_; refine WT.nil ?_
    refine ⟨(by repeat (first | exact trivial | refine recs_pair rfl rfl (by first | exact keep0 | exact keep1 (keeps_frz (by assumption)) | exact kp 0 0 me me | exact kp 1 1 me me | exact kp 2 2 me me | exact kp 3 3 me me | exact kp 4 4 me me | exact kp 5 5 me me | exact kp 6 6 me me | exact kp 0 1 me me | exact kp 1 2 me me | exact kp 2 3 me me | exact kp 3 4 me me | exact kp 4 5 me me | exact kp 5 6 me me | exact kp 6 7 me me) ?_)), ?_⟩
    exact AW.ret ⟨_, [], ⟨_, _, ⟨_, rfl, fun G h0 s0 => loadA_cells (s0.has (p := 0) rfl (List.mem_cons_self ..)) (readT_ok hT rfl)⟩, ⟨_, _, rfl, rfl, rfl⟩, rfl⟩, (by repeat (first | exact List.Sublist.refl _ | refine List.Sublist.cons _ ?_)), rfl, E, hE2, .inr ⟨rfl, hx, hx2⟩⟩
end Go.Proofs.D

set_option linter.unusedVariables false
set_option maxRecDepth 20000
set_option maxHeartbeats 0
open Go Go.Abs Go.Proofs Go.Proofs.D
namespace Go.Proofs.D

structure CpS where
  j : Nat
  a : Option Addr
  c : Nat
  B : List (Nat × Blk)

theorem perm_cp3 {α : Type} (x a b c : α) (l : List α) : (x :: a :: b :: c :: l).Perm (a :: b :: c :: x :: l) := (List.perm_middle (l₁ := [a, b, c])).symm

theorem copyOf_spec (F : Frz) (g : Gram) {a : Option Addr} {m c : Nat} (hr : Arr tRule F a m c g.rules) (hm : m ≤ 1000000) (hrr : ∀ r ∈ g.rules, r.right.length ≤ 1000000) :
    Abs.Spec CC 30 [.agg ⟨gramCells g a m c⟩] F [] fun F' v o => ∃ B', o = [B'] ∧ ∃ a' c', v = .agg ⟨gramCells g a' m c'⟩ ∧ Bld tRule F' a' m c' B' g.rules := by
  unfold gramCells
  have hrl := hr.len
  refine Abs.Spec.fn (n := 28) Tryd.func30 rfl rfl fun own => ?_
  refine AW.seq (AW.reg ?_)
  refine WT.boxT zr zr zr zr zr zr (fun i1 hi1 => ?_)
  refine WT.allocT hT zr zr zr zr zr zr (fun i2 hi2 => ?_)
  refine WT.nil ?_; refine AW.seq ?_; refine AW.reg ?_; refine zl hT 1 zr zr zr zr zr zr me zr ?_
  refine WT.allocT hT zr zr zr zr zr zr (fun i3 hi3 => ?_)
  refine zs hT 0 0 zr zr zr zr zr zr zr zr zr zr zr zr ?_; refine WT.nil ?_; refine AW.seq ?_; refine AW.reg ?_; refine ze hT zr zr zr zr zr ?_; refine zs hT 0 0 zr zr zr zr zr zr zr zr zr zr zr zr ?_; refine WT.nil ?_; (iterate 2 refine AW.seq ?_); refine AW.reg ?_; refine ze hT zr zr zr zr zr ?_; refine zl hT 2 zr zr zr zr zr zr me zr ?_; (iterate 2 refine ze hT zr zr zr zr zr ?_); refine WT.nil ?_
  refine AW.range (S := CpS) (fun _ => []) (fun s => s.B :: [(i3, .cells false [.int .i64 g.terms, .int .i64 g.nons, .int .i64 g.start, .slice s.a (g.rules.take s.j).length s.c])] :: [(i2, .cells false [.int .i64 0, .int .i64 0, .int .i64 0, .slice none 0 0])] :: [(i1, .cells false [.int .i64 g.terms, .int .i64 g.nons, .int .i64 g.start, .slice a m c])] :: own)
    (fun j s G => s.j = j ∧ Bld tRule G s.a (g.rules.take s.j).length s.c s.B (g.rules.take s.j)) m ⟨0, none, 0, []⟩
    zr zr zr zr zr zr zr zr zr (by omega) rfl rfl (fun _ => rfl) (fun _ => rfl) (SubK.of_map rfl) (OwnLe.flat (List.Perm.refl _)) ⟨rfl, by simpa using Bld.nil_ _ _⟩ ?_ ?_
  · intro j s F1 hF1 hj hP
    obtain ⟨rfl, hb⟩ := hP
    have hr1 := hr.mono hF1
    refine AW.seq ?_; refine AW.reg ?_
    refine WT.idxL hT hr1 zr zr zr zr zr zr zr zr zr (by omega) (fun r hrj b off ro cs lx hb1 hp1 hrel => ?_)
    obtain ⟨ra, rn, rc, rfl, hra⟩ := hrel
    have hral := hra.len
    have hrn := hrr r (List.mem_of_getElem? hrj)
    refine zi (fo := 0) hT (by assumption) (by assumption) zr zr zr zr zr zr ?_
    refine WT.allocT hT zr zr zr zr zr zr (fun i5 hi5 => ?_)
    refine zs hT 0 0 zr zr zr zr zr zr zr zr zr zr zr zr ?_; refine WT.nil ?_
    refine AW.draw (ps := [(1, 6), (1, 8), (3, 6)]) rfl rfl ?_
    refine ze hT zr zr zr zr zr ?_; refine zl hT 2 zr zr zr zr zr zr me zr ?_; refine ze hT zr zr zr zr zr ?_; refine zl hT 0 zr zr zr zr zr zr me zr ?_; refine ze hT zr zr zr zr zr ?_; refine zl hT 0 zr zr zr zr zr zr me zr ?_
    refine WT.callN Tryd.func62 zr zr zr zr zr zr (symClone_spec _ hra (by omega)) (fun F2 v B2 hF2 hv => ?_)
    obtain ⟨ca, cc, rfl, hcv⟩ := hv
    refine WT.freezeAll 0 rfl rfl (fun F3 hF3 hB3 => ?_)
    have hca := hcv.arr hF3 hB3
    have hb3 := (hb.mono hF2).mono hF3
    refine ze hT zr zr zr zr zr ?_
    refine WT.buildT hT zr zr zr zr zr zr zr zr zr zr zr zr zr zr (fun i9 hi9 => ?_)
    have hlt : (g.rules.take s.j).length ≤ 1000000 := by simp; omega
    refine WT.appendT (ys := [r]) hT 3 hb3 rfl (fun _ => rfl) zr zr zr zr zr zr zr zr zr zr zr (fun h0 s0 => news_own hT s0 0 zr zr zr zr) (Cells.single (R := tRule) (x := r) ⟨_, _, _, rfl, hca⟩) rfl (by decide) (by first | omega | (dsimp only at *; omega)) (fun a3 c3 B3 hB3 => ?_)
    have he : g.rules.take (s.j + 1) = g.rules.take s.j ++ [r] := by rw [List.take_add_one, hrj]; rfl
    have hl2 : (g.rules.take (s.j + 1)).length = (g.rules.take s.j).length + 1 := by rw [he]; simp
    rw [← he, ← hl2] at hB3
    rw [← hl2]
    refine ze hT zr zr zr zr zr ?_; refine zs hT 4 0 zr zr zr zr zr zr zr zr zr zr zr zr ?_; refine WT.nil ?_
    refine ⟨(by repeat (first | exact trivial | refine recs_pair rfl rfl (by first | exact keep0 | exact keep1 (keeps_frz (by assumption)) | exact kp 0 0 me me | exact kp 1 1 me me | exact kp 2 2 me me | exact kp 3 3 me me | exact kp 4 4 me me | exact kp 5 5 me me | exact kp 6 6 me me | exact kp 0 1 me me | exact kp 1 2 me me | exact kp 2 3 me me | exact kp 3 4 me me | exact kp 4 5 me me | exact kp 5 6 me me | exact kp 6 7 me me) ?_)), ?_⟩
    exact ⟨⟨s.j + 1, a3, c3, B3⟩, SubK.of_map rfl, (by repeat (first | exact OwnLe.refl _ | refine OwnLe.skip _ ?_)), rfl, hB3⟩
  · intro s F1 hF1 hP
    obtain ⟨rfl, hb⟩ := hP
    rw [List.take_of_length_le (by omega), ← hrl] at hb
    rw [List.take_of_length_le (by omega), ← hrl]
    refine AW.seq ?_; refine AW.reg ?_; refine zl hT 1 zr zr zr zr zr zr me zr ?_; refine zs hT 2 0 zr zr zr zr zr zr zr zr zr zr zr zr ?_; refine WT.nil ?_
    refine AW.perm (perm_cp3 _ _ _ _ _) ?_
    refine AW.ret ⟨_, [_], ⟨_, _, ⟨_, rfl, fun G h0 s0 => loadA_cells (s0.has (p := 1) rfl (List.mem_cons_self ..)) (readT_ok hT rfl)⟩, rfl, rfl⟩, (by repeat (first | exact List.Sublist.refl _ | refine List.Sublist.cons _ ?_)), _, rfl, _, _, rfl, ?_⟩
    exact hb


/-! ### trees of a part -/
theorem sum_congr {α : Type} {f h : α → Nat} {l : List α} (e : ∀ x ∈ l, f x = h x) : (l.map f).sum = (l.map h).sum := by
  congr 1
  exact List.map_congr_left e

theorem sum_shift (f : Nat → Nat) (a : Nat) : ∀ n, (∀ m, m < a → f m = 0) → ((List.range (a + n)).map f).sum = ((List.range n).map fun m => f (a + m)).sum
  | 0, h => by
    rw [Nat.add_zero]
    exact sum_zero fun x hx => by
      obtain ⟨m, hm, rfl⟩ := List.mem_map.1 hx
      exact h m (List.mem_range.1 hm)
  | n + 1, h => by
    rw [show a + (n + 1) = (a + n) + 1 by omega, List.range_succ, List.range_succ, List.map_append, List.map_append, List.sum_append, List.sum_append, sum_shift f a n h]
    simp

theorem listT_part {f h : Sym → Nat → Nat → Nat} {a : Nat} (hz : ∀ s i m, m < i → h s i m = 0) : ∀ (l : List Sym) (i j : Nat), (∀ s ∈ l, ∀ i m, m ≤ j → f s i m = h s (a + i) (a + m)) → listT f l i j = listT h l (a + i) (a + j)
  | [], i, j, _ => by
    unfold listT
    by_cases e : i = j
    · subst e; simp
    · rw [if_neg e, if_neg (by omega)]
  | s :: l, i, j, hf => by
    unfold listT
    rw [show a + j + 1 = a + (j + 1) by omega, sum_shift _ a (j + 1) fun m hm => by rw [hz s (a + i) m (by omega), Nat.zero_mul]]
    refine sum_congr fun m hm => ?_
    have hm := List.mem_range.1 hm
    rw [hf s (List.mem_cons_self ..) i m (by omega), listT_part hz l m j fun s hs i m hm => hf s (List.mem_cons_of_mem _ hs) i m hm]

theorem symT_lt {g : Gram} {w : List Nat} {d : Nat} {s : Sym} {i j : Nat} (h : j < i) : symT g w d s i j = 0 := by
  rcases Nat.eq_zero_or_pos (symT g w d s i j) with e | e
  · exact e
  · have := der_le (symT_der e)
    omega

/-- A part of a word alone has the trees that it has in the word. -/
theorem symT_part {g : Gram} {w : List Nat} {a b : Nat} : ∀ (d : Nat) (s : Sym) (i j : Nat), a + j ≤ b → symT g ((w.take b).drop a) d s i j = symT g w d s (a + i) (a + j)
  | 0, s, i, j, _ => rfl
  | d + 1, s, i, j, hj => by
    rw [symT, symT]
    split
    · rw [List.getElem?_drop, List.getElem?_take]
      by_cases h : j = i + 1
      · subst h
        rw [if_pos (show a + i < b by omega)]
        by_cases e : w[a + i]? = some s.n
        · rw [if_pos ⟨e, rfl⟩, if_pos ⟨e, by omega⟩]
        · rw [if_neg (fun h => e h.1), if_neg (fun h => e h.1)]
      · rw [if_neg (fun h2 => h h2.2), if_neg (fun h2 => h (by omega))]
    · refine sum_congr fun r _ => ?_
      split
      · exact listT_part (fun s i m hm => symT_lt hm) r.right i j fun s _ i m hm => symT_part d s i m (by omega)
      · rfl

/-! ### counts -/
theorem CountVal.uniq {T : Nat → Nat} (hm : ∀ d, T d ≤ T (d + 1)) {a b : Int} (h : CountVal T a) (h2 : CountVal T b) : a = b := by
  have clash : ∀ {n}, Still T n → Unbound T → False := by
    intro n hs hu
    obtain ⟨D, hD⟩ := hs
    obtain ⟨d, hd⟩ := hu (n + 1)
    have mono : ∀ e, T d ≤ T (d + e) := by
      intro e
      induction e with
      | zero => exact Nat.le_refl _
      | succ e ih => exact Nat.le_trans ih (hm (d + e))
    have h1 := mono D
    have h2 := hD (d + D) (by omega)
    omega
  rcases h with ⟨n, h1, rfl⟩ | ⟨h1, rfl⟩ <;> rcases h2 with ⟨n', h3, rfl⟩ | ⟨h3, rfl⟩
  · rw [h1.uniq h3]
  · exact (clash h1 h3).elim
  · exact (clash h3 h1).elim
  · rfl

theorem Still.add {A B : Nat → Nat} {a b : Nat} (h : Still A a) (h2 : Still B b) : Still (fun d => A d + B d) (a + b) := by
  obtain ⟨D, h⟩ := h
  obtain ⟨E, h2⟩ := h2
  exact ⟨max D E, fun d hd => by dsimp only; rw [h d (by omega), h2 d (by omega)]⟩
theorem Still.mul {A B : Nat → Nat} {a b : Nat} (h : Still A a) (h2 : Still B b) : Still (fun d => A d * B d) (a * b) := by
  obtain ⟨D, h⟩ := h
  obtain ⟨E, h2⟩ := h2
  exact ⟨max D E, fun d hd => by dsimp only; rw [h d (by omega), h2 d (by omega)]⟩

theorem mono_le {T : Nat → Nat} (hm : ∀ d, T d ≤ T (d + 1)) {d e : Nat} (h : d ≤ e) : T d ≤ T e := by
  induction e with
  | zero => obtain rfl : d = 0 := by omega
            exact Nat.le_refl _
  | succ e ih =>
    rcases Nat.lt_or_ge d (e + 1) with h2 | h2
    · exact Nat.le_trans (ih (by omega)) (hm e)
    · obtain rfl : d = e + 1 := by omega
      exact Nat.le_refl _

theorem Unbound.addR {A B : Nat → Nat} (h : Unbound B) : Unbound fun d => A d + B d := fun n => by
  obtain ⟨d, hd⟩ := h n
  exact ⟨d, by dsimp only; omega⟩
theorem Unbound.addL {A B : Nat → Nat} (h : Unbound A) : Unbound fun d => A d + B d := fun n => by
  obtain ⟨d, hd⟩ := h n
  exact ⟨d, by dsimp only; omega⟩
theorem Unbound.mul {A B : Nat → Nat} (hA : ∀ d, A d ≤ A (d + 1)) (hB : ∀ d, B d ≤ B (d + 1)) (h : Unbound A) (h2 : ∃ d, 1 ≤ B d) : Unbound fun d => A d * B d := fun n => by
  obtain ⟨d, hd⟩ := h n
  obtain ⟨e, he⟩ := h2
  refine ⟨max d e, ?_⟩
  have h3 := mono_le hA (show d ≤ max d e by omega)
  have h4 := mono_le hB (show e ≤ max d e by omega)
  have : A d * 1 ≤ A (max d e) * B (max d e) := Nat.mul_le_mul h3 (by omega)
  dsimp only; omega

/-- What MeanJoined adds up. -/
def joinSum (s a b : Int) : Int := if a = 0 ∨ b = 0 then s else if a = -1 ∨ b = -1 ∨ s = -1 then -1 else min (s + min (a * b) 1000000000) 1000000000

theorem CountVal.zero {T : Nat → Nat} (hm : ∀ d, T d ≤ T (d + 1)) (h : CountVal T 0) : ∀ d, T d = 0 := by
  rcases h with ⟨n, ⟨D, hD⟩, h2⟩ | ⟨_, h⟩
  · have hn : n = 0 := by
      unfold MAXC at h2
      omega
    subst hn
    intro d
    have h3 := mono_le hm (show d ≤ max d D by omega)
    have h4 := hD (max d D) (by omega)
    omega
  · cases h

theorem CountVal.some {T : Nat → Nat} {c : Int} (h : CountVal T c) (hc : c ≠ 0) : ∃ d, 1 ≤ T d := by
  rcases h with ⟨n, ⟨D, hD⟩, h2⟩ | ⟨h, _⟩
  · refine ⟨D, ?_⟩
    rw [hD D (Nat.le_refl _)]
    rcases Nat.eq_zero_or_pos n with e | e
    · subst e; exact absurd h2 (by simpa using hc)
    · exact e
  · exact h 1

theorem count_join {S A B : Nat → Nat} (hA : ∀ d, A d ≤ A (d + 1)) (hB : ∀ d, B d ≤ B (d + 1)) {s a b : Int} (hs : CountVal S s) (ha : CountVal A a) (hb : CountVal B b) : CountVal (fun d => S d + A d * B d) (joinSum s a b) := by
  unfold joinSum
  by_cases h0 : a = 0 ∨ b = 0
  · rw [if_pos h0]
    have : (fun d => S d + A d * B d) = S := by
      funext d
      rcases h0 with rfl | rfl
      · rw [ha.zero hA d, Nat.zero_mul, Nat.add_zero]
      · rw [hb.zero hB d, Nat.mul_zero, Nat.add_zero]
    rw [this]; exact hs
  · rw [if_neg h0]
    have ha1 := ha.some (fun e => h0 (.inl e))
    have hb1 := hb.some (fun e => h0 (.inr e))
    have hcomm : (fun d => B d * A d) = fun d => A d * B d := by funext d; exact Nat.mul_comm _ _
    rcases ha with ⟨na, ha, rfl⟩ | ⟨ha, rfl⟩
    · rcases hb with ⟨nb, hb, rfl⟩ | ⟨hb, rfl⟩
      · rcases hs with ⟨ns, hs, rfl⟩ | ⟨hs, rfl⟩
        · rw [if_neg (by omega)]
          refine .inl ⟨ns + na * nb, hs.add (ha.mul hb), ?_⟩
          have e1 := min_mul na nb
          have e2 := min_add ns (na * nb)
          have hM : (1000000000 : Int) = ((MAXC : Nat) : Int) := rfl
          rw [hM, ← e2, ← e1]
          have e3 : ((min na MAXC : Nat) : Int) * ((min nb MAXC : Nat) : Int) = ((min na MAXC * min nb MAXC : Nat) : Int) := by push_cast; rfl
          rw [e3]
          generalize min na MAXC * min nb MAXC = z
          generalize min ns MAXC = y
          omega
        · rw [if_pos (by simp)]
          exact .inr ⟨hs.addL, rfl⟩
      · rw [if_pos (by simp)]
        refine .inr ⟨Unbound.addR ?_, rfl⟩
        rw [← hcomm]
        exact hb.mul hB hA ha1
    · rw [if_pos (by simp)]
      exact .inr ⟨Unbound.addR (ha.mul hA hB hb1), rfl⟩

/-! ### a grammar with a new start symbol -/
def joined (g : Gram) : Gram := ⟨g.terms, g.nons + 1, g.nons, g.rules ++ [⟨g.nons, [⟨false, g.start⟩, ⟨false, g.start⟩]⟩]⟩

theorem symT_joined {g : Gram} (hg : Valid g) {w : List Nat} : ∀ (d : Nat) (s : Sym) (i j : Nat), SymOk g.terms g.nons s → symT (joined g) w d s i j = symT g w d s i j
  | 0, s, i, j, _ => rfl
  | d + 1, s, i, j, hs => by
    rw [symT, symT]
    split
    · rfl
    · rename_i hst
      have hn : s.n < g.nons := by unfold SymOk at hs; rw [if_neg hst] at hs; exact hs
      show ((g.rules ++ [_]).map _).sum = _
      rw [List.map_append, List.sum_append]
      have h0 : (⟨g.nons, [⟨false, g.start⟩, ⟨false, g.start⟩]⟩ : Rule).left ≠ s.n := by show g.nons ≠ s.n; omega
      simp only [List.map_cons, List.map_nil, List.sum_cons, List.sum_nil, if_neg h0, Nat.add_zero]
      refine sum_congr fun r hr => ?_
      split
      · have hok := (hg.right r hr).2.2
        have := listT_part (f := symT (joined g) w d) (h := symT g w d) (a := 0) (fun s i m hm => symT_lt hm) r.right i j fun s hs i m _ => by
          rw [Nat.zero_add, Nat.zero_add]; exact symT_joined hg d s i m (hok s hs)
        rw [Nat.zero_add, Nat.zero_add] at this
        exact this
      · rfl

theorem joined_start {g : Gram} (hg : Valid g) {w : List Nat} (d : Nat) : symT (joined g) w (d + 1) ⟨false, g.nons⟩ 0 w.length = ((List.range (w.length + 1)).map fun m => symT g w d ⟨false, g.start⟩ 0 m * symT g w d ⟨false, g.start⟩ m w.length).sum := by
  have hst : SymOk g.terms g.nons ⟨false, g.start⟩ := by unfold SymOk; simpa using hg.range.start
  rw [symT]
  simp only [Bool.false_eq_true, if_false]
  show ((g.rules ++ [_]).map _).sum = _
  rw [List.map_append, List.sum_append, sum_zero (l := g.rules.map _) (fun x hx => ?_)]
  · simp only [List.map_cons, List.map_nil, List.sum_cons, List.sum_nil, if_true, Nat.add_zero, Nat.zero_add]
    rw [listT]
    refine sum_congr fun m hm => ?_
    have hm := List.mem_range.1 hm
    rw [symT_joined hg d _ _ _ hst]
    congr 1
    rw [listT, List.range_succ, List.map_append, List.sum_append, sum_zero (l := (List.range w.length).map _) (fun x hx => ?_)]
    · simp [listT, symT_joined hg d _ _ _ hst]
    · obtain ⟨m', hm', rfl⟩ := List.mem_map.1 hx
      have := List.mem_range.1 hm'
      rw [listT, if_neg (by omega), Nat.mul_zero]
  · obtain ⟨r, hr, rfl⟩ := List.mem_map.1 hx
    have := (hg.right r hr).1
    rw [if_neg (by omega)]

theorem joined_valid {g : Gram} (hg : Small g) : Valid (joined g) := by
  have hv := hg.valid
  have hr := hv.range
  have hmem : ∀ r, r ∈ (joined g).rules → r ∈ g.rules ∨ r = ⟨g.nons, [⟨false, g.start⟩, ⟨false, g.start⟩]⟩ := fun r h => by
    rcases List.mem_append.1 h with h | h
    · exact .inl h
    · exact .inr (List.mem_singleton.1 h)
  have hst := hg.start
  have hn := hg.nons
  have hl := hg.rules
  refine ⟨⟨hr.terms, ⟨by show 1 ≤ g.nons + 1; omega, by show g.nons + 1 ≤ 10; omega⟩, Nat.lt_succ_self _, ?_, fun r hm => ?_⟩, fun r hm => ?_, ?_⟩
  · show (g.rules ++ [_]).length ≤ 32
    rw [List.length_append]
    simp; omega
  · rcases hmem r hm with h | rfl
    · exact hr.right r h
    · simp
  · rcases hmem r hm with h | rfl
    · obtain ⟨h1, h2, h3⟩ := hv.right r h
      refine ⟨Nat.lt_succ_of_lt h1, h2, fun y hy => ?_⟩
      have := h3 y hy
      unfold SymOk at this ⊢
      split
      · rename_i e; rw [if_pos e] at this; exact this
      · rename_i e; rw [if_neg e] at this; exact Nat.lt_succ_of_lt this
    · refine ⟨Nat.lt_succ_self _, by simp, fun y hy => ?_⟩
      have : y = ⟨false, g.start⟩ := by simpa using hy
      subst this
      unfold SymOk
      simp only [Bool.false_eq_true, if_false]
      exact Nat.lt_succ_of_lt hst
  · show (g.rules ++ [_]).Nodup
    rw [List.nodup_append]
    refine ⟨hv.nodup, by simp, fun a ha b hb e => ?_⟩
    rw [List.mem_singleton.1 hb] at e
    have := (hv.right a ha).1
    rw [e] at this
    exact Nat.lt_irrefl _ this
end Go.Proofs.D

set_option linter.unusedVariables false
set_option maxRecDepth 20000
set_option maxHeartbeats 0
open Go Go.Abs Go.Proofs Go.Proofs.D
namespace Go.Proofs.D

/-! ### a copy of a grammar, all of it own -/
/-- A rule as its cells: the left side, the right side's slice. -/
def tRuleC : Ty (Nat × Value) where
  size := 2
  rel := fun _ l x => l = [.int .i64 x.1, x.2] ∧ Go.Abs.one x.2 = true
  len := fun _ _ _ h => by rw [h.1]; rfl
  one := fun _ _ _ h => by rw [h.1]; simp only [List.all_cons, List.all_nil, h.2]; rfl
  mono := fun _ _ _ _ _ h => h

inductive Rights (F : Frz) : List (Nat × Value) → List (Nat × Blk) → List Rule → Prop
  | nil : Rights F [] [] []
  | cons {a : Option Addr} {n c : Nat} {Br bs : List (Nat × Blk)} {r : Rule} {xs : List (Nat × Value)} {rs : List Rule} : Vec tSym F a n c Br r.right → Rights F xs bs rs → Rights F ((r.left, .slice a n c) :: xs) (Br ++ bs) (r :: rs)

theorem Rights.mono {F G : Frz} (hF : Frz.le F G) {xs : List (Nat × Value)} {bs : List (Nat × Blk)} {rs : List Rule} (h : Rights F xs bs rs) : Rights G xs bs rs := by
  induction h with
  | nil => exact .nil
  | cons h _ ih => exact .cons (h.mono hF) ih

theorem Rights.snoc {F : Frz} {a : Option Addr} {n c : Nat} {Br : List (Nat × Blk)} {r : Rule} (hv : Vec tSym F a n c Br r.right) {xs : List (Nat × Value)} {bs : List (Nat × Blk)} {rs : List Rule} (h : Rights F xs bs rs) : Rights F (xs ++ [(r.left, .slice a n c)]) (bs ++ Br) (rs ++ [r]) := by
  induction h with
  | nil => simpa using Rights.cons hv .nil
  | cons h _ ih =>
    rw [List.append_assoc]
    exact .cons h ih

theorem Rights.len {F : Frz} {xs : List (Nat × Value)} {bs : List (Nat × Blk)} {rs : List Rule} (h : Rights F xs bs rs) : xs.length = rs.length := by
  induction h with
  | nil => rfl
  | cons _ _ ih => simp [ih]

structure CoS where
  j : Nat
  a : Option Addr
  c : Nat
  B : List (Nat × Blk)
  xs : List (Nat × Value)
  bs : List (Nat × Blk)

theorem perm_cp5 {α : Type} (x a b c l : List α) : (x ++ (a ++ (b ++ (c ++ l)))).Perm (a ++ (b ++ (c ++ (x ++ l)))) := by
  have h := (List.perm_append_comm (l₁ := x) (l₂ := a ++ (b ++ c))).append_right l
  simpa [List.append_assoc] using h

theorem copyOwn_spec (F : Frz) (g : Gram) {a : Option Addr} {m c : Nat} (hr : Arr tRule F a m c g.rules) (hm : m ≤ 1000000) (hrr : ∀ r ∈ g.rules, r.right.length ≤ 1000000) :
    Abs.Spec CC 30 [.agg ⟨gramCells g a m c⟩] F [] fun F' v o => ∃ B', o = [B'] ∧ ∃ B bs a' c' xs, B' = B ++ bs ∧ v = .agg ⟨gramCells g a' m c'⟩ ∧ Bld tRuleC F' a' m c' B xs ∧ Rights F' xs bs g.rules := by
  unfold gramCells
  have hrl := hr.len
  refine Abs.Spec.fn (n := 28) Tryd.func30 rfl rfl fun own => ?_
  refine AW.seq (AW.reg ?_)
  refine WT.boxT zr zr zr zr zr zr (fun i1 hi1 => ?_)
  refine WT.allocT hT zr zr zr zr zr zr (fun i2 hi2 => ?_)
  refine WT.nil ?_; refine AW.seq ?_; refine AW.reg ?_; refine zl hT 1 zr zr zr zr zr zr me zr ?_
  refine WT.allocT hT zr zr zr zr zr zr (fun i3 hi3 => ?_)
  refine zs hT 0 0 zr zr zr zr zr zr zr zr zr zr zr zr ?_; refine WT.nil ?_; refine AW.seq ?_; refine AW.reg ?_; refine ze hT zr zr zr zr zr ?_; refine zs hT 0 0 zr zr zr zr zr zr zr zr zr zr zr zr ?_; refine WT.nil ?_; (iterate 2 refine AW.seq ?_); refine AW.reg ?_; refine ze hT zr zr zr zr zr ?_; refine zl hT 2 zr zr zr zr zr zr me zr ?_; (iterate 2 refine ze hT zr zr zr zr zr ?_); refine WT.nil ?_
  refine AW.range (S := CoS) (fun _ => []) (fun s => s.B :: [(i3, .cells false [.int .i64 g.terms, .int .i64 g.nons, .int .i64 g.start, .slice s.a s.j s.c])] :: s.bs :: [(i2, .cells false [.int .i64 0, .int .i64 0, .int .i64 0, .slice none 0 0])] :: [(i1, .cells false [.int .i64 g.terms, .int .i64 g.nons, .int .i64 g.start, .slice a m c])] :: own)
    (fun j s G => s.j = j ∧ Bld tRuleC G s.a s.j s.c s.B s.xs ∧ Rights G s.xs s.bs (g.rules.take j)) m ⟨0, none, 0, [], [], []⟩
    zr zr zr zr zr zr zr zr zr (by omega) rfl rfl (fun _ => rfl) (fun _ => rfl) (SubK.of_map rfl) (OwnLe.flat (List.Perm.refl _)) ⟨rfl, Bld.nil_ _ _, Rights.nil⟩ ?_ ?_
  · intro j s F1 hF1 hj hP
    obtain ⟨rfl, hb, hR⟩ := hP
    have hr1 := hr.mono hF1
    refine AW.seq ?_; refine AW.reg ?_
    refine WT.idxL hT hr1 zr zr zr zr zr zr zr zr zr (by omega) (fun r hrj b off ro cs lx hb1 hp1 hrel => ?_)
    obtain ⟨ra, rn, rc, rfl, hra⟩ := hrel
    have hral := hra.len
    have hrn := hrr r (List.mem_of_getElem? hrj)
    refine zi (fo := 0) hT (by assumption) (by assumption) zr zr zr zr zr zr ?_
    refine WT.allocT hT zr zr zr zr zr zr (fun i5 hi5 => ?_)
    refine zs hT 0 0 zr zr zr zr zr zr zr zr zr zr zr zr ?_; refine WT.nil ?_
    refine AW.draw (ps := [(1, 6), (1, 8), (3, 6)]) rfl rfl ?_
    refine ze hT zr zr zr zr zr ?_; refine zl hT 2 zr zr zr zr zr zr me zr ?_; refine ze hT zr zr zr zr zr ?_; refine zl hT 0 zr zr zr zr zr zr me zr ?_; refine ze hT zr zr zr zr zr ?_; refine zl hT 0 zr zr zr zr zr zr me zr ?_
    refine WT.callN Tryd.func62 zr zr zr zr zr zr (symClone_spec _ hra (by omega)) (fun F2 v B2 hF2 hv => ?_)
    obtain ⟨ca, cc, rfl, hcv⟩ := hv
    refine ze hT zr zr zr zr zr ?_
    refine WT.buildT hT zr zr zr zr zr zr zr zr zr zr zr zr zr zr (fun i9 hi9 => ?_)
    refine WT.appendT (R := tRuleC) (ys := [(r.left, .slice ca rn cc)]) hT 3 (hb.mono hF2) rfl (fun _ => rfl) zr zr zr zr zr zr zr zr zr zr zr (fun h0 s0 => news_own hT s0 0 zr zr zr zr) (Cells.single (R := tRuleC) ⟨rfl, rfl⟩) rfl (by decide) (by first | omega | (dsimp only at *; omega)) (fun a3 c3 B3 hB3 => ?_)
    refine ze hT zr zr zr zr zr ?_; refine zs hT 4 0 zr zr zr zr zr zr zr zr zr zr zr zr ?_; refine WT.nil ?_
    refine ⟨(by repeat (first | exact trivial | refine recs_pair rfl rfl (by first | exact keep0 | exact keep1 (keeps_frz (by assumption)) | exact kp 0 0 me me | exact kp 1 1 me me | exact kp 2 2 me me | exact kp 3 3 me me | exact kp 4 4 me me | exact kp 5 5 me me | exact kp 6 6 me me | exact kp 0 1 me me | exact kp 1 2 me me | exact kp 2 3 me me | exact kp 3 4 me me | exact kp 4 5 me me | exact kp 5 6 me me | exact kp 6 7 me me) ?_)), ?_⟩
    refine ⟨⟨s.j + 1, a3, c3, B3, s.xs ++ [(r.left, .slice ca rn cc)], s.bs ++ B2⟩, SubK.of_map rfl, ?_, rfl, hB3, ?_⟩
    · refine OwnLe.skip _ (OwnLe.trans (OwnLe.flat ?_) (OwnLe.cons _ (OwnLe.skip _ (OwnLe.refl _))))
      simp only [List.flatten_cons, List.append_assoc]
      exact perm_cp5 _ _ _ _ _
    · have := Rights.snoc (r := r) hcv (hR.mono hF2)
      rw [List.take_add_one, hrj]
      exact this
  · intro s F1 hF1 hP
    obtain ⟨hj, hb, hR⟩ := hP
    rw [List.take_of_length_le (by omega)] at hR
    rw [hj] at hb ⊢
    refine AW.seq ?_; refine AW.reg ?_; refine zl hT 1 zr zr zr zr zr zr me zr ?_; refine zs hT 3 0 zr zr zr zr zr zr zr zr zr zr zr zr ?_; refine WT.nil ?_
    refine AW.le (own2 := [(i2, .cells false [.int .i64 g.terms, .int .i64 g.nons, .int .i64 g.start, .slice s.a m s.c])] :: (s.B ++ s.bs) :: own) (OwnLe.trans (OwnLe.flat ?_) (OwnLe.cons _ (OwnLe.skip _ (OwnLe.cons _ (OwnLe.cons _ (OwnLe.skip _ (OwnLe.refl _))))))) ?_
    · have := List.perm_middle (a := (i2, Blk.cells false [.int .i64 g.terms, .int .i64 g.nons, .int .i64 g.start, .slice s.a m s.c])) (l₁ := s.B ++ s.bs) (l₂ := own.flatten)
      simpa [List.append_assoc] using this
    refine AW.ret ⟨_, [_], ⟨_, _, ⟨_, rfl, fun G h0 s0 => loadA_cells (s0.has (p := 0) rfl (List.mem_cons_self ..)) (readT_ok hT rfl)⟩, rfl, rfl⟩, (by repeat (first | exact List.Sublist.refl _ | refine List.Sublist.cons _ ?_)), _, rfl, _, _, _, _, _, rfl, rfl, hb, hR⟩
end Go.Proofs.D

set_option linter.unusedVariables false
set_option maxRecDepth 20000
set_option maxHeartbeats 0
open Go Go.Abs Go.Proofs Go.Proofs.D
namespace Go.Proofs.D

/-! ### nonterminals numbered in another way -/
def renSym (σ : Nat → Nat) (s : Sym) : Sym := if s.term = true then s else ⟨false, σ s.n⟩
def renRule (σ : Nat → Nat) (r : Rule) : Rule := ⟨σ r.left, r.right.map (renSym σ)⟩
def renG (σ : Nat → Nat) (g : Gram) : Gram := { g with start := σ g.start, rules := g.rules.map (renRule σ) }

/-- A numbering of the first nonterminals. -/
structure Ren (n : Nat) (σ : Nat → Nat) : Prop where
  lt : ∀ i, i < n → σ i < n
  inj : ∀ i j, i < n → j < n → σ i = σ j → i = j

theorem turn_ren {n k : Nat} (hk : k < n) : Ren n fun i => (i + k) % n where
  lt := fun i _ => Nat.mod_lt _ (by omega)
  inj := fun i j hi hj h => by
    have e : ∀ i, i < n → (i + k) % n = if i + k < n then i + k else i + k - n := fun i hi => by
      split
      · exact Nat.mod_eq_of_lt (by omega)
      · rw [Nat.mod_eq_sub_mod (by omega)]
        exact Nat.mod_eq_of_lt (by omega)
    have h : (i + k) % n = (j + k) % n := h
    rw [e i hi, e j hj] at h
    split at h <;> split at h <;> omega

theorem listT_ren {σ : Nat → Nat} {f h : Sym → Nat → Nat → Nat} : ∀ (l : List Sym) (i j : Nat), (∀ s ∈ l, ∀ i j, f (renSym σ s) i j = h s i j) → listT f (l.map (renSym σ)) i j = listT h l i j
  | [], i, j, _ => rfl
  | s :: l, i, j, hs => by
    rw [List.map_cons]
    unfold listT
    congr 1
    refine List.map_congr_left fun m _ => ?_
    rw [hs s (List.mem_cons_self ..) i m, listT_ren l m j fun s' h' => hs s' (List.mem_cons_of_mem _ h')]

theorem symT_ren {g : Gram} (hg : Valid g) {σ : Nat → Nat} (hσ : Ren g.nons σ) (w : List Nat) : ∀ (d : Nat) (s : Sym), SymOk g.terms g.nons s → ∀ i j, symT (renG σ g) w d (renSym σ s) i j = symT g w d s i j
  | 0, s, _, i, j => rfl
  | d + 1, s, hs, i, j => by
    unfold SymOk at hs
    rw [symT, symT]
    cases ht : s.term with
    | true =>
      have e : renSym σ s = s := by unfold renSym; rw [if_pos ht]
      rw [e, ht]
      simp only [if_true]
    | false =>
      rw [if_neg (by rw [ht]; simp)] at hs
      have e : renSym σ s = ⟨false, σ s.n⟩ := by unfold renSym; rw [if_neg (by rw [ht]; simp)]
      rw [e]
      simp only [Bool.false_eq_true, if_false]
      show ((g.rules.map (renRule σ)).map _).sum = _
      rw [List.map_map]
      congr 1
      refine List.map_congr_left fun r hr => ?_
      obtain ⟨h1, _, h3⟩ := hg.right r hr
      have hl : listT (symT (renG σ g) w d) (r.right.map (renSym σ)) i j = listT (symT g w d) r.right i j := listT_ren r.right i j fun s' h' i j => symT_ren hg hσ w d s' (h3 s' h') i j
      show (if σ r.left = σ s.n then listT (symT (renG σ g) w d) (r.right.map (renSym σ)) i j else 0) = _
      rw [hl]
      by_cases e2 : r.left = s.n
      · rw [if_pos e2, if_pos (by rw [e2])]
      · rw [if_neg e2, if_neg fun h => e2 (hσ.inj _ _ h1 hs h)]

theorem renSym_inj {t n : Nat} {σ : Nat → Nat} (hσ : Ren n σ) {x y : Sym} (hx : SymOk t n x) (hy : SymOk t n y) (h : renSym σ x = renSym σ y) : x = y := by
  obtain ⟨xt, xn⟩ := x
  obtain ⟨yt, yn⟩ := y
  unfold SymOk at hx hy
  unfold renSym at h
  cases xt <;> cases yt <;> simp at h hx hy ⊢
  · exact hσ.inj _ _ hx hy h
  · exact h

theorem map_inj {α β : Type} {f : α → β} {p : α → Prop} (hf : ∀ x y, p x → p y → f x = f y → x = y) : ∀ {l m : List α}, (∀ x ∈ l, p x) → (∀ x ∈ m, p x) → l.map f = m.map f → l = m
  | [], [], _, _, _ => rfl
  | [], y :: m, _, _, h => by cases h
  | x :: l, [], _, _, h => by cases h
  | x :: l, y :: m, hl, hm, h => by
    rw [List.map_cons, List.map_cons] at h
    injection h with h1 h2
    rw [hf x y (hl x (List.mem_cons_self ..)) (hm y (List.mem_cons_self ..)) h1, map_inj hf (fun z hz => hl z (List.mem_cons_of_mem _ hz)) (fun z hz => hm z (List.mem_cons_of_mem _ hz)) h2]

theorem ren_valid {g : Gram} (hg : Valid g) {σ : Nat → Nat} (hσ : Ren g.nons σ) : Valid (renG σ g) where
  range := by
    refine ⟨hg.range.terms, hg.range.nons, hσ.lt _ hg.range.start, by show (g.rules.map _).length ≤ 32; rw [List.length_map]; exact hg.range.rules, fun r hr => ?_⟩
    obtain ⟨r, hr0, rfl⟩ := List.mem_map.1 hr
    show (r.right.map _).length ≤ 1000000
    rw [List.length_map]; exact hg.range.right r hr0
  right := fun r hr => by
    obtain ⟨r, hr0, rfl⟩ := List.mem_map.1 hr
    obtain ⟨h1, h2, h3⟩ := hg.right r hr0
    refine ⟨hσ.lt _ h1, by show (r.right.map _).length ≤ 4; rw [List.length_map]; exact h2, fun y hy => ?_⟩
    obtain ⟨y, hy0, rfl⟩ := List.mem_map.1 hy
    have := h3 y hy0
    obtain ⟨yt, yn⟩ := y
    unfold SymOk at this
    cases yt with
    | true =>
      show SymOk g.terms g.nons ⟨true, yn⟩
      exact this
    | false =>
      show SymOk g.terms g.nons ⟨false, σ yn⟩
      have : yn < g.nons := this
      exact hσ.lt _ this
  nodup := by
    show (g.rules.map (renRule σ)).Nodup
    rw [List.nodup_iff_pairwise_ne, List.pairwise_map]
    refine (List.nodup_iff_pairwise_ne.1 hg.nodup).imp_of_mem ?_
    intro r r' hr hr' hne he
    apply hne
    obtain ⟨h1, _, h3⟩ := hg.right r hr
    obtain ⟨h1', _, h3'⟩ := hg.right r' hr'
    obtain ⟨rl, rr⟩ := r
    obtain ⟨rl', rr'⟩ := r'
    unfold renRule at he
    injection he with e1 e2
    have e1 := hσ.inj _ _ h1 h1' e1
    have e2 := map_inj (p := SymOk g.terms g.nons) (fun x y hx hy h => renSym_inj hσ hx hy h) h3 h3' e2
    have e1 : rl = rl' := e1
    have e2 : rr = rr' := e2
    rw [e1, e2]
end Go.Proofs.D

set_option linter.unusedVariables false
set_option maxRecDepth 20000
set_option maxHeartbeats 0
open Go Go.Abs Go.Proofs Go.Proofs.D
namespace Go.Proofs.D

/-! ### an own grammar's cells -/
def flatR (xs : List (Nat × Value)) : List Value := xs.flatMap fun x => [.int .i64 x.1, x.2]
def flatS (l : List Sym) : List Value := l.flatMap fun y => [.bool y.term, .int .i64 y.n]

theorem cells_flatR {F : Frz} {cs : List Value} {xs : List (Nat × Value)} (h : Cells tRuleC F cs xs) : cs = flatR xs := by
  induction h with
  | nil => rfl
  | cons h1 _ ih => rw [h1.1, ih]; rfl

theorem flatR_cells {F : Frz} : ∀ xs : List (Nat × Value), (∀ x ∈ xs, Go.Abs.one x.2 = true) → Cells tRuleC F (flatR xs) xs
  | [], _ => .nil
  | x :: xs, h => Cells.cons (l := [_, _]) ⟨rfl, h x (List.mem_cons_self ..)⟩ (flatR_cells xs fun y hy => h y (List.mem_cons_of_mem _ hy))

theorem cells_flatS {F : Frz} {cs : List Value} {l : List Sym} (h : Cells tSym F cs l) : cs = flatS l := by
  induction h with
  | nil => rfl
  | cons h1 _ ih =>
    have h1 : _ = _ := h1
    rw [h1, ih]; rfl

theorem flatS_cells {F : Frz} : ∀ l : List Sym, Cells tSym F (flatS l) l
  | [] => .nil
  | y :: l => Cells.cons (l := [_, _]) rfl (flatS_cells l)

theorem flatR_get : ∀ {xs : List (Nat × Value)} {i : Nat} {x : Nat × Value}, xs[i]? = some x → (flatR xs)[i * 2]? = some (.int .i64 x.1) ∧ (flatR xs)[i * 2 + 1]? = some x.2
  | [], i, x, h => by simp at h
  | y :: xs, 0, x, h => by
    obtain rfl : y = x := by simpa using h
    exact ⟨rfl, rfl⟩
  | y :: xs, i + 1, x, h => by
    have h2 : xs[i]? = some x := by simpa using h
    obtain ⟨h3, h4⟩ := flatR_get h2
    have e : flatR (y :: xs) = .int .i64 y.1 :: y.2 :: flatR xs := rfl
    rw [e, show (i + 1) * 2 = i * 2 + 1 + 1 by omega]
    simp only [List.getElem?_cons_succ]
    exact ⟨h3, h4⟩

theorem flatR_set : ∀ {xs : List (Nat × Value)} {i : Nat} {x : Nat × Value} (z : Nat), xs[i]? = some x → (flatR xs).set (i * 2) (.int .i64 z) = flatR (xs.set i (z, x.2))
  | [], i, x, z, h => by simp at h
  | y :: xs, 0, x, z, h => by
    obtain rfl : y = x := by simpa using h
    rfl
  | y :: xs, i + 1, x, z, h => by
    have h2 : xs[i]? = some x := by simpa using h
    have h3 := flatR_set z h2
    have e : flatR (y :: xs) = .int .i64 y.1 :: y.2 :: flatR xs := rfl
    rw [e, show (i + 1) * 2 = i * 2 + 1 + 1 by omega]
    simp only [List.set_cons_succ]
    rw [h3]; rfl

theorem flatS_set : ∀ {l : List Sym} {i : Nat} {y : Sym} (z : Nat), l[i]? = some y → (flatS l).set (i * 2 + 1) (.int .i64 z) = flatS (l.set i ⟨y.term, z⟩)
  | [], i, x, z, h => by simp at h
  | y :: l, 0, x, z, h => by
    obtain rfl : y = x := by simpa using h
    rfl
  | y :: l, i + 1, x, z, h => by
    have h2 : l[i]? = some x := by simpa using h
    have h3 := flatS_set z h2
    have e : flatS (y :: l) = .bool y.term :: .int .i64 y.n :: flatS l := rfl
    rw [e, show (i + 1) * 2 + 1 = i * 2 + 1 + 1 + 1 by omega]
    simp only [List.set_cons_succ]
    rw [h3]; rfl

/-- One rule's right side apart, and another put in its place. -/
theorem Rights.split {F : Frz} {xs : List (Nat × Value)} {bs : List (Nat × Blk)} {rs : List Rule} (h : Rights F xs bs rs) : ∀ {i : Nat} {r : Rule}, rs[i]? = some r →
    ∃ a n c Br b1 b2, xs[i]? = some (r.left, .slice a n c) ∧ bs = b1 ++ (Br ++ b2) ∧ Vec tSym F a n c Br r.right ∧
      ∀ (Br' : List (Nat × Blk)) (r' : Rule), Vec tSym F a n c Br' r'.right → Rights F (xs.set i (r'.left, .slice a n c)) (b1 ++ (Br' ++ b2)) (rs.set i r') := by
  induction h with
  | nil => intro i r hr; simp at hr
  | @cons a n c Br bs r0 xs rs hv hR ih =>
    intro i r hr
    cases i with
    | zero =>
      obtain rfl : r0 = r := by simpa using hr
      exact ⟨a, n, c, Br, [], bs, rfl, rfl, hv, fun Br' r' h' => (show Rights F ((r'.left, .slice a n c) :: xs) (Br' ++ bs) (r' :: rs) from .cons h' hR)⟩
    | succ i =>
      obtain ⟨a', n', c', Br', b1, b2, h1, h2, h3, h4⟩ := ih (i := i) (r := r) (by simpa using hr)
      refine ⟨a', n', c', Br', Br ++ b1, b2, by simpa using h1, by rw [h2, List.append_assoc], h3, fun Bn rn hn => ?_⟩
      have := Rights.cons hv (h4 Bn rn hn)
      simpa [List.append_assoc] using this

theorem Rights.one {F : Frz} {xs : List (Nat × Value)} {bs : List (Nat × Blk)} {rs : List Rule} (h : Rights F xs bs rs) : ∀ x ∈ xs, Go.Abs.one x.2 = true := by
  induction h with
  | nil => intro x hx; cases hx
  | cons _ _ ih =>
    intro x hx
    rcases List.mem_cons.1 hx with rfl | hx
    · rfl
    · exact ih x hx

/-- All of it frozen: the grammar's rules. -/
theorem Rights.arr {F G : Frz} (hG : Frz.le F G) {xs : List (Nat × Value)} {bs : List (Nat × Blk)} {rs : List Rule} (h : Rights F xs bs rs) (hB : ∀ i b, (i, b) ∈ bs → G i = some b) : Cells tRule G (flatR xs) rs := by
  induction h with
  | nil => exact .nil
  | @cons a n c Br bs r xs rs hv hR ih =>
    have h1 := hv.arr hG fun i b hm => hB i b (List.mem_append_left _ hm)
    exact Cells.cons (l := [_, _]) ⟨_, _, _, rfl, h1⟩ (ih fun i b hm => hB i b (List.mem_append_right _ hm))

theorem turn_spec (F : Frz) {i7 i8 : Nat} {t nons st k x : Nat} {ga : Option Addr} {gm gc : Nat} (h7 : F i7 = some (.cells false [.int .i64 t, .int .i64 nons, .int .i64 st, .slice ga gm gc])) (h8 : F i8 = some (.cells false [.int .i64 k])) (hk : k < nons) (hx : x < nons) (hn : nons ≤ 10) :
    Abs.Spec CC 35 [.int .i64 x, .pointer (some ⟨i8, 0, none⟩), .pointer (some ⟨i7, 0, none⟩)] F [] fun _ v o => o = [] ∧ v = .int .i64 (((x + k) % nons : Nat) : Int) := by
  refine Abs.Spec.fn (n := 11) Tryd.func35 rfl rfl fun own => ?_
  refine AW.seq ?_; refine AW.reg ?_; refine ze hT zr zr zr zr zr ?_; refine WT.nil ?_; refine AW.seq ?_; refine AW.reg ?_; refine ze hT zr zr zr zr zr ?_; refine zf hT (by assumption) zr zr zr zr zr zr ?_; refine WT.addN zr zr zr zr zr zr (by omega) ?_; refine ze hT zr zr zr zr zr ?_; refine zf hT (by assumption) zr zr zr zr zr zr ?_
  refine WT.remT zr zr zr zr zr zr (by omega) ?_
  refine ze hT zr zr zr zr zr ?_; refine WT.nil ?_
  refine AW.ret ⟨_, [], ⟨_, _, rfl, rfl, rfl⟩, (by repeat (first | exact List.Sublist.refl _ | refine List.Sublist.cons _ ?_)), rfl, ?_⟩
  rfl
end Go.Proofs.D

set_option linter.unusedVariables false
set_option maxRecDepth 20000
set_option maxHeartbeats 0
open Go Go.Abs Go.Proofs Go.Proofs.D
namespace Go.Proofs.D

/-! ### right sides reversed -/
def mirRule (r : Rule) : Rule := ⟨r.left, r.right.reverse⟩
def mirG (g : Gram) : Gram := { g with rules := g.rules.map mirRule }

theorem sum_turn : ∀ (n : Nat) (f : Nat → Nat), ((List.range (n + 1)).map fun m => f (n - m)).sum = ((List.range (n + 1)).map f).sum
  | 0, f => by simp
  | n + 1, f => by
    have ih := sum_turn n fun m => f (m + 1)
    have e2 : ((List.range (n + 1 + 1)).map f).sum = f 0 + ((List.range (n + 1)).map fun m => f (m + 1)).sum := by
      rw [List.range_succ_eq_map, List.map_cons, List.sum_cons, List.map_map]; rfl
    rw [e2, ← ih, List.range_succ, List.map_append, List.sum_append]
    simp only [List.map_cons, List.map_nil, List.sum_cons, List.sum_nil, Nat.add_zero, Nat.sub_self]
    rw [Nat.add_comm]
    congr 1
    refine sum_congr fun m hm => ?_
    have := List.mem_range.1 hm
    show f (n + 1 - m) = f (n - m + 1)
    congr 1; omega

theorem sum_long {f : Nat → Nat} {a : Nat} : ∀ (b : Nat), (∀ m, a ≤ m → f m = 0) → ((List.range (a + b)).map f).sum = ((List.range a).map f).sum
  | 0, _ => rfl
  | b + 1, h => by
    rw [← Nat.add_assoc, List.range_succ, List.map_append, List.sum_append, sum_long b h]
    simp [h (a + b) (by omega)]

theorem listT_lt {f : Sym → Nat → Nat → Nat} (hz : ∀ s i m, m < i → f s i m = 0) : ∀ (l : List Sym) (i j : Nat), j < i → listT f l i j = 0
  | [], i, j, h => by unfold listT; rw [if_neg (by omega)]
  | s :: l, i, j, h => by
    unfold listT
    refine sum_zero fun x hx => ?_
    obtain ⟨m, hm, rfl⟩ := List.mem_map.1 hx
    have := List.mem_range.1 hm
    rw [hz s i m (by omega), Nat.zero_mul]

/-- A list of symbols over a part, the last symbol taken off. -/
theorem listT_snoc {f : Sym → Nat → Nat → Nat} (hz : ∀ s i m, m < i → f s i m = 0) (s : Sym) : ∀ (l : List Sym) (i j : Nat), listT f (l ++ [s]) i j = ((List.range (j + 1)).map fun m => listT f l i m * f s m j).sum
  | [], i, j => by
    have e1 : listT f ([] ++ [s]) i j = f s i j := by
      show ((List.range (j + 1)).map fun m => f s i m * (if m = j then 1 else 0)).sum = _
      rw [List.range_succ, List.map_append, List.sum_append, sum_zero fun x hx => ?_]
      · simp
      · obtain ⟨m, hm, rfl⟩ := List.mem_map.1 hx
        have := List.mem_range.1 hm
        rw [if_neg (by omega), Nat.mul_zero]
    rw [e1]
    have key : ∀ n, ((List.range n).map fun m => listT f [] i m * f s m j).sum = if i < n then f s i j else 0 := by
      intro n
      induction n with
      | zero => rfl
      | succ n ih =>
        rw [List.range_succ, List.map_append, List.sum_append, ih]
        simp only [List.map_cons, List.map_nil, List.sum_cons, List.sum_nil, Nat.add_zero, listT]
        by_cases h1 : i = n
        · subst h1; rw [if_neg (Nat.lt_irrefl _), if_pos rfl, if_pos (Nat.lt_succ_self _)]; omega
        · rw [if_neg h1, Nat.zero_mul, Nat.add_zero]
          by_cases h2 : i < n
          · rw [if_pos h2, if_pos (by omega)]
          · rw [if_neg h2, if_neg (by omega)]
    rw [key]
    split
    · rfl
    · exact hz _ _ _ (by omega)
  | t :: l, i, j => by
    have e1 : listT f (t :: l ++ [s]) i j = ((List.range (j + 1)).map fun m => f t i m * ((List.range (j + 1)).map fun p => listT f l m p * f s p j).sum).sum := by
      show ((List.range (j + 1)).map fun m => f t i m * listT f (l ++ [s]) m j).sum = _
      refine sum_congr fun m _ => ?_
      rw [listT_snoc hz s l m j]
    rw [e1]
    have e2 : ∀ p, p < j + 1 → listT f (t :: l) i p = ((List.range (j + 1)).map fun m => f t i m * listT f l m p).sum := by
      intro p hp
      show ((List.range (p + 1)).map fun m => f t i m * listT f l m p).sum = _
      rw [show j + 1 = (p + 1) + (j - p) by omega]
      refine (sum_long _ fun m hm => ?_).symm
      rw [show listT f l m p = 0 from listT_lt hz l m p (by omega), Nat.mul_zero]
    have e3 : ((List.range (j + 1)).map fun p => listT f (t :: l) i p * f s p j).sum = ((List.range (j + 1)).map fun p => ((List.range (j + 1)).map fun m => f t i m * listT f l m p).sum * f s p j).sum := by
      refine sum_congr fun p hp => ?_
      rw [e2 p (List.mem_range.1 hp)]
    rw [e3]
    have swap : ∀ (a b : Nat), ((List.range a).map fun m => f t i m * ((List.range b).map fun p => listT f l m p * f s p j).sum).sum = ((List.range b).map fun p => ((List.range a).map fun m => f t i m * listT f l m p).sum * f s p j).sum := by
      intro a b
      induction a with
      | zero =>
        refine Eq.symm (sum_zero fun x hx => ?_)
        obtain ⟨p, _, rfl⟩ := List.mem_map.1 hx
        simp
      | succ a ih =>
        rw [List.range_succ, List.map_append, List.sum_append, ih]
        simp only [List.map_cons, List.map_nil, List.sum_cons, List.sum_nil, Nat.add_zero, List.map_append, List.sum_append, Nat.add_mul]
        clear ih e1 e2 e3
        induction b with
        | zero => simp
        | succ b ih =>
          rw [List.range_succ, List.map_append, List.sum_append, List.map_append, List.sum_append, List.map_append, List.sum_append]
          simp only [List.map_cons, List.map_nil, List.sum_cons, List.sum_nil, Nat.add_zero, Nat.mul_add]
          rw [Nat.mul_assoc]
          omega
    exact swap _ _

theorem listT_mir {f h : Sym → Nat → Nat → Nat} {n : Nat} (hf : ∀ s i m, m < i → f s i m = 0) (hh : ∀ s i m, m < i → h s i m = 0) : ∀ (l : List Sym), (∀ s ∈ l, ∀ i j, i ≤ j → j ≤ n → f s (n - j) (n - i) = h s i j) → ∀ i j, i ≤ j → j ≤ n → listT f l.reverse (n - j) (n - i) = listT h l i j
  | [], _, i, j, hij, hj => by
    show (if n - j = n - i then 1 else 0) = if i = j then 1 else 0
    by_cases e : i = j
    · rw [if_pos e, if_pos (by omega)]
    · rw [if_neg e, if_neg (by omega)]
  | s :: l, hs, i, j, hij, hj => by
    rw [List.reverse_cons, listT_snoc hf]
    have e1 : ((List.range (n - i + 1)).map fun m => listT f l.reverse (n - j) m * f s m (n - i)).sum = ((List.range (n + 1)).map fun m => listT f l.reverse (n - j) m * f s m (n - i)).sum := by
      rw [show n + 1 = (n - i + 1) + (n - (n - i)) by omega]
      exact (sum_long _ fun m hm => by rw [hf s m (n - i) (by omega), Nat.mul_zero]).symm
    have e2 : listT h (s :: l) i j = ((List.range (n + 1)).map fun m => h s i m * listT h l m j).sum := by
      show ((List.range (j + 1)).map fun m => h s i m * listT h l m j).sum = _
      rw [show n + 1 = (j + 1) + (n - j) by omega]
      exact (sum_long _ fun m hm => by rw [listT_lt hh l m j (by omega), Nat.mul_zero]).symm
    rw [e1, e2, ← sum_turn n]
    refine sum_congr fun m hm => ?_
    have hm := List.mem_range.1 hm
    by_cases h1 : m ≤ j
    · by_cases h2 : i ≤ m
      · rw [listT_mir hf hh l (fun t ht => hs t (List.mem_cons_of_mem _ ht)) m j h1 hj, hs s (List.mem_cons_self ..) i m h2 (by omega), Nat.mul_comm]
      · rw [hf s (n - m) (n - i) (by omega), hh s i m (by omega), Nat.mul_zero, Nat.zero_mul]
    · rw [listT_lt hf l.reverse (n - j) (n - m) (by omega), listT_lt hh l m j (by omega), Nat.mul_zero, Nat.zero_mul]

theorem symT_mir (g : Gram) (w : List Nat) : ∀ (d : Nat) (s : Sym) (i j : Nat), i ≤ j → j ≤ w.length → symT (mirG g) w.reverse d s (w.length - j) (w.length - i) = symT g w d s i j
  | 0, s, i, j, _, _ => rfl
  | d + 1, s, i, j, hij, hj => by
    rw [symT, symT]
    cases ht : s.term with
    | true =>
      simp only [if_true]
      by_cases e : j = i + 1
      · subst e
        rw [List.getElem?_reverse (by omega), show w.length - 1 - (w.length - (i + 1)) = i by omega]
        by_cases e2 : w[i]? = some s.n
        · rw [if_pos ⟨e2, by omega⟩, if_pos ⟨e2, rfl⟩]
        · rw [if_neg fun h => e2 h.1, if_neg fun h => e2 h.1]
      · rw [if_neg (fun h => e (by have := h.2; omega)), if_neg fun h => e h.2]
    | false =>
      simp only [Bool.false_eq_true, if_false]
      show ((g.rules.map mirRule).map _).sum = _
      rw [List.map_map]
      refine sum_congr fun r hr => ?_
      show (if r.left = s.n then listT (symT (mirG g) w.reverse d) r.right.reverse _ _ else 0) = _
      split
      · exact listT_mir (fun s i m hm => symT_lt hm) (fun s i m hm => symT_lt hm) r.right (fun s' _ i j hij hj => symT_mir g w d s' i j hij hj) i j hij hj
      · rfl

theorem mir_inj {r r' : Rule} (h : mirRule r = mirRule r') : r = r' := by
  obtain ⟨a, b⟩ := r
  obtain ⟨a', b'⟩ := r'
  unfold mirRule at h
  injection h with h1 h2
  have h1 : a = a' := h1
  have h2 : b.reverse = b'.reverse := h2
  rw [h1, List.reverse_inj.1 h2]

theorem mir_valid {g : Gram} (hg : Valid g) : Valid (mirG g) where
  range := by
    refine ⟨hg.range.terms, hg.range.nons, hg.range.start, by show (g.rules.map _).length ≤ 32; rw [List.length_map]; exact hg.range.rules, fun r hr => ?_⟩
    obtain ⟨r, hr0, rfl⟩ := List.mem_map.1 hr
    show r.right.reverse.length ≤ 1000000
    rw [List.length_reverse]; exact hg.range.right r hr0
  right := fun r hr => by
    obtain ⟨r, hr0, rfl⟩ := List.mem_map.1 hr
    obtain ⟨h1, h2, h3⟩ := hg.right r hr0
    exact ⟨h1, by show r.right.reverse.length ≤ 4; rw [List.length_reverse]; exact h2, fun y hy => h3 y (List.mem_reverse.1 hy)⟩
  nodup := by
    show (g.rules.map mirRule).Nodup
    rw [List.nodup_iff_pairwise_ne, List.pairwise_map]
    exact (List.nodup_iff_pairwise_ne.1 hg.nodup).imp fun hne he => hne (mir_inj he)
end Go.Proofs.D

set_option linter.unusedVariables false
set_option maxRecDepth 20000
set_option maxHeartbeats 0
open Go Go.Abs Go.Proofs Go.Proofs.D
namespace Go.Proofs.D

/-! ### slices.Reverse -/
structure RevTo {α : Type} (l : List α) (i : Nat) (cur : List α) : Prop where
  len : cur.length = l.length
  half : 2 * i ≤ l.length
  get : ∀ p, p < l.length → cur[p]? = if p < i ∨ l.length - i ≤ p then l[l.length - 1 - p]? else l[p]?

theorem RevTo.zero {α : Type} (l : List α) : RevTo l 0 l :=
  ⟨rfl, by omega, fun p hp => by rw [if_neg (by omega)]⟩

theorem RevTo.step {α : Type} {l cur : List α} {i : Nat} (h : RevTo l i cur) {x y : α} (hi : 2 * i + 1 < l.length) (hx : cur[i]? = some x) (hy : cur[l.length - 1 - i]? = some y) : RevTo l (i + 1) ((cur.set i y).set (l.length - 1 - i) x) := by
  have hl := h.len
  have gx := h.get i (by omega)
  have gy := h.get (l.length - 1 - i) (by omega)
  rw [if_neg (by omega)] at gx gy
  refine ⟨by simp [hl], by omega, fun p hp => ?_⟩
  by_cases e1 : p = l.length - 1 - i
  · subst e1
    rw [List.getElem?_set_self (by simp; omega), if_pos (by omega), ← hx, gx]
    congr 1; omega
  · rw [List.getElem?_set_ne (by omega)]
    by_cases e2 : p = i
    · subst e2
      rw [List.getElem?_set_self (by omega), if_pos (by omega), ← hy, gy]
    · rw [List.getElem?_set_ne (by omega), h.get p hp]
      by_cases e3 : p < i ∨ l.length - i ≤ p
      · rw [if_pos e3, if_pos (by omega)]
      · rw [if_neg e3, if_neg (by omega)]

theorem RevTo.done {α : Type} {l cur : List α} {i : Nat} (h : RevTo l i cur) (hi : l.length ≤ 2 * i + 1) : cur = l.reverse := by
  refine List.ext_getElem? fun p => ?_
  by_cases hp : p < l.length
  · rw [h.get p hp, List.getElem?_reverse hp]
    split
    · rfl
    · have := h.half
      congr 1; omega
  · rw [List.getElem?_eq_none (by rw [h.len]; omega), List.getElem?_eq_none (by simp; omega)]

structure RvS (α : Type) where
  i : Nat
  j : Int
  cur : List α
  B : List (Nat × Blk)

theorem numRev_spec (F : Frz) {a0 : Option Addr} {m c : Nat} {B : List (Nat × Blk)} {l : List Nat} (hv : Vec tNat F a0 m c B l) (hm : m ≤ 1000000) :
    Abs.Spec CC 15 [.slice a0 m c] F [B] fun F' v o => ∃ B', o = [B'] ∧ Vec tNat F' a0 m c B' l.reverse := by
  have hml := hv.len
  refine Abs.Spec.fn (n := 28) Tryd.func15 rfl rfl fun own => ?_
  refine AW.seq ?_; refine AW.reg ?_; (iterate 2 refine ze hT zr zr zr zr zr ?_); refine zb zr zr zr zr zr zr (by omega) ?_; (iterate 2 refine ze hT zr zr zr zr zr ?_); refine WT.nil ?_
  refine AW.block ?_
  refine AW.loopR (S := RvS Nat) (fun s => [(2, .int .i64 (s.i : Nat)), (3, .int .i64 s.j)]) (fun s => s.B :: own) (fun s G => Vec tNat G a0 m c s.B s.cur ∧ RevTo l s.i s.cur ∧ s.j = (m : Int) - 1 - (s.i : Nat)) (fun s => m - s.i) ⟨0, (m : Int) - 1, l, B⟩
    (SubK.of_map rfl) (OwnLe.refl _) ⟨hv, RevTo.zero l, by simp⟩ ?_
  intro s F1 hF1 hP
  obtain ⟨hv1, hr1, hj⟩ := hP
  have hcl := hr1.len
  have hhalf := hr1.half
  (iterate 2 refine AW.seq ?_); refine AW.reg ?_; (iterate 3 refine ze hT zr zr zr zr zr ?_); refine WT.nil ?_
  refine AW.cond rfl (fun h => ?_) (fun h => ?_)
  · have h : (s.i : Int) < s.j := by simpa using h
    have h2 : 2 * s.i + 1 < m := by omega
    obtain ⟨x, hx⟩ : ∃ x, s.cur[s.i]? = some x := ⟨_, List.getElem?_eq_getElem (by omega)⟩
    obtain ⟨y, hy⟩ : ∃ y, s.cur[m - 1 - s.i]? = some y := ⟨_, List.getElem?_eq_getElem (by omega)⟩
    refine AW.know (v' := .int .i64 ((m - 1 - s.i : Nat) : Int)) 3 rfl (by congr 1; omega) ?_
    refine AW.skip ?_; refine AW.seq ?_
    refine AW.block ?_
    refine AW.draw (ps := []) rfl rfl ?_
    (iterate 6 refine ze hT zr zr zr zr zr ?_)
    refine WT.vidx hT hv1 zr zr zr zr zr zr zr zr zr (by omega) (fun b1 hb1 => ?_)
    refine WT.vld1 hT 0 hv1 hb1 hy zr zr zr zr zr zr zr zr zr (fun l hl => hl) ?_
    (iterate 2 refine ze hT zr zr zr zr zr ?_)
    refine WT.vidx hT hv1 zr zr zr zr zr zr zr zr zr (by omega) (fun b2 hb2 => ?_)
    refine WT.vld1 hT 0 hv1 hb2 hx zr zr zr zr zr zr zr zr zr (fun l hl => hl) ?_
    refine WT.vidx hT hv1 zr zr zr zr zr zr zr zr zr (by omega) (fun b3 hb3 => ?_)
    refine WT.vst (y := y) hT 0 hv1 hb3 hx zr zr zr zr zr zr zr (fun _ => rfl) rfl (fun B3 hB3 => ?_)
    refine WT.vidx hT hB3 zr zr zr zr zr zr zr zr zr (by omega) (fun b4 hb4 => ?_)
    refine WT.vst (y := x) hT 0 hB3 hb4 (z := y) (by rw [List.getElem?_set_ne (by omega)]; exact hy) zr zr zr zr zr zr zr (fun _ => rfl) rfl (fun B4 hB4 => ?_)
    refine WT.nil ?_; refine And.intro trivial ?_; refine AW.reg ?_; refine ze hT zr zr zr zr zr ?_; refine WT.add1 zr zr zr zr zr zr (by omega) ?_; refine ze hT zr zr zr zr zr ?_; refine WT.sub1 zr zr zr zr zr zr (by omega) ?_; (iterate 2 refine ze hT zr zr zr zr zr ?_); refine WT.nil ?_
    have hst := hr1.step (by omega) hx (by rw [← hml]; exact hy)
    rw [← hml] at hst
    refine ⟨⟨s.i + 1, ((m - 1 - s.i - 1 : Nat) : Int), (s.cur.set s.i y).set (m - 1 - s.i) x, B4⟩, by dsimp only; omega, SubK.of_map rfl, OwnLe.refl _, hB4, hst, by dsimp only; omega⟩
  · have h : ¬ (s.i : Int) < s.j := by simpa using h
    refine AW.exit ?_
    skip
    refine ⟨_, [_], rfl, (by repeat (first | exact List.Sublist.refl _ | refine List.Sublist.cons _ ?_)), _, rfl, ?_⟩
    rw [← hr1.done (by omega)]
    exact hv1

theorem symRev_spec (F : Frz) {a0 : Option Addr} {m c : Nat} {B : List (Nat × Blk)} {l : List Sym} (hv : Vec tSym F a0 m c B l) (hm : m ≤ 1000000) :
    Abs.Spec CC 50 [.slice a0 m c] F [B] fun F' v o => ∃ B', o = [B'] ∧ Vec tSym F' a0 m c B' l.reverse := by
  have hml := hv.len
  refine Abs.Spec.fn (n := 28) Tryd.func50 rfl rfl fun own => ?_
  refine AW.seq ?_; refine AW.reg ?_; (iterate 2 refine ze hT zr zr zr zr zr ?_); refine zb zr zr zr zr zr zr (by omega) ?_; (iterate 2 refine ze hT zr zr zr zr zr ?_); refine WT.nil ?_
  refine AW.block ?_
  refine AW.loopR (S := RvS Sym) (fun s => [(2, .int .i64 (s.i : Nat)), (3, .int .i64 s.j)]) (fun s => s.B :: own) (fun s G => Vec tSym G a0 m c s.B s.cur ∧ RevTo l s.i s.cur ∧ s.j = (m : Int) - 1 - (s.i : Nat)) (fun s => m - s.i) ⟨0, (m : Int) - 1, l, B⟩
    (SubK.of_map rfl) (OwnLe.refl _) ⟨hv, RevTo.zero l, by simp⟩ ?_
  intro s F1 hF1 hP
  obtain ⟨hv1, hr1, hj⟩ := hP
  have hcl := hr1.len
  have hhalf := hr1.half
  (iterate 2 refine AW.seq ?_); refine AW.reg ?_; (iterate 3 refine ze hT zr zr zr zr zr ?_); refine WT.nil ?_
  refine AW.cond rfl (fun h => ?_) (fun h => ?_)
  · have h : (s.i : Int) < s.j := by simpa using h
    have h2 : 2 * s.i + 1 < m := by omega
    obtain ⟨x, hx⟩ : ∃ x, s.cur[s.i]? = some x := ⟨_, List.getElem?_eq_getElem (by omega)⟩
    obtain ⟨y, hy⟩ : ∃ y, s.cur[m - 1 - s.i]? = some y := ⟨_, List.getElem?_eq_getElem (by omega)⟩
    refine AW.know (v' := .int .i64 ((m - 1 - s.i : Nat) : Int)) 3 rfl (by congr 1; omega) ?_
    refine AW.skip ?_; refine AW.seq ?_
    refine AW.block ?_
    refine AW.draw (ps := []) rfl rfl ?_
    (iterate 6 refine ze hT zr zr zr zr zr ?_)
    refine WT.vidx hT hv1 zr zr zr zr zr zr zr zr zr (by omega) (fun b1 hb1 => ?_)
    refine WT.vldS hT 0 hv1 hb1 hy zr zr zr zr zr zr zr zr zr (fun ly hly => ?_)
    (iterate 2 refine ze hT zr zr zr zr zr ?_)
    refine WT.vidx hT hv1 zr zr zr zr zr zr zr zr zr (by omega) (fun b2 hb2 => ?_)
    refine WT.vldS hT 0 hv1 hb2 hx zr zr zr zr zr zr zr zr zr (fun lx hlx => ?_)
    refine WT.vidx hT hv1 zr zr zr zr zr zr zr zr zr (by omega) (fun b3 hb3 => ?_)
    refine WT.vst (y := y) hT 0 hv1 hb3 hx zr zr zr zr zr hly rfl (fun _ => rfl) rfl (fun B3 hB3 => ?_)
    refine WT.vidx hT hB3 zr zr zr zr zr zr zr zr zr (by omega) (fun b4 hb4 => ?_)
    refine WT.vst (y := x) hT 0 hB3 hb4 (z := y) (by rw [List.getElem?_set_ne (by omega)]; exact hy) zr zr zr zr zr hlx rfl (fun _ => rfl) rfl (fun B4 hB4 => ?_)
    refine WT.nil ?_; refine And.intro trivial ?_; refine AW.reg ?_; refine ze hT zr zr zr zr zr ?_; refine WT.add1 zr zr zr zr zr zr (by omega) ?_; refine ze hT zr zr zr zr zr ?_; refine WT.sub1 zr zr zr zr zr zr (by omega) ?_; (iterate 2 refine ze hT zr zr zr zr zr ?_); refine WT.nil ?_
    have hst := hr1.step (by omega) hx (by rw [← hml]; exact hy)
    rw [← hml] at hst
    refine ⟨⟨s.i + 1, ((m - 1 - s.i - 1 : Nat) : Int), (s.cur.set s.i y).set (m - 1 - s.i) x, B4⟩, by dsimp only; omega, SubK.of_map rfl, OwnLe.refl _, hB4, hst, by dsimp only; omega⟩
  · have h : ¬ (s.i : Int) < s.j := by simpa using h
    refine AW.exit ?_
    skip
    refine ⟨_, [_], rfl, (by repeat (first | exact List.Sublist.refl _ | refine List.Sublist.cons _ ?_)), _, rfl, ?_⟩
    rw [← hr1.done (by omega)]
    exact hv1


/-! ### mirrored -/
theorem bld_c {F G : Frz} {a : Option Addr} {m c : Nat} {B : List (Nat × Blk)} {zs : List (Nat × Value)} (hb : Bld tRuleC F a m c B zs) : Bld tRuleC G a m c B zs := by
  refine ⟨hb.len, hb.at_.imp id ?_⟩
  rintro ⟨i, cs, h1, h2, h3, h4, h5⟩
  refine ⟨i, cs, h1, h2, h3, ?_, h5⟩
  clear h3 hb
  induction h4 with
  | nil => exact .nil
  | cons h _ ih => exact .cons h ih

theorem vec_s {F G : Frz} {a : Option Addr} {m c : Nat} {B : List (Nat × Blk)} {l : List Sym} (h : Vec tSym F a m c B l) : Vec tSym G a m c B l :=
  ⟨h.len, h.cap, h.zero, h.nil, h.spot, h.el.imp id fun ⟨i, cs, h1, h2, h3, h4⟩ => ⟨i, cs, h1, h2, by rw [cells_flatS h3]; exact flatS_cells _, h4⟩⟩

theorem rights_c {F G : Frz} {xs : List (Nat × Value)} {bs : List (Nat × Blk)} {rs : List Rule} (h : Rights F xs bs rs) : Rights G xs bs rs := by
  induction h with
  | nil => exact .nil
  | cons h _ ih => exact .cons (vec_s h) ih

theorem perm_apart2 {α : Type} (x y : α) (b1 Br b2 l : List α) : (x :: y :: (b1 ++ (Br ++ (b2 ++ l)))).Perm (x :: y :: (Br ++ (b1 ++ (b2 ++ l)))) := by
  refine List.Perm.cons x (List.Perm.cons y ?_)
  have := (List.perm_append_comm (l₁ := b1) (l₂ := Br)).append_right (b2 ++ l)
  simpa [List.append_assoc] using this

theorem tab_vec {F : Frz} {io gm : Nat} {xs : List (Nat × Value)} (hl : gm = xs.length) (h1 : ∀ x ∈ xs, Go.Abs.one x.2 = true) : Vec tRuleC F (some ⟨io, 0, none⟩) gm 2 [(io, .cells false (flatR xs))] xs :=
  ⟨hl, .inr rfl, fun h => (by cases h), fun h => (by cases h), fun p hp => (by cases hp; rfl), .inr ⟨io, _, rfl, rfl, flatR_cells xs h1, by decide⟩⟩

theorem part_map {α : Type} (f : α → α) {l : List α} {j : Nat} {y : α} (h : l[j]? = some y) : ((l.take j).map f ++ l.drop j)[j]? = some y := by
  have hl := (List.getElem?_eq_some_iff.1 h).1
  rw [List.getElem?_append_right (by simp; omega)]
  simp only [List.length_map, List.length_take]
  rw [List.getElem?_drop, show j + (j - min j l.length) = j by omega]
  exact h

theorem part_map_set {α : Type} (f : α → α) {l : List α} {j : Nat} {y : α} (h : l[j]? = some y) : ((l.take j).map f ++ l.drop j).set j (f y) = (l.take (j + 1)).map f ++ l.drop (j + 1) := by
  have hl := (List.getElem?_eq_some_iff.1 h).1
  have hy := (List.getElem?_eq_some_iff.1 h).2
  rw [List.set_append_right _ _ (by simp; omega)]
  simp only [List.length_map, List.length_take]
  rw [show j - min j l.length = 0 by omega, List.drop_eq_getElem_cons hl, List.set_cons_zero, List.take_add_one, h]
  simp

theorem mirrored_spec (F : Frz) (g : Gram) {a : Option Addr} {m c : Nat} (hr : Arr tRule F a m c g.rules) (hm1 : 1 ≤ m) (hm : m ≤ 1000000) (hrr : ∀ r ∈ g.rules, r.right.length ≤ 1000000) :
    Abs.Spec CC 17 [.agg ⟨gramCells g a m c⟩] F [] fun F' v o => ∃ B', o = [B'] ∧ ∃ io xs bs, B' = [(io, .cells false (flatR xs))] ++ bs ∧ v = .agg ⟨gramCells g (some ⟨io, 0, none⟩) m 2⟩ ∧ xs.length = m ∧ Rights F' xs bs (mirG g).rules := by
  unfold gramCells
  have hrl := hr.len
  refine Abs.Spec.fn (n := 20) Tryd.func17 rfl rfl fun own => ?_
  refine AW.seq (AW.reg ?_)
  refine WT.boxT zr zr zr zr zr zr (fun i1 hi1 => ?_)
  refine WT.allocT hT zr zr zr zr zr zr (fun i2 hi2 => ?_)
  refine WT.nil ?_; refine AW.seq ?_; refine AW.reg ?_; refine zl hT 1 zr zr zr zr zr zr me zr ?_
  refine WT.callN Tryd.func30 zr zr zr zr zr zr (copyOwn_spec _ g hr hm hrr) (fun F2 v B2 hF2 hv2 => ?_)
  obtain ⟨B, bs, ca, cc, xs, rfl, rfl, hb, hR⟩ := hv2
  unfold gramCells
  have hblen := hb.len
  obtain ⟨io, cs, hia, hic, hiB, hcells, _⟩ := hb.at_.resolve_left (fun h => by rw [h.1] at hblen; simp at hblen; omega)
  have hcs := cells_flatR hcells
  have hic : cc = 2 := hic
  subst hia hic hiB hcs
  skip
  refine WT.allocT hT zr zr zr zr zr zr (fun i3 hi3 => ?_)
  refine zs hT 0 0 zr zr zr zr zr zr zr zr zr zr zr zr ?_; refine WT.nil ?_; (iterate 2 refine AW.seq ?_); refine AW.reg ?_; refine ze hT zr zr zr zr zr ?_; refine zl hT 0 zr zr zr zr zr zr me zr ?_; (iterate 2 refine ze hT zr zr zr zr zr ?_); refine WT.nil ?_
  refine AW.range (S := List (Nat × Blk)) (fun _ => []) (fun s => [(i3, .cells false [.int .i64 g.terms, .int .i64 g.nons, .int .i64 g.start, .slice (some ⟨io, 0, none⟩) m 2])] :: ([(io, .cells false (flatR xs))] ++ s) :: [(i2, .cells false [.int .i64 0, .int .i64 0, .int .i64 0, .slice none 0 0])] :: own)
    (fun i s G => Rights G xs s ((g.rules.take i).map mirRule ++ g.rules.drop i)) m bs
    zr zr zr zr zr zr zr zr zr (by omega) rfl rfl (fun _ => rfl) (fun _ => rfl) (SubK.of_map rfl) (OwnLe.cons _ (OwnLe.cons _ (OwnLe.cons _ (OwnLe.skip _ (OwnLe.refl _))))) (by simpa using hR) ?_ ?_
  · intro i s F3 hF3 hi hP
    obtain ⟨r, hri⟩ : ∃ r, g.rules[i]? = some r := ⟨_, List.getElem?_eq_getElem (by omega)⟩
    obtain ⟨ra, rn, rc, Br, b1, b2, hx, hbs, hvec, hput⟩ := Rights.split hP (part_map _ hri)
    have hrn := hrr r (List.mem_of_getElem? hri)
    have hvl := hvec.len
    have hxl := (List.getElem?_eq_some_iff.1 hx).1
    have htab : Vec tRuleC F3 (some ⟨io, 0, none⟩) m 2 [(io, .cells false (flatR xs))] xs := tab_vec hblen hP.one
    subst hbs
    refine AW.le (own2 := [(i3, .cells false [.int .i64 g.terms, .int .i64 g.nons, .int .i64 g.start, .slice (some ⟨io, 0, none⟩) m 2])] :: [(io, .cells false (flatR xs))] :: Br :: (b1 ++ b2) :: [(i2, .cells false [.int .i64 0, .int .i64 0, .int .i64 0, .slice none 0 0])] :: own) (OwnLe.flat ?_) ?_
    · simp only [List.flatten_cons, List.nil_append, List.append_assoc, List.cons_append]
      exact perm_apart2 _ _ _ _ _ _
    refine AW.seq ?_; refine AW.reg ?_
    refine WT.vidx hT htab zr zr zr zr zr zr zr zr zr (by omega) (fun bi hbi => ?_)
    refine WT.vldS hT 1 htab hbi hx zr zr zr zr zr zr zr zr zr (fun lx hlx => ?_)
    obtain ⟨rfl, _⟩ := hlx
    skip
    refine WT.allocT hT zr zr zr zr zr zr (fun i5 hi5 => ?_)
    refine zs hT 0 0 zr zr zr zr zr zr zr zr zr zr zr zr ?_; refine WT.nil ?_; refine AW.reg ?_; refine ze hT zr zr zr zr zr ?_; refine zl hT 0 zr zr zr zr zr zr me zr ?_
    refine WT.call1F 3 Tryd.func50 zr zr zr zr zr zr zr (fun _ => rfl) (symRev_spec _ hvec (by omega)) (fun F4 v Bn hF4 hv => ?_)
    refine WT.nil ?_
    have hnew := (hput Bn (mirRule r) (by have := vec_s (G := F3) hv; exact this)).mono hF4
    rw [part_map_set mirRule hri] at hnew
    have e : xs.set i ((mirRule r).left, .slice ra rn rc) = xs := by
      show xs.set i (r.left, .slice ra rn rc) = xs
      rw [← (List.getElem?_eq_some_iff.1 hx).2]
      exact List.set_getElem_self hxl
    rw [e] at hnew
    refine ⟨b1 ++ (Bn ++ b2), SubK.of_map rfl, OwnLe.trans (OwnLe.flat ?_) (OwnLe.skip _ (OwnLe.refl _)), hnew⟩
    simp only [List.flatten_cons, List.nil_append, List.append_assoc, List.cons_append]
    exact (perm_apart2 _ _ _ _ _ _).symm
  · intro s F3 hF3 hP
    rw [List.take_of_length_le (by omega), List.drop_of_length_le (by omega), List.append_nil] at hP
    refine AW.seq ?_; refine AW.reg ?_; refine zl hT 0 zr zr zr zr zr zr me zr ?_; refine zs hT 2 0 zr zr zr zr zr zr zr zr zr zr zr zr ?_; refine WT.nil ?_
    refine AW.le (own2 := [(i2, .cells false [.int .i64 g.terms, .int .i64 g.nons, .int .i64 g.start, .slice (some ⟨io, 0, none⟩) m 2])] :: ([(io, .cells false (flatR xs))] ++ s) :: own) (OwnLe.trans (OwnLe.flat ?_) (OwnLe.skip _ (OwnLe.refl _))) ?_
    · simp only [List.flatten_cons, List.nil_append, List.cons_append]
      have := List.perm_middle (a := (i2, Blk.cells false [.int .i64 g.terms, .int .i64 g.nons, .int .i64 g.start, .slice (some ⟨io, 0, none⟩) m 2])) (l₁ := (io, Blk.cells false (flatR xs)) :: s) (l₂ := own.flatten)
      simpa [List.append_assoc] using this
    refine AW.ret ⟨_, [_], ⟨_, _, ⟨_, rfl, fun G h0 s0 => loadA_cells (s0.has (p := 0) rfl (List.mem_cons_self ..)) (readT_ok hT rfl)⟩, rfl, rfl⟩, (by repeat (first | exact List.Sublist.refl _ | refine List.Sublist.cons _ ?_)), _, rfl, io, xs, s, rfl, rfl, by omega, hP⟩
end Go.Proofs.D

set_option linter.unusedVariables false
set_option maxRecDepth 20000
set_option maxHeartbeats 0
open Go Go.Abs Go.Proofs Go.Proofs.D
namespace Go.Abs

/-! ### what a call froze anew may be one's own -/
theorem Frz.le.none {F G : Frz} (h : Frz.le F G) {i : Nat} (hi : G i = none) : F i = none := by
  cases hf : F i with
  | none => rfl
  | some b => rw [h _ _ hf] at hi; cases hi

/-- Blocks that were not frozen before, each once. -/
def Fresh (F G : Frz) (L : List (Nat × Blk)) : Prop := (∀ i b, (i, b) ∈ L → F i = none) ∧ (∀ i b, (i, b) ∈ L → G i = some b) ∧ (L.map (·.1)).Nodup

theorem Fresh.nil {F G : Frz} : Fresh F G [] := ⟨fun _ _ h => (by cases h), fun _ _ h => (by cases h), List.nodup_nil⟩

theorem Fresh.mono {F G G' : Frz} {L : List (Nat × Blk)} (h : Fresh F G L) (hG : Frz.le G G') : Fresh F G' L := ⟨h.1, fun i b hm => hG _ _ (h.2.1 i b hm), h.2.2⟩

theorem Fresh.app {F G : Frz} {L B : List (Nat × Blk)} (h : Fresh F G L) (hB : ∀ i b, (i, b) ∈ B → F i = none ∧ G i = some b) (hD : (B.map (·.1)).Nodup) (hd : ∀ i b c, (i, b) ∈ L → (i, c) ∈ B → False) : Fresh F G (L ++ B) := by
  refine ⟨fun i b hm => ?_, fun i b hm => ?_, ?_⟩
  · rcases List.mem_append.1 hm with hm | hm
    · exact h.1 i b hm
    · exact (hB i b hm).1
  · rcases List.mem_append.1 hm with hm | hm
    · exact h.2.1 i b hm
    · exact (hB i b hm).2
  · rw [List.map_append, List.nodup_append]
    refine ⟨h.2.2, hD, fun x hx y hy e => ?_⟩
    obtain ⟨⟨i, b⟩, h1, rfl⟩ := List.mem_map.1 hx
    obtain ⟨⟨j, c⟩, h2, rfl⟩ := List.mem_map.1 hy
    have e : i = j := e
    subst e
    exact hd i b c h1 h2

theorem Fresh.appL {F G : Frz} {L B : List (Nat × Blk)} (h : Fresh F G L) (hB : ∀ i b, (i, b) ∈ B → F i = none ∧ G i = some b) (hD : (B.map (·.1)).Nodup) (hd : ∀ i b c, (i, b) ∈ L → (i, c) ∈ B → False) : Fresh F G (B ++ L) := by
  have h2 := h.app hB hD hd
  refine ⟨fun i b hm => h2.1 i b ?_, fun i b hm => h2.2.1 i b ?_, ((List.perm_append_comm (l₁ := B) (l₂ := L)).map _).nodup_iff.2 h2.2.2⟩
  · exact List.perm_append_comm.mem_iff.1 hm
  · exact List.perm_append_comm.mem_iff.1 hm

theorem AW.freezeAllN {C : Ctx} {n : Nat} {k : Kno} {F : Frz} {own : Own} {c : Code} {A : Ex → Kno → Frz → Own → Prop} (p : Nat) {B : List (Nat × Blk)} {own' : Own} (hp : own[p]? = some B) (ho : setO own p [] = some own')
    (h : ∀ G, Frz.le F G → (∀ i b, (i, b) ∈ B → G i = some b) → (∀ i b, (i, b) ∈ B → F i = none) → (B.map (·.1)).Nodup → AW C n c k G own' A) : AW C n c k F own A := by
  intro e h0 hk hs
  have s1 : St F (B :: own.eraseIdx p) h0 := hs.perm (perm_pick hp)
  have s0 : StF F (B ++ (own.eraseIdx p).flatten) h0 := by simpa [St] using s1
  have hnd := s0.nodup
  rw [List.map_append, List.nodup_append] at hnd
  exact AW.freezeAll p hp ho (fun G hG hB => h G hG hB (fun i b hm => s0.apart _ (List.mem_append_left _ hm)) hnd.1) e h0 hk hs

theorem Spec.thaw {C : Ctx} {f : FuncId} {args : List Value} {F : Frz} {Q : Frz → Value → List (Nat × Blk) → Prop} (spec : Spec C f args F [] fun F' v o => o = [] ∧ ∃ L, Fresh F F' L ∧ Q F' v L) :
    Spec C f args F [] fun G v o => ∃ L F', o = [L] ∧ (∀ i b, F' i = some b → (∃ c, (i, c) ∈ L) ∨ G i = some b) ∧ Q F' v L := by
  intro own h hs
  obtain ⟨v, h', F', oout, h1, h2, h3, rfl, L, hL, hQ⟩ := spec own h hs
  have h3 : StF F' own.flatten h' := h3
  classical
  refine ⟨v, h', fun i => if ∃ c, (i, c) ∈ L then none else F' i, [L], h1, fun i b q => ?_, ?_, L, F', rfl, fun i b q => ?_, hQ⟩
  · show (if ∃ c, (i, c) ∈ L then none else F' i) = some b
    rw [if_neg fun ⟨c, hc⟩ => by rw [hL.1 i c hc] at q; cases q]
    exact h2 _ _ q
  · show StF _ (L ++ own.flatten) h'
    refine ⟨fun i b q => ?_, fun p hp => ?_, fun p hp => ?_, ?_, h3.wf⟩
    · split at q
      · cases q
      · exact h3.frz i b q
    · rcases List.mem_append.1 hp with hp | hp
      · exact h3.frz _ _ (hL.2.1 p.1 p.2 hp)
      · exact h3.has p hp
    · rcases List.mem_append.1 hp with hp | hp
      · rw [if_pos ⟨p.2, hp⟩]
      · split
        · rfl
        · exact h3.apart p hp
    · rw [List.map_append, List.nodup_append]
      refine ⟨hL.2.2, h3.nodup, fun x hx y hy e => ?_⟩
      obtain ⟨p, hp, rfl⟩ := List.mem_map.1 hx
      obtain ⟨q, hq, rfl⟩ := List.mem_map.1 hy
      have h4 := hL.2.1 p.1 p.2 hp
      rw [e, h3.apart q hq] at h4; cases h4
  · by_cases hc : ∃ c, (i, c) ∈ L
    · exact .inl hc
    · exact .inr (by show (if ∃ c, (i, c) ∈ L then none else F' i) = some b; rw [if_neg hc]; exact q)
end Go.Abs
namespace Go.Proofs.D

/-! ### parlmake.Grammar, its result one's own -/
theorem bld_rules {F G : Frz} (hG : Frz.le F G) {a : Option Addr} {m c : Nat} {B bs : List (Nat × Blk)} {zs : List (Nat × Value)} {rs : List Rule} (hb : Bld tRuleC F a m c B zs) (hR : Rights F zs bs rs) (hB : ∀ i b, (i, b) ∈ bs → G i = some b) : Bld tRule G a m c B rs := by
  have hl := hb.len
  have hl2 := hR.len
  rcases hb.at_ with ⟨rfl, rfl, rfl, rfl⟩ | ⟨i, cs, rfl, rfl, rfl, h4, h5⟩
  · have : rs = [] := List.eq_nil_of_length_eq_zero hl2.symm
    subst this
    exact ⟨hl, .inl ⟨rfl, rfl, rfl, rfl⟩⟩
  · have h6 := cells_flatR h4
    subst h6
    exact ⟨by rw [hl, hl2], .inr ⟨i, _, rfl, rfl, rfl, hR.arr hG hB, by decide⟩⟩

structure GSo where
  xs : List Rule
  a : Option Addr
  m : Nat
  c : Nat
  B : List (Nat × Blk)
  Bs : List (Nat × Blk)
  zs : List (Nat × Value)
  bs : List (Nat × Blk)

theorem grammarOwn_spec0 (F : Frz) {a : Option Addr} {n c : Nat} {l : List Int} (hl : Arr tInt F a n c l) :
    Abs.Spec CC 31 [.slice a n c] F [] fun F' v o => o = [] ∧ ∃ L, Fresh F F' L ∧ ∃ g a m c B bs zs, L = B ++ bs ∧ v = .agg ⟨gramCells g a m c⟩ ∧ Bld tRuleC F' a m c B zs ∧ Rights F' zs bs g.rules ∧ Small g := by
  refine Abs.Spec.fn (n := 72) Tryd.func31 rfl rfl fun own => ?_
  refine AW.seq (AW.reg ?_)
  refine WT.allocT hT zr zr zr zr zr zr (fun i2 hi2 => ?_)
  refine WT.nil ?_; refine AW.seq ?_; refine AW.reg ?_; (iterate 2 refine ze hT zr zr zr zr zr ?_)
  refine WT.boxT zr zr zr zr zr zr (fun i8 hi8 => ?_)
  refine ze hT zr zr zr zr zr ?_; refine WT.nil ?_; refine AW.seq ?_; refine AW.reg ?_; refine ze hT zr zr zr zr zr ?_
  refine WT.call1 (B := [(i8, .cells false [.slice a n c])]) 0 Tryd.func63 zr zr zr zr zr zr zr (fun _ => rfl) (next_spec F i8 ⟨a, n, c, rfl, hl⟩ 3 (by decide) (by decide)) (fun v B1 hv => ?_)
  obtain ⟨r1, l1, rfl, hr1, hs1⟩ := hv
  refine za zr zr zr zr zr zr (by omega) ?_; refine ze hT zr zr zr zr zr ?_
  refine WT.call1 0 Tryd.func63 zr zr zr zr zr zr zr (fun _ => rfl) (next_spec F i8 hs1 4 (by decide) (by decide)) (fun v B2 hv => ?_)
  obtain ⟨r2, l2, rfl, hr2, hs2⟩ := hv
  refine za zr zr zr zr zr zr (by omega) ?_; refine ze hT zr zr zr zr zr ?_
  refine WT.allocT hT zr zr zr zr zr zr (fun i4 hi4 => ?_)
  refine zs hT 0 0 zr zr zr zr zr zr zr zr zr zr zr zr ?_; refine WT.nil ?_; refine AW.seq ?_; refine AW.reg ?_; (iterate 2 refine ze hT zr zr zr zr zr ?_); refine zl hT 0 zr zr zr zr zr zr me zr ?_
  refine WT.call1 1 Tryd.func63 zr zr zr zr zr zr zr (fun _ => rfl) (next_spec F i8 hs2 (1 + r2) (by omega) (by omega)) (fun v B3 hv => ?_)
  obtain ⟨r3, l3, rfl, hr3, hs3⟩ := hv
  refine ze hT zr zr zr zr zr ?_; refine zs hT 0 0 zr zr zr zr zr zr zr zr zr zr zr zr ?_; refine WT.nil ?_; (iterate 2 refine AW.seq ?_); refine AW.reg ?_; refine ze hT zr zr zr zr zr ?_
  refine WT.call1 1 Tryd.func63 zr zr zr zr zr zr zr (fun _ => rfl) (next_spec F i8 hs3 8 (by decide) (by decide)) (fun v B4 hv => ?_)
  obtain ⟨r4, l4, rfl, hr4, hs4⟩ := hv
  refine za zr zr zr zr zr zr (by omega) ?_; refine ze hT zr zr zr zr zr ?_; refine WT.nil ?_
  refine AW.range (S := GSo) (fun _ => []) (fun s => [(i4, .cells false [.int .i64 (1 + r1 : Nat), .int .i64 (1 + r2 : Nat), .int .i64 r3, .slice s.a s.m s.c])] :: s.B :: s.Bs :: [(i2, .cells false [.int .i64 0, .int .i64 0, .int .i64 0, .slice none 0 0])] :: own)
    (fun j s G => Bld tRuleC G s.a s.m s.c s.B s.zs ∧ Rights G s.zs s.bs s.xs ∧ Fresh F G s.bs ∧ (∃ l, StreamB G i8 s.Bs l) ∧ (∀ r ∈ s.xs, RuleOk (1 + r1) (1 + r2) r) ∧ s.xs.Nodup ∧ s.xs.length ≤ j ∧ (0 < j → 1 ≤ s.xs.length)) (1 + r4) ⟨[], none, 0, 0, [], B4, [], []⟩
    zr zr zr zr zr zr zr zr zr (by omega) rfl rfl (fun _ => rfl) (fun _ => rfl) (SubK.of_map rfl) (OwnLe.flat (List.Perm.refl _)) ⟨Bld.nil_ _ _, Rights.nil, Fresh.nil, ⟨_, hs4⟩, by simp, by simp, by simp, by simp⟩ ?_ ?_
  · intro j s F1 hF1 hj hP
    obtain ⟨hb, hR, hFr, ⟨ls, hst⟩, hok, hnd, hlen, hpos⟩ := hP
    have hFr0 := hFr
    have hm1 : s.m = s.xs.length := by rw [hb.len, hR.len]
    refine AW.seq ?_; refine AW.reg ?_; (iterate 2 refine ze hT zr zr zr zr zr ?_); refine zl hT 0 zr zr zr zr zr zr me zr ?_
    refine WT.call1 2 Tryd.func63 zr zr zr zr zr zr zr (fun _ => rfl) (next_spec F1 i8 hst (1 + r2) (by omega) (by omega)) (fun v B5 hv => ?_)
    obtain ⟨r5, l5, rfl, hr5, hs5⟩ := hv
    refine ze hT zr zr zr zr zr ?_
    refine WT.allocT hT zr zr zr zr zr zr (fun i5 hi5 => ?_)
    refine zs hT 0 0 zr zr zr zr zr zr zr zr zr zr zr zr ?_; refine WT.nil ?_; (iterate 2 refine AW.seq ?_); refine AW.reg ?_; refine ze hT zr zr zr zr zr ?_
    refine WT.call1 3 Tryd.func63 zr zr zr zr zr zr zr (fun _ => rfl) (next_spec F1 i8 hs5 4 (by decide) (by decide)) (fun v B6 hv => ?_)
    obtain ⟨r6, l6, rfl, hr6, hs6⟩ := hv
    refine ze hT zr zr zr zr zr ?_; refine WT.nil ?_
    refine AW.range (S := GI) (fun _ => []) (fun s2 => [(i5, .cells false [.int .i64 r5, .slice s2.a s2.m s2.c])] :: s2.B :: [(i4, .cells false [.int .i64 (1 + r1 : Nat), .int .i64 (1 + r2 : Nat), .int .i64 r3, .slice s.a s.m s.c])] :: s.B :: s2.Bs :: [(i2, .cells false [.int .i64 0, .int .i64 0, .int .i64 0, .slice none 0 0])] :: own)
      (fun j s G => Bld tSym G s.a s.m s.c s.B s.ys ∧ (∃ l, StreamB G i8 s.Bs l) ∧ (∀ y ∈ s.ys, SymOk (1 + r1) (1 + r2) y) ∧ s.ys.length = j) r6 ⟨[], none, 0, 0, [], B6⟩
      zr zr zr zr zr zr zr zr zr (by omega) rfl rfl (fun _ => rfl) (fun _ => rfl) (SubK.of_map rfl) (OwnLe.flat (List.Perm.refl _)) ⟨Bld.nil_ _ _, ⟨_, hs6⟩, by simp, by simp⟩ ?_ ?_
    · intro q s2 F2 hF2 hq hP2
      obtain ⟨hb2, ⟨ls2, hst2⟩, hok2, hlen2⟩ := hP2
      have hm2 := hb2.len
      refine AW.seq ?_; refine AW.reg ?_; refine ze hT zr zr zr zr zr ?_
      refine WT.call1 4 Tryd.func63 zr zr zr zr zr zr zr (fun _ => rfl) (next_spec F2 i8 hst2 2 (by decide) (by decide)) (fun v B7 hv => ?_)
      obtain ⟨r7, l7, rfl, hr7, hs7⟩ := hv
      refine ze hT zr zr zr zr zr ?_; refine WT.nil ?_
      refine AW.cond rfl (fun hc => ?_) (fun hc => ?_)
      · refine AW.draw (ps := [(1, 5), (1, 7)]) rfl rfl ?_
        refine ze hT zr zr zr zr zr ?_; refine zl hT 0 zr zr zr zr zr zr me zr ?_; (iterate 2 refine ze hT zr zr zr zr zr ?_); refine zl hT 2 zr zr zr zr zr zr me zr ?_
        refine WT.call1 4 Tryd.func63 zr zr zr zr zr zr zr (fun _ => rfl) (next_spec F2 i8 hs7 (1 + r1) (by omega) (by omega)) (fun v B8 hv => ?_)
        obtain ⟨r8, l8, rfl, hr8, hs8⟩ := hv
        refine ze hT zr zr zr zr zr ?_
        refine WT.buildT hT zr zr zr zr zr zr zr zr zr zr zr zr zr zr (fun i9 hi9 => ?_)
        refine WT.appendT (ys := [⟨true, r8⟩]) hT 2 hb2 rfl (fun _ => rfl) zr zr zr zr zr zr zr zr zr zr zr (fun h0 s0 => news_own hT s0 0 zr zr zr zr) (Cells.single (x := (⟨true, r8⟩ : Sym)) rfl) rfl (by decide) (by first | omega | (dsimp only at *; omega)) (fun a3 c3 B3 hB3 => ?_)
        refine ze hT zr zr zr zr zr ?_; refine zs hT 1 0 zr zr zr zr zr zr zr zr zr zr zr zr ?_; refine WT.nil ?_
        refine ⟨(by repeat (first | exact trivial | refine recs_pair rfl rfl (by first | exact keep0 | exact keep1 (keeps_frz (by assumption)) | exact kp 0 0 me me | exact kp 1 1 me me | exact kp 2 2 me me | exact kp 3 3 me me | exact kp 4 4 me me | exact kp 5 5 me me | exact kp 6 6 me me | exact kp 0 1 me me | exact kp 1 2 me me | exact kp 2 3 me me | exact kp 3 4 me me | exact kp 4 5 me me | exact kp 5 6 me me | exact kp 6 7 me me) ?_)), ?_⟩
        refine ⟨⟨s2.ys ++ [⟨true, r8⟩], a3, s2.m + 1, c3, B3, B8⟩, SubK.of_map rfl, (by repeat (first | exact OwnLe.refl _ | refine OwnLe.skip _ ?_)), hB3, ⟨_, hs8⟩, ?_, by simp [hlen2]⟩
        intro y hy
        rcases List.mem_append.1 hy with hy | hy
        · exact hok2 y hy
        · obtain rfl := List.mem_singleton.1 hy; exact hr8
      · refine AW.draw (ps := [(1, 5), (1, 7)]) rfl rfl ?_
        refine ze hT zr zr zr zr zr ?_; refine zl hT 0 zr zr zr zr zr zr me zr ?_; (iterate 2 refine ze hT zr zr zr zr zr ?_); refine zl hT 2 zr zr zr zr zr zr me zr ?_
        refine WT.call1 4 Tryd.func63 zr zr zr zr zr zr zr (fun _ => rfl) (next_spec F2 i8 hs7 (1 + r2) (by omega) (by omega)) (fun v B8 hv => ?_)
        obtain ⟨r8, l8, rfl, hr8, hs8⟩ := hv
        refine ze hT zr zr zr zr zr ?_
        refine WT.buildT hT zr zr zr zr zr zr zr zr zr zr zr zr zr zr (fun i9 hi9 => ?_)
        refine WT.appendT (ys := [⟨false, r8⟩]) hT 2 hb2 rfl (fun _ => rfl) zr zr zr zr zr zr zr zr zr zr zr (fun h0 s0 => news_own hT s0 0 zr zr zr zr) (Cells.single (x := (⟨false, r8⟩ : Sym)) rfl) rfl (by decide) (by first | omega | (dsimp only at *; omega)) (fun a3 c3 B3 hB3 => ?_)
        refine ze hT zr zr zr zr zr ?_; refine zs hT 1 0 zr zr zr zr zr zr zr zr zr zr zr zr ?_; refine WT.nil ?_
        refine ⟨(by repeat (first | exact trivial | refine recs_pair rfl rfl (by first | exact keep0 | exact keep1 (keeps_frz (by assumption)) | exact kp 0 0 me me | exact kp 1 1 me me | exact kp 2 2 me me | exact kp 3 3 me me | exact kp 4 4 me me | exact kp 5 5 me me | exact kp 6 6 me me | exact kp 0 1 me me | exact kp 1 2 me me | exact kp 2 3 me me | exact kp 3 4 me me | exact kp 4 5 me me | exact kp 5 6 me me | exact kp 6 7 me me) ?_)), ?_⟩
        refine ⟨⟨s2.ys ++ [⟨false, r8⟩], a3, s2.m + 1, c3, B3, B8⟩, SubK.of_map rfl, (by repeat (first | exact OwnLe.refl _ | refine OwnLe.skip _ ?_)), hB3, ⟨_, hs8⟩, ?_, by simp [hlen2]⟩
        intro y hy
        rcases List.mem_append.1 hy with hy | hy
        · exact hok2 y hy
        · obtain rfl := List.mem_singleton.1 hy; exact hr8
    · intro s2 F2 hF2 hP2
      obtain ⟨hb2, ⟨ls2, hst2⟩, hok2, hlen2⟩ := hP2
      have hm2 := hb2.len
      refine AW.freezeAllN 1 rfl rfl (fun F3 hF3 hB3 hN3 hD3 => ?_)
      have hy := hb2.frozen hF3 hB3
      have hb := (hb.mono hF2).mono hF3
      have hR := (hR.mono hF2).mono hF3
      have hFr := hFr.mono (hF2.trans hF3)
      have hFr3 : Fresh F F3 (s.bs ++ s2.B) := hFr.app (fun i b hm => ⟨(hF1.trans hF2).none (hN3 i b hm), hB3 i b hm⟩) hD3 fun i b c h1 h2 => by
        have h3 := (Fresh.mono hFr0 hF2).2.1 i b h1
        rw [hN3 i c h2] at h3; cases h3
      have hst2 := hst2.mono hF3
      refine AW.seq ?_; refine AW.reg ?_; refine ze hT zr zr zr zr zr ?_; refine zl hT 2 zr zr zr zr zr zr me zr ?_; refine zl hT 0 zr zr zr zr zr zr me zr ?_
      refine WT.callLend 3 Tryd.func64 zr zr zr zr zr zr zr (fun G hG hBG => has_spec G (left := r5) ((bld_rules (Frz.le.refl _) (hb.mono hG) (hR.mono hG) (fun i b hm => hG _ _ (hFr.2.1 i b hm))).frozen (Frz.le.refl _) hBG) (by first | omega | (dsimp only at *; omega)) (hy.mono hG) (by first | omega | (dsimp only at *; omega))) (fun v hv => ?_)
      subst hv
      refine ze hT zr zr zr zr zr ?_; refine WT.nil ?_

      refine AW.cond rfl (fun hc => ?_) (fun hc => ?_)
      · refine AW.reg ?_; refine ze hT zr zr zr zr zr ?_; refine zl hT 2 zr zr zr zr zr zr me zr ?_; refine zl hT 0 zr zr zr zr zr zr me zr ?_
        refine WT.buildT hT zr zr zr zr zr zr zr zr zr zr zr zr zr zr (fun i9 hi9 => ?_)
        refine WT.appendT (R := tRuleC) (ys := [(r5, .slice s2.a s2.m s2.c)]) hT 4 hb rfl (fun _ => rfl) zr zr zr zr zr zr zr zr zr zr zr (fun h0 s0 => news_own hT s0 0 zr zr zr zr) (Cells.single (R := tRuleC) ⟨rfl, rfl⟩) rfl (by decide) (by first | omega | (dsimp only at *; omega)) (fun a3 c3 B3 hB3 => ?_)
        refine ze hT zr zr zr zr zr ?_; refine zs hT 3 0 zr zr zr zr zr zr zr zr zr zr zr zr ?_; refine WT.nil ?_
        refine ⟨⟨s.xs ++ [⟨r5, s2.ys⟩], a3, s.m + 1, c3, B3, s2.Bs, s.zs ++ [(r5, .slice s2.a s2.m s2.c)], s.bs ++ s2.B⟩, SubK.of_map rfl, (by repeat (first | exact OwnLe.refl _ | refine OwnLe.skip _ ?_)), hB3, Rights.snoc (r := ⟨r5, s2.ys⟩) ((hb2.mono hF3).vec) hR, hFr3, ⟨_, hst2⟩, ?_, ?_, ?_, ?_⟩
        · intro r hr
          rcases List.mem_append.1 hr with hr | hr
          · exact hok r hr
          · obtain rfl := List.mem_singleton.1 hr
            exact ⟨by simp; omega, by simp; omega, hok2⟩
        · rw [List.nodup_append]
          refine ⟨hnd, by simp, fun x hx y hy => ?_⟩
          obtain rfl := List.mem_singleton.1 hy
          rintro rfl
          simp [hx] at hc
        · simp; omega
        · simp
      · refine AW.skip ?_
        have hin : (⟨r5, s2.ys⟩ : Rule) ∈ s.xs := by simpa using hc
        refine ⟨{ s with Bs := s2.Bs }, SubK.of_map rfl, (by repeat (first | exact OwnLe.refl _ | refine OwnLe.skip _ ?_)), hb, hR, hFr, ⟨_, hst2⟩, hok, hnd, by dsimp only; omega, fun _ => List.length_pos_of_mem hin⟩
  · intro s F1 hF1 hP
    obtain ⟨hb, hR, hFr, ⟨ls, hst⟩, hok, hnd, hlen, hpos⟩ := hP
    refine AW.freezeAllN 1 rfl rfl (fun F3 hF3 hB3 hN3 hD3 => ?_)
    have hFr3 : Fresh F F3 (s.B ++ s.bs) := (hFr.mono hF3).appL (fun i b hm => ⟨hF1.none (hN3 i b hm), hB3 i b hm⟩) hD3 fun i b c h1 h2 => by
      have h3 := hFr.2.1 i b h1
      rw [hN3 i c h2] at h3; cases h3
    refine AW.seq ?_; refine AW.reg ?_; refine zl hT 0 zr zr zr zr zr zr me zr ?_; refine zs hT 3 0 zr zr zr zr zr zr zr zr zr zr zr zr ?_; refine WT.nil ?_
    have hx3 : s.m = s.xs.length := by rw [hb.len, hR.len]
    refine AW.ret ⟨_, [], ⟨_, _, ⟨_, rfl, fun G h0 s0 => loadA_cells (s0.has (p := 3) rfl (List.mem_cons_self ..)) (readT_ok hT rfl)⟩, rfl, rfl⟩, (by repeat (first | exact List.Sublist.refl _ | refine List.Sublist.cons _ ?_)), rfl, s.B ++ s.bs, hFr3, ⟨1 + r1, 1 + r2, r3, s.xs⟩, s.a, s.m, s.c, s.B, s.bs, s.zs, rfl, rfl, hb.mono hF3, hR.mono hF3, ?_⟩
    exact ⟨by dsimp only; omega, by dsimp only; omega, hr3, by dsimp only; omega, hnd, hok⟩

theorem grammarOwn_spec (F : Frz) {a : Option Addr} {n c : Nat} {l : List Int} (hl : Arr tInt F a n c l) :
    Abs.Spec CC 31 [.slice a n c] F [] fun G v o => ∃ g a m c B bs zs, o = [B ++ bs] ∧ v = .agg ⟨gramCells g a m c⟩ ∧ Bld tRuleC G a m c B zs ∧ Rights G zs bs g.rules ∧ Small g :=
  (Spec.thaw (grammarOwn_spec0 F hl)).mono fun G v o _ ⟨L, F', ho, _, g, a, m, c, B, bs, zs, h1, h2, h3, h4, h5⟩ => ⟨g, a, m, c, B, bs, zs, by rw [ho, h1], h2, bld_c h3, rights_c h4, h5⟩
end Go.Proofs.D

set_option linter.unusedVariables false
set_option maxRecDepth 20000
set_option maxHeartbeats 0
open Go Go.Abs Go.Proofs Go.Proofs.D
namespace Go.Proofs.D

/-! ### another rule -/
def moreG (g : Gram) (r : Rule) : Gram := { g with rules := g.rules ++ [r] }

theorem rulesErr_more (g : Gram) (r : Rule) : ∀ (l pre : List Rule), rulesErr (moreG g r) pre l = rulesErr g pre l
  | [], _ => rfl
  | x :: l, pre => by
    unfold rulesErr
    have e : ruleErr (moreG g r) pre x = ruleErr g pre x := rfl
    rw [e, rulesErr_more g r l]

structure NewRule (g : Gram) (r : Rule) : Prop where
  left : r.left < g.nons
  len : r.right.length ≤ 4
  ok : ∀ y ∈ r.right, SymOk g.terms g.nons y

theorem rule_fine {g : Gram} {pre : List Rule} {r : Rule} (h2 : r.left < g.nons) (h3 : r.right.length ≤ 4) (h4 : ∀ y ∈ r.right, SymOk g.terms g.nons y) : ruleErr g pre r = if pre.any (fun x => decide (x = r)) = true then 6 else 0 := by
  rw [ruleErr, if_neg (by omega), if_neg (by omega), if_neg]
  intro h5
  simp only [List.any_eq_true, Bool.not_eq_true'] at h5
  obtain ⟨y, hy, hb⟩ := h5
  have := h4 y hy
  unfold SymOk at this
  unfold hasSym at hb
  split at this <;> rename_i ht <;> simp [ht, this] at hb

theorem more_twice {g : Gram} (h : Valid g) {r : Rule} (hr : r ∈ g.rules) : rulesErr (moreG g r) [] (moreG g r).rules = 6 := by
  rw [rulesErr_more]
  show rulesErr g [] (g.rules ++ [r]) = 6
  rw [rulesErr_split g g.rules.length [] (g.rules ++ [r]) (by simp) (fun i h1 h2 => ?_)]
  · rw [List.drop_left, List.take_left]
    obtain ⟨h2, h3, h4⟩ := h.right r hr
    have e : ruleErr g ([] ++ g.rules) r = 6 := by
      rw [rule_fine h2 h3 h4, if_pos]
      rw [List.nil_append, List.any_eq_true]
      exact ⟨r, hr, by simp⟩
    unfold rulesErr
    rw [if_neg (by rw [e]; decide), e]
  · have hi : (g.rules ++ [r])[i] = g.rules[i] := List.getElem_append_left h2
    rw [hi, List.take_append_of_le_length (by omega)]
    obtain ⟨h5, h6, h7⟩ := h.right g.rules[i] (List.getElem_mem h2)
    rw [rule_fine h5 h6 h7, if_neg]
    intro h8
    simp only [List.nil_append, List.any_eq_true, decide_eq_true_eq] at h8
    obtain ⟨x, hx, rfl⟩ := h8
    have hn := h.nodup
    rw [← List.take_append_drop i g.rules, List.nodup_append] at hn
    refine hn.2.2 _ hx _ ?_ rfl
    rw [List.drop_eq_getElem_cons h2]; exact List.mem_cons_self ..

theorem more_range {g : Gram} (h : Valid g) (hl : g.rules.length ≤ 31) {r : Rule} (hr : NewRule g r) : InRange (moreG g r) := by
  refine ⟨h.range.terms, h.range.nons, h.range.start, by show (g.rules ++ [r]).length ≤ 32; rw [List.length_append]; simp; omega, fun x hx => ?_⟩
  rcases List.mem_append.1 hx with hx | hx
  · exact h.range.right x hx
  · rw [List.mem_singleton.1 hx]; have := hr.len; omega

theorem more_valid {g : Gram} (h : Valid g) (hl : g.rules.length ≤ 31) {r : Rule} (hr : NewRule g r) (hn : r ∉ g.rules) : Valid (moreG g r) where
  range := more_range h hl hr
  right := fun x hx => by
    rcases List.mem_append.1 hx with hx | hx
    · exact h.right x hx
    · rw [List.mem_singleton.1 hx]; exact ⟨hr.left, hr.len, hr.ok⟩
  nodup := by
    show (g.rules ++ [r]).Nodup
    rw [List.nodup_append]
    refine ⟨h.nodup, by simp, fun a ha b hb e => ?_⟩
    rw [List.mem_singleton.1 hb] at e
    subst e
    exact hn ha

theorem symT_more (g : Gram) (r : Rule) (w : List Nat) : ∀ (d : Nat) (s : Sym) (i j : Nat), symT g w d s i j ≤ symT (moreG g r) w d s i j
  | 0, s, i, j => Nat.le_refl _
  | d + 1, s, i, j => by
    rw [symT, symT]
    split
    · exact Nat.le_refl _
    · show _ ≤ ((g.rules ++ [r]).map _).sum
      rw [List.map_append, List.sum_append]
      refine Nat.le_trans (sumN_le _ fun x _ => ?_) (Nat.le_add_right _ _)
      split
      · exact listT_mono (fun s i j => symT_more g r w d s i j) _ _ _
      · exact Nat.le_refl _

/-- Fewer, with the mark of endlessly many. -/
def fewerB (a b : Int) : Bool := (b == -1) || ((a != -1) && decide (a ≤ b))

theorem count_fewer {A B : Nat → Nat} (hA : ∀ d, A d ≤ A (d + 1)) (h : ∀ d, A d ≤ B d) {a b : Int} (ha : CountVal A a) (hb : CountVal B b) : fewerB a b = true := by
  unfold fewerB
  rcases hb with ⟨n, ⟨D, hn⟩, rfl⟩ | ⟨_, rfl⟩
  · rcases ha with ⟨m, ⟨E, hm⟩, rfl⟩ | ⟨hu, _⟩
    · have h1 := hm (max D E) (by omega)
      have h2 := hn (max D E) (by omega)
      have h3 := h (max D E)
      rw [h1, h2] at h3
      simp
      omega
    · exfalso
      obtain ⟨d, hd⟩ := hu (n + 1)
      have h1 := mono_le hA (show d ≤ max d D by omega)
      have h2 := hn (max d D) (by omega)
      have h3 := h (max d D)
      omega
  · rfl

theorem fewer_spec (F : Frz) (a b : Int) : Abs.Spec CC 34 [.int .i64 a, .int .i64 b] F [] fun _ v o => o = [] ∧ v = .bool (fewerB a b) := by
  refine Abs.Spec.fn (n := 16) Tryd.func34 rfl rfl fun own => ?_
  refine AW.seq ?_; refine AW.reg ?_; refine ze hT zr zr zr zr zr ?_; refine WT.nil ?_; refine AW.seq ?_; refine AW.reg ?_; (iterate 3 refine ze hT zr zr zr zr zr ?_)
  refine WT.split 7 rfl (fun h1 => ?_) (fun h1 => ?_)
  · (iterate 7 refine zx zr zr zr zr ?_); (iterate 2 refine ze hT zr zr zr zr zr ?_); refine WT.nil ?_
    refine AW.ret ⟨_, [], ⟨_, _, rfl, rfl, rfl⟩, (by repeat (first | exact List.Sublist.refl _ | refine List.Sublist.cons _ ?_)), rfl, ?_⟩
    unfold fewerB
    rw [h1]; rfl
  · (iterate 3 refine ze hT zr zr zr zr zr ?_)
    refine WT.split 10 rfl (fun h2 => ?_) (fun h2 => ?_)
    · (iterate 6 refine ze hT zr zr zr zr zr ?_); refine WT.nil ?_
      refine AW.ret ⟨_, [], ⟨_, _, rfl, rfl, rfl⟩, (by repeat (first | exact List.Sublist.refl _ | refine List.Sublist.cons _ ?_)), rfl, ?_⟩
      unfold fewerB
      rw [h1, h2]; rfl
    · (iterate 3 refine zx zr zr zr zr ?_); (iterate 3 refine ze hT zr zr zr zr zr ?_); refine WT.nil ?_
      refine AW.ret ⟨_, [], ⟨_, _, rfl, rfl, rfl⟩, (by repeat (first | exact List.Sublist.refl _ | refine List.Sublist.cons _ ?_)), rfl, ?_⟩
      unfold fewerB
      rw [h1, h2]; rfl

/-! ### a grammar that is not taken -/
theorem mcheckE_spec (F : Frz) (g : Gram) (hg : InRange g) (he : rulesErr g [] g.rules = 6) {a : Option Addr} {m c : Nat} (hr : Arr tRule F a m c g.rules) (wv : Value) :
    Abs.Spec CC 65 [.agg ⟨gramCells g a m c⟩, wv] F [] fun _ v o => o = [] ∧ v = .int .i64 6 := by
  unfold gramCells
  refine Abs.Spec.fn (n := 14) Tryd.func65 rfl rfl fun own => ?_
  refine AW.seq (AW.reg ?_)
  refine WT.boxT zr zr zr zr zr zr (fun i1 hi1 => ?_)
  refine ze hT zr zr zr zr zr ?_; refine WT.nil ?_; (iterate 2 refine AW.seq ?_); refine AW.reg ?_; refine zl hT 0 zr zr zr zr zr zr me zr ?_
  refine WT.callV Tryd.func74 zr zr zr zr zr zr (check_spec _ g hg hr) (fun v hv => ?_)
  rw [he] at hv
  subst hv
  refine ze hT zr zr zr zr zr ?_; refine WT.nil ?_; refine AW.seq ?_; refine AW.reg ?_; (iterate 2 refine ze hT zr zr zr zr zr ?_); refine WT.nil ?_
  refine AW.cond rfl (fun h => ?_) (fun h => (by cases h))
  refine AW.seq ?_; refine AW.reg ?_; (iterate 2 refine ze hT zr zr zr zr zr ?_); refine WT.nil ?_
  exact AW.ret ⟨_, [], ⟨_, _, rfl, rfl, rfl⟩, (by repeat (first | exact List.Sublist.refl _ | refine List.Sublist.cons _ ?_)), rfl, rfl⟩

theorem mcountE_spec (F : Frz) (g : Gram) (hg : InRange g) (he : rulesErr g [] g.rules = 6) {ga : Option Addr} {gm gc : Nat} (hr : Arr tRule F ga gm gc g.rules) (wv : Value) :
    Abs.Spec CC 32 [.agg ⟨gramCells g ga gm gc⟩, wv] F [] fun F' v o => o = [] ∧ v = .tuple ⟨[.int .i64 0, .int .i64 6]⟩ := by
  unfold gramCells
  refine Abs.Spec.fn (n := 17) Tryd.func32 rfl rfl fun own => ?_
  refine AW.seq (AW.reg ?_)
  refine WT.boxT zr zr zr zr zr zr (fun i2 hi2 => ?_)
  (iterate 2 refine ze hT zr zr zr zr zr ?_); refine WT.nil ?_; (iterate 2 refine AW.seq ?_); refine AW.reg ?_; refine zl hT 0 zr zr zr zr zr zr me zr ?_; refine ze hT zr zr zr zr zr ?_
  refine WT.callV Tryd.func65 zr zr zr zr zr zr (mcheckE_spec _ g hg he hr wv) (fun v hv => ?_)
  subst hv
  refine ze hT zr zr zr zr zr ?_; refine WT.nil ?_; refine AW.seq ?_; refine AW.reg ?_; (iterate 2 refine ze hT zr zr zr zr zr ?_); refine WT.nil ?_
  refine AW.cond rfl (fun h => ?_) (fun h => (by cases h))
  refine AW.seq ?_; refine AW.reg ?_; (iterate 3 refine ze hT zr zr zr zr zr ?_); refine WT.nil ?_
  exact AW.ret ⟨_, [], ⟨_, _, rfl, ⟨_, _, rfl, rfl, rfl⟩, rfl⟩, (by repeat (first | exact List.Sublist.refl _ | refine List.Sublist.cons _ ?_)), rfl, rfl⟩

/-! ### contracts in the form that MeanMore takes -/
theorem Spec.apart {C : Ctx} {f : FuncId} {args : List Value} {F : Frz} {Q : Frz → Value → List (Nat × Blk) → List (Nat × Blk) → Prop} (spec : Abs.Spec C f args F [] fun G v o => ∃ B1 B2, o = [B1 ++ B2] ∧ Q G v B1 B2) :
    Abs.Spec C f args F [] fun G v o => ∃ B1 B2, o = [B1, B2] ∧ Q G v B1 B2 := by
  intro own h hs
  obtain ⟨v, h', F', oout, h1, h2, h3, B1, B2, rfl, h4⟩ := spec own h hs
  refine ⟨v, h', F', [B1, B2], h1, h2, ?_, B1, B2, rfl, h4⟩
  have h3 : StF F' ((B1 ++ B2) ++ own.flatten) h' := h3
  have e : ([B1, B2] ++ own).flatten = (B1 ++ B2) ++ own.flatten := by simp
  show StF F' ([B1, B2] ++ own).flatten h'
  rw [e]; exact h3

theorem perm_apart3 {α : Type} (x b1 Br b2 l : List α) : (x ++ (b1 ++ (Br ++ (b2 ++ l)))).Perm (b1 ++ (b2 ++ (x ++ (Br ++ l)))) := by
  have p1 : (x ++ (b1 ++ (Br ++ (b2 ++ l)))).Perm (b1 ++ (x ++ (Br ++ (b2 ++ l)))) := by
    have := (List.perm_append_comm (l₁ := x) (l₂ := b1)).append_right (Br ++ (b2 ++ l))
    simpa [List.append_assoc] using this
  have p2 : (x ++ (Br ++ (b2 ++ l))).Perm (b2 ++ (x ++ (Br ++ l))) := by
    have := (List.perm_append_comm (l₁ := x ++ Br) (l₂ := b2)).append_right l
    simpa [List.append_assoc] using this
  exact p1.trans (List.Perm.append_left b1 p2)

/-- The first rule of a small grammar, its right side one's own. -/
theorem grammarFirst_spec (F : Frz) {a : Option Addr} {n c : Nat} {l : List Int} (hl : Arr tInt F a n c l) :
    Abs.Spec CC 31 [.slice a n c] F [] fun G v o => ∃ B1 B2, o = [B1, B2] ∧ ∃ (g : Gram) (io m : Nat) (xs : List (Nat × Value)) (left : Nat) (ra : Option Addr) (rn rc : Nat) (right : List Sym), B1 = [(io, .cells false (flatR xs))] ∧ v = .agg ⟨gramCells g (some ⟨io, 0, none⟩) m 2⟩ ∧ 1 ≤ m ∧ xs[0]? = some (left, .slice ra rn rc) ∧ m = xs.length ∧ (∀ x ∈ xs, Go.Abs.one x.2 = true) ∧ Vec tSym G ra rn rc B2 right ∧ right.length ≤ 3 := by
  have base := grammarOwn_spec F hl
  refine Spec.apart fun own h hs => ?_
  obtain ⟨v, h', F', oout, h1, h2, h3, g, ga, m, gc, B, bs, zs, rfl, rfl, hb, hR, hg⟩ := base own h hs
  have hblen := hb.len
  have hRl := hR.len
  have hgr := hg.rules
  obtain ⟨io, cs, hia, hic, hiB, hcells, _⟩ := hb.at_.resolve_left (fun h => by rw [h.1] at hRl; simp at hRl; omega)
  have hcs := cells_flatR hcells
  have hic : gc = 2 := hic
  subst hia hic hiB hcs
  have hl := hg.rules
  obtain ⟨r, hr0⟩ : ∃ r, g.rules[0]? = some r := ⟨_, List.getElem?_eq_getElem (by omega)⟩
  obtain ⟨ra, rn, rc, Br, b1, b2, hx, hbs, hvec, _⟩ := Rights.split hR hr0
  have hok := (hg.ok r (List.mem_of_getElem? hr0)).2.1
  refine ⟨_, h', F', [[(io, Blk.cells false (flatR zs))] ++ Br], h1, h2, ?_, [(io, .cells false (flatR zs))], Br, rfl, g, io, m, zs, r.left, ra, rn, rc, r.right, rfl, rfl, by omega, hx, hblen, hR.one, hvec, hok⟩
  have h3 : StF F' (([(io, Blk.cells false (flatR zs))] ++ bs) ++ own.flatten) h' := by simpa [St] using h3
  show StF F' ([[(io, Blk.cells false (flatR zs))] ++ Br] ++ own).flatten h'
  rw [hbs] at h3
  have e : ([[(io, Blk.cells false (flatR zs))] ++ Br] ++ own).flatten = ([(io, Blk.cells false (flatR zs))] ++ Br) ++ own.flatten := by simp
  rw [e]
  have hp : (([(io, Blk.cells false (flatR zs))] ++ (b1 ++ (Br ++ b2))) ++ own.flatten).Perm ((b1 ++ b2) ++ (([(io, Blk.cells false (flatR zs))] ++ Br) ++ own.flatten)) := by
    simp only [List.append_assoc]
    have q1 := perm_apart3 [(io, Blk.cells false (flatR zs))] b1 Br b2 own.flatten
    simpa [List.append_assoc] using q1
  exact (h3.perm hp).sub (List.sublist_append_right _ _)

theorem copyApart_spec (F : Frz) (g : Gram) {a : Option Addr} {m c : Nat} (hr : Arr tRule F a m c g.rules) (hm : m ≤ 1000000) (hrr : ∀ r ∈ g.rules, r.right.length ≤ 1000000) :
    Abs.Spec CC 30 [.agg ⟨gramCells g a m c⟩] F [] fun G v o => ∃ B1 B2, o = [B1, B2] ∧ ∃ a' c' xs, v = .agg ⟨gramCells g a' m c'⟩ ∧ Bld tRuleC G a' m c' B1 xs ∧ Rights G xs B2 g.rules := by
  refine Spec.apart ((copyOwn_spec F g hr hm hrr).mono fun G v o _ ⟨B', h1, B, bs, a', c', xs, h2, h3, h4, h5⟩ => ⟨B, bs, by rw [h1, h2], a', c', xs, h3, h4, h5⟩)
end Go.Proofs.D

set_option linter.unusedVariables false
set_option maxRecDepth 20000
set_option maxHeartbeats 0
open Go Go.Abs Go.Proofs Go.Proofs.D
namespace Go.Proofs.D

structure MoS where
  cur : List Sym
  B : List (Nat × Blk)

def fixSym (t n : Nat) (y : Sym) : Sym := ⟨y.term, if y.term = true then below y.n t else below y.n n⟩

theorem fixSym_ok {t n : Nat} (ht : 0 < t) (hn : 0 < n) (y : Sym) : SymOk t n (fixSym t n y) := by
  unfold SymOk fixSym
  cases y.term with
  | true => exact below_lt (y.n : Int) ht
  | false => exact below_lt (y.n : Int) hn

theorem flatS_get : ∀ {l : List Sym} {i : Nat} {y : Sym}, l[i]? = some y → (flatS l)[i * 2]? = some (.bool y.term) ∧ (flatS l)[i * 2 + 1]? = some (.int .i64 y.n)
  | [], i, x, h => by simp at h
  | y :: l, 0, x, h => by
    obtain rfl : y = x := by simpa using h
    exact ⟨rfl, rfl⟩
  | y :: l, i + 1, x, h => by
    have h2 : l[i]? = some x := by simpa using h
    obtain ⟨h3, h4⟩ := flatS_get h2
    have e : flatS (y :: l) = .bool y.term :: .int .i64 y.n :: flatS l := rfl
    rw [e, show (i + 1) * 2 = i * 2 + 1 + 1 by omega]
    simp only [List.getElem?_cons_succ]
    exact ⟨h3, h4⟩

theorem flatR_len (xs : List (Nat × Value)) : (flatR xs).length = xs.length * 2 := by
  induction xs with
  | nil => rfl
  | cons x xs ih =>
    have e : flatR (x :: xs) = .int .i64 x.1 :: x.2 :: flatR xs := rfl
    rw [e]; simp [ih]; omega

theorem flatS_len (l : List Sym) : (flatS l).length = l.length * 2 := by
  induction l with
  | nil => rfl
  | cons y l ih =>
    have e : flatS (y :: l) = .bool y.term :: .int .i64 y.n :: flatS l := rfl
    rw [e]; simp [ih]; omega

theorem meanMore_law (F : Frz) (hL : Laid F) {a b b3 : Option Addr} {m n c d n3 d3 : Nat} {l w0 l3 : List Int} (hl : Arr tInt F a m c l) (hw0 : Arr tInt F b n d w0) (hl3 : Arr tInt F b3 n3 d3 l3) (hm : n ≤ 9223372036854775807) :
    Abs.Spec CC 7 [.slice a m c, .slice b n d, .slice b3 n3 d3] F [] fun _ v o => o = [] ∧ v = .bool true := by
  refine Abs.Spec.fn (n := 123) Tryd.func7 rfl rfl fun own => ?_
  refine AW.seq ?_; refine AW.reg ?_; refine ze hT zr zr zr zr zr ?_; refine WT.nil ?_; refine AW.seq ?_; refine AW.reg ?_; (iterate 2 refine ze hT zr zr zr zr zr ?_)
  refine WT.callF0 Tryd.func13 zr zr zr zr zr zr (made_spec _ hl hw0 hm 5 (by decide)) (fun F1 v hF1 hv => ?_)
  obtain ⟨g, ga, gm, gc, wa, wn, wc, w, rfl, hg, hr, hw, hw1, hw2⟩ := hv
  have hL1 := hL.mono hF1
  have hwlen := hw.len
  subst hwlen
  have hgl := hr.len
  have hgr := hg.rules
  have hgn := hg.nons
  have hgt := hg.terms
  have hgs := hg.start
  have hv := hg.valid
  unfold gramCells
  (iterate 3 refine ze hT zr zr zr zr zr ?_)
  refine WT.allocT hT zr zr zr zr zr zr (fun i7 hi7 => ?_)
  refine zs hT 0 0 zr zr zr zr zr zr zr zr zr zr zr zr ?_; refine ze hT zr zr zr zr zr ?_; refine WT.nil ?_; refine AW.seq ?_; refine AW.reg ?_; refine zl hT 0 zr zr zr zr zr zr me zr ?_
  refine WT.callF Tryd.func30 zr zr zr zr zr zr (copyApart_spec _ g hr (by omega) (fun r hr => by have := (hg.ok r hr).2.1; omega)) (List.Perm.refl _) (fun F2 v oout hF2 hv2 => ?_)
  obtain ⟨Bt, Bs, rfl, ca, cc, xs, rfl, hb, hR⟩ := hv2
  have hxl := hb.len
  unfold gramCells
  skip
  refine WT.allocT hT zr zr zr zr zr zr (fun i8 hi8 => ?_)
  refine zs hT 0 0 zr zr zr zr zr zr zr zr zr zr zr zr ?_; refine WT.nil ?_; refine AW.seq ?_
  refine AW.draw (ps := [(1, 3), (1, 7)]) rfl rfl ?_
  refine ze hT zr zr zr zr zr ?_; refine zl hT 0 zr zr zr zr zr zr me zr ?_; refine ze hT zr zr zr zr zr ?_
  refine WT.callF Tryd.func31 zr zr zr zr zr zr (grammarFirst_spec _ ((hl3.mono hF1).mono hF2)) (List.Perm.refl _) (fun F3 v oout hF3 hv3 => ?_)
  obtain ⟨B1, Br, rfl, gx, ix, mx, xs3, left, ra, rn, rc, right, rfl, rfl, hmx, hx0, hmx2, hone, hvec, hrl⟩ := hv3
  unfold gramCells
  have htab : Vec tRuleC F3 (some ⟨ix, 0, none⟩) mx 2 [(ix, .cells false (flatR xs3))] xs3 := tab_vec hmx2 hone
  refine ze hT zr zr zr zr zr ?_
  refine WT.vidx (j := 0) hT htab zr zr zr zr zr zr zr zr zr (by omega) (fun bi hbi => ?_)
  refine WT.vldS hT 0 htab hbi hx0 zr zr zr zr zr zr zr zr zr (fun lx hlx => ?_)
  obtain ⟨rfl, _⟩ := hlx
  refine WT.buildT hT zr zr zr zr zr zr zr zr zr zr zr zr zr zr (fun i9 hi9 => ?_)
  refine WT.appendT (R := tRuleC) (ys := [(left, .slice ra rn rc)]) hT 4 (hb.mono hF3) rfl (fun _ => rfl) zr zr zr zr zr zr zr zr zr zr zr (fun h0 s0 => news_own hT s0 0 zr zr zr zr) (Cells.single (R := tRuleC) ⟨rfl, rfl⟩) rfl (by decide) (by first | omega | (dsimp only at *; omega)) (fun a3 c3 B3 hB3 => ?_)
  obtain ⟨it, cs, hia, hic, hiB, hcells, _⟩ := hB3.at_.resolve_left (fun h => by have := h.1; simp at this)
  have hcs := cells_flatR hcells
  have hic : c3 = 2 := hic
  subst hia hic hiB hcs
  have hx : (xs ++ [(left, Value.slice ra rn rc)])[gm]? = some (left, .slice ra rn rc) := by rw [hxl, List.getElem?_append_right (Nat.le_refl _)]; simp
  obtain ⟨c1, c2⟩ := flatR_get hx
  have hyl : (xs ++ [(left, Value.slice ra rn rc)]).length = gm + 1 := by simp; omega
  have hset : (xs ++ [(left, Value.slice ra rn rc)]).set gm (below left g.nons, .slice ra rn rc) = xs ++ [(below left g.nons, .slice ra rn rc)] := by
    rw [List.set_append_right _ _ (by omega), show gm - xs.length = 0 by omega]; rfl
  generalize hys : xs ++ [(left, Value.slice ra rn rc)] = ys at *
  have hfl := flatR_len ys
  refine ze hT zr zr zr zr zr ?_; refine zs hT 3 0 zr zr zr zr zr zr zr zr zr zr zr zr ?_; refine WT.nil ?_
  refine ⟨(by repeat (first | exact trivial | refine recs_pair rfl rfl (by first | exact keep0 | exact keep1 (keeps_frz (by assumption)) | exact kp 0 0 me me | exact kp 1 1 me me | exact kp 2 2 me me | exact kp 3 3 me me | exact kp 4 4 me me | exact kp 5 5 me me | exact kp 6 6 me me | exact kp 0 1 me me | exact kp 1 2 me me | exact kp 2 3 me me | exact kp 3 4 me me | exact kp 4 5 me me | exact kp 5 6 me me | exact kp 6 7 me me | exact kp 0 2 me me | exact kp 1 3 me me | exact kp 2 4 me me | exact kp 3 5 me me | exact kp 4 6 me me | exact kp 0 3 me me | exact kp 1 4 me me | exact kp 2 5 me me | exact kp 3 6 me me | exact kp 4 7 me me) ?_)), ?_⟩
  refine AW.seq ?_; refine AW.reg ?_; refine ze hT zr zr zr zr zr ?_; refine zl hT 3 zr zr zr zr zr zr me zr ?_; refine ze hT zr zr zr zr zr ?_; refine zl hT 3 zr zr zr zr zr zr me zr ?_; refine ze hT zr zr zr zr zr ?_; refine WT.sub1 zr zr zr zr zr zr (by omega) ?_
  refine WT.know (v' := .int .i64 (gm : Nat)) 39 rfl (by congr 1) ?_
  refine WT.idxA (j := gm) (s := 2) hT zr zr zr zr zr zr zr zr zr (by omega) ?_
  refine ze hT zr zr zr zr zr ?_; refine WT.nil ?_; refine AW.seq ?_; refine AW.draw (ps := []) zr zr ?_; (iterate 4 refine ze hT zr zr zr zr zr ?_)
  refine WT.loadAt hT 4 zr zr zr zr zr zr (List.mem_cons_self ..) rfl rfl (v := .int .i64 left) (by simpa using c1) ?_
  refine ze hT zr zr zr zr zr ?_; refine zl hT 6 zr zr zr zr zr zr me zr ?_
  refine WT.callV Tryd.func28 zr zr zr zr zr zr (below_spec _ left g.nons (by omega) (by omega)) (fun v hv2 => ?_)
  subst hv2
  have hbl := below_lt (left : Int) (m := g.nons) (by omega)
  (iterate 2 refine ze hT zr zr zr zr zr ?_)
  refine WT.storeAt hT 4 0 zr zr zr zr zr zr zr zr zr zr (by omega) rfl rfl ?_
  rw [show (flatR ys).set (0 + gm * 2 + 0) (.int .i64 (below left g.nons : Nat)) = flatR (xs ++ [(below left g.nons, .slice ra rn rc)]) by rw [Nat.zero_add, Nat.add_zero, ← hset]; exact flatR_set _ hx]
  refine WT.nil ?_; refine And.intro trivial ?_; (iterate 2 refine AW.seq ?_); refine AW.reg ?_; (iterate 3 refine ze hT zr zr zr zr zr ?_)
  have hx2 : (xs ++ [(below left g.nons, Value.slice ra rn rc)])[gm]? = some (below left g.nons, .slice ra rn rc) := by rw [hxl, List.getElem?_append_right (Nat.le_refl _)]; simp
  obtain ⟨c3, c4⟩ := flatR_get hx2
  have hzl : (xs ++ [(below left g.nons, Value.slice ra rn rc)]).length = gm + 1 := by simp; omega
  generalize hzs : xs ++ [(below left g.nons, Value.slice ra rn rc)] = zs at *
  skip
  refine WT.loadAt hT 4 zr zr zr zr zr zr (List.mem_cons_self ..) rfl rfl (v := .slice ra rn rc) (by simpa using c4) ?_
  have hrn := hvec.len
  (iterate 2 refine ze hT zr zr zr zr zr ?_); refine WT.nil ?_
  refine AW.range (S := MoS) (fun _ => []) (fun z => [(i8, .cells false [.int .i64 g.terms, .int .i64 g.nons, .int .i64 g.start, .slice (some ⟨it, 0, none⟩) (gm + 1) 2])] :: [(it, .cells false (flatR zs))] :: z.B :: Bs :: [(i7, .cells false [.int .i64 g.terms, .int .i64 g.nons, .int .i64 g.start, .slice ga gm gc])] :: own)
    (fun j z G => Vec tSym G ra rn rc z.B z.cur ∧ z.cur = (right.take j).map (fixSym g.terms g.nons) ++ right.drop j) rn ⟨right, Br⟩
    zr zr zr zr zr zr zr zr zr (by omega) rfl rfl (fun _ => rfl) (fun _ => rfl) (SubK.of_map rfl) (OwnLe.trans (OwnLe.perm (perm_to2 _ _ _ _)) (OwnLe.skip _ (OwnLe.skip _ (OwnLe.refl _)))) ⟨hvec, by simp⟩ ?_ ?_
  · rintro j ⟨zcur, zB⟩ F4 hF4 hj ⟨hz1, hz2⟩
    have hz1 : Vec tSym F4 ra rn rc zB zcur := hz1
    have hz2 : zcur = (right.take j).map (fixSym g.terms g.nons) ++ right.drop j := hz2
    obtain ⟨y, hy⟩ : ∃ y, right[j]? = some y := ⟨_, List.getElem?_eq_getElem (by omega)⟩
    have hyc : zcur[j]? = some y := by rw [hz2]; exact part_map _ hy
    have hcl : zcur.length = rn := hz1.len.symm
    have hfs := flatS_len zcur
    obtain ⟨ir, cs', e1, e2, e3, _⟩ := hz1.at_ hyc
    have e4 := cells_flatS e3
    obtain ⟨d1, d2⟩ := flatS_get hyc
    subst e2 e4 e1
    refine AW.seq ?_; refine AW.reg ?_; (iterate 2 refine ze hT zr zr zr zr zr ?_); refine WT.nil ?_; refine AW.seq ?_; refine AW.reg ?_; (iterate 3 refine ze hT zr zr zr zr zr ?_)
    refine WT.loadAt hT 1 zr zr zr zr zr zr (List.mem_cons_self ..) rfl rfl (v := .slice (some ⟨ir, 0, none⟩) rn rc) (by simpa using c4) ?_
    refine ze hT zr zr zr zr zr ?_
    refine WT.idxA (j := j) (s := 2) hT zr zr zr zr zr zr zr zr zr (by omega) ?_
    refine ze hT zr zr zr zr zr ?_; refine WT.nil ?_; refine AW.seq ?_; refine AW.reg ?_; (iterate 3 refine ze hT zr zr zr zr zr ?_)
    refine WT.loadAt hT 2 zr zr zr zr zr zr (List.mem_cons_self ..) rfl rfl (v := .bool y.term) (by simpa using d1) ?_
    refine WT.nil ?_
    have done_ : ∀ (b : Nat), b = (if y.term = true then below y.n g.terms else below y.n g.nons) → Vec tSym F4 (some ⟨ir, 0, none⟩) rn rc [(ir, .cells false (flatS (zcur.set j ⟨y.term, b⟩)))] (zcur.set j ⟨y.term, b⟩) ∧ zcur.set j ⟨y.term, b⟩ = (right.take (j + 1)).map (fixSym g.terms g.nons) ++ right.drop (j + 1) := by
      intro b hb
      refine ⟨⟨by rw [List.length_set]; exact hz1.len, hz1.cap, hz1.zero, hz1.nil, hz1.spot, .inr ⟨ir, _, rfl, rfl, flatS_cells _, by decide⟩⟩, ?_⟩
      have e : (⟨y.term, b⟩ : Sym) = fixSym g.terms g.nons y := by unfold fixSym; rw [hb]
      have hz3 : zcur = (right.take j).map (fixSym g.terms g.nons) ++ right.drop j := hz2
      rw [e, hz3]
      exact part_map_set _ hy
    refine AW.cond rfl (fun ht => ?_) (fun ht => ?_)
    · have ht : y.term = true := by simpa using ht
      refine AW.draw (ps := []) zr zr ?_; (iterate 4 refine ze hT zr zr zr zr zr ?_)
      refine WT.loadAt hT 2 zr zr zr zr zr zr (List.mem_cons_self ..) rfl rfl (v := .int .i64 y.n) (by simpa using d2) ?_
      refine ze hT zr zr zr zr zr ?_; refine zl hT 4 zr zr zr zr zr zr me zr ?_
      refine WT.callV Tryd.func28 zr zr zr zr zr zr (below_spec _ y.n g.terms (by omega) (by omega)) (fun v hv2 => ?_)
      subst hv2
      (iterate 2 refine ze hT zr zr zr zr zr ?_)
      refine WT.storeAt hT 2 0 zr zr zr zr zr zr zr zr zr zr (by omega) rfl rfl ?_
      rw [show (flatS zcur).set (0 + j * 2 + 1) (.int .i64 (below (y.n : Int) g.terms : Nat)) = flatS (zcur.set j ⟨y.term, below y.n g.terms⟩) by rw [Nat.zero_add]; exact flatS_set _ hyc]
      refine WT.nil ?_; refine And.intro trivial ?_
      exact ⟨⟨_, _⟩, SubK.of_map rfl, OwnLe.refl _, done_ _ (by rw [if_pos ht])⟩
    · have ht : y.term = false := by simpa using ht
      refine AW.draw (ps := []) zr zr ?_; (iterate 4 refine ze hT zr zr zr zr zr ?_)
      refine WT.loadAt hT 2 zr zr zr zr zr zr (List.mem_cons_self ..) rfl rfl (v := .int .i64 y.n) (by simpa using d2) ?_
      refine ze hT zr zr zr zr zr ?_; refine zl hT 4 zr zr zr zr zr zr me zr ?_
      refine WT.callV Tryd.func28 zr zr zr zr zr zr (below_spec _ y.n g.nons (by omega) (by omega)) (fun v hv2 => ?_)
      subst hv2
      (iterate 2 refine ze hT zr zr zr zr zr ?_)
      refine WT.storeAt hT 2 0 zr zr zr zr zr zr zr zr zr zr (by omega) rfl rfl ?_
      rw [show (flatS zcur).set (0 + j * 2 + 1) (.int .i64 (below (y.n : Int) g.nons : Nat)) = flatS (zcur.set j ⟨y.term, below y.n g.nons⟩) by rw [Nat.zero_add]; exact flatS_set _ hyc]
      refine WT.nil ?_; refine And.intro trivial ?_
      exact ⟨⟨_, _⟩, SubK.of_map rfl, OwnLe.refl _, done_ _ (by rw [if_neg (by rw [ht]; simp)])⟩
  · intro z F4 hF4 hP
    obtain ⟨hz1, hz2⟩ := hP
    rw [List.take_of_length_le (by omega), List.drop_of_length_le (by omega), List.append_nil] at hz2
    have hF24 := hF2.trans (hF3.trans hF4)
    have hL4 := hL1.mono hF24
    refine AW.seq ?_; refine AW.reg ?_; refine zl hT 4 zr zr zr zr zr zr me zr ?_; refine ze hT zr zr zr zr zr ?_
    refine WT.callF0 Tryd.func32 zr zr zr zr zr zr (mcount_spec _ hL4 g hv (hr.mono hF24) (hw.mono hF24) (by omega) hw2) (fun F5 v hF5 hv5 => ?_)
    obtain ⟨cn, rfl, hcn⟩ := hv5
    have hL5 := hL4.mono hF5
    generalize hr' : (⟨below left g.nons, right.map (fixSym g.terms g.nons)⟩ : Rule) = r'
    have hnew : NewRule g r' := by
      subst hr'
      refine ⟨hbl, by show (right.map _).length ≤ 4; rw [List.length_map]; omega, fun y hy => ?_⟩
      obtain ⟨y0, _, rfl⟩ := List.mem_map.1 hy
      exact fixSym_ok (by omega) (by omega) y0
    have hRn : Rights F5 zs (Bs ++ z.B) (g.rules ++ [r']) := by
      subst hzs hr'
      exact Rights.snoc (r := ⟨below left g.nons, right.map (fixSym g.terms g.nons)⟩) (by rw [← hz2]; exact hz1.mono hF5) (((hR.mono hF3).mono hF4).mono hF5)
    have hbz : Bld tRuleC F5 (some ⟨it, 0, none⟩) (gm + 1) 2 [(it, .cells false (flatR zs))] zs := ⟨hzl.symm, .inr ⟨it, _, rfl, rfl, rfl, flatR_cells _ hRn.one, by decide⟩⟩
    refine WT.freezeAll 1 rfl rfl (fun F6 hF6 hB6 => ?_)
    refine WT.freezeAll 2 rfl rfl (fun F7 hF7 hB7 => ?_)
    refine WT.freezeAll 3 rfl rfl (fun F8 hF8 hB8 => ?_)
    have hF58 := hF6.trans (hF7.trans hF8)
    have hbr : Bld tRule F8 (some ⟨it, 0, none⟩) (gm + 1) 2 [(it, .cells false (flatR zs))] (moreG g r').rules := bld_rules hF58 hbz hRn fun i b hm => by
      rcases List.mem_append.1 hm with hm | hm
      · exact hB8 i b hm
      · exact hF8 _ _ (hB7 i b hm)
    have hra := hbr.frozen (Frz.le.refl _) fun i b hm => hF8 _ _ (hF7 _ _ (hB6 i b hm))
    have hL8 := hL5.mono hF58
    have hw8 := ((hw.mono hF24).mono hF5).mono hF58
    (iterate 5 refine ze hT zr zr zr zr zr ?_); refine WT.nil ?_; refine AW.seq ?_; refine AW.reg ?_; refine zl hT 0 zr zr zr zr zr zr me zr ?_; refine ze hT zr zr zr zr zr ?_
    by_cases hin : r' ∈ g.rules
    · refine WT.callF0 Tryd.func32 zr zr zr zr zr zr (mcountE_spec _ (moreG g r') (more_range hv (by omega) hnew) (more_twice hv hin) hra _) (fun F9 v hF9 hv9 => ?_)
      subst hv9
      have hL9 := hL8.mono hF9
      (iterate 5 refine ze hT zr zr zr zr zr ?_); refine WT.nil ?_; (iterate 2 refine AW.seq ?_); refine AW.reg ?_; (iterate 2 refine ze hT zr zr zr zr zr ?_); refine WT.nil ?_
      refine AW.cond rfl (fun _ => ?_) (fun h => (by cases h))
      refine AW.seq ?_; refine AW.reg ?_
      refine WT.callV Tryd.func33 zr zr zr zr zr zr (Abs.Spec.fact rfl hL9) (fun v hv => ?_)
      subst hv
      (iterate 5 refine ze hT zr zr zr zr zr ?_); refine WT.nil ?_
      refine AW.ret ⟨_, [], ⟨_, _, rfl, rfl, rfl⟩, (by repeat (first | exact List.Sublist.refl _ | refine List.Sublist.cons _ ?_)), rfl, ?_⟩
      simp [tupleA]
    · refine WT.callF0 Tryd.func32 zr zr zr zr zr zr (mcount_spec _ hL8 (moreG g r') (more_valid hv (by omega) hnew hin) hra hw8 (by omega) hw2) (fun F9 v hF9 hv9 => ?_)
      obtain ⟨cm, rfl, hcm⟩ := hv9
      have hL9 := hL8.mono hF9
      (iterate 5 refine ze hT zr zr zr zr zr ?_); refine WT.nil ?_; (iterate 2 refine AW.seq ?_); refine AW.reg ?_; (iterate 2 refine ze hT zr zr zr zr zr ?_); refine WT.nil ?_
      refine AW.cond rfl (fun h => (by cases h)) (fun _ => ?_)
      refine AW.skip ?_; refine AW.seq ?_; refine AW.reg ?_
      refine WT.callV Tryd.func33 zr zr zr zr zr zr (Abs.Spec.fact rfl hL9) (fun v hv => ?_)
      subst hv
      (iterate 11 refine ze hT zr zr zr zr zr ?_)
      refine WT.callV Tryd.func34 zr zr zr zr zr zr (fewer_spec _ cn cm) (fun v hv => ?_)
      subst hv
      rw [count_fewer (fun d => symT_mono g w d _ _ _) (fun d => symT_more g r' w d _ _ _) hcn hcm]
      (iterate 2 refine ze hT zr zr zr zr zr ?_); refine WT.nil ?_
      refine AW.ret ⟨_, [], ⟨_, _, rfl, rfl, rfl⟩, (by repeat (first | exact List.Sublist.refl _ | refine List.Sublist.cons _ ?_)), rfl, ?_⟩
      simp [tupleA]
end Go.Proofs.D

