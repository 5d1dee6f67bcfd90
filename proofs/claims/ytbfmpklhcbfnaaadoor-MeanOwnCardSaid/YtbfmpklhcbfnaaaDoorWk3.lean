/-
  Walks: what functions of the program do, over the abstract machine.
-/
import Derived.Test.YtbfmpklhcbfnaaaDoorWk2
set_option linter.unusedVariables false
set_option maxRecDepth 20000
set_option maxHeartbeats 0
open Go Go.Abs Go.Proofs Go.Proofs.D
namespace Go.Proofs.D

/-! ### trees, all of them one's own -/
def tTC : Ty (List Value) where
  size := 3
  rel := fun _ l x => l = x ∧ x.length = 3 ∧ x.all Go.Abs.one = true
  len := fun _ _ _ h => by rw [h.1]; exact h.2.1
  one := fun _ _ _ h => by rw [h.1]; exact h.2.2
  mono := fun _ _ _ _ _ h => h

def E0 : Frz := fun _ => none

theorem cellsT {F G : Frz} {cs : List Value} {ps : List (List Value)} (h : Cells tTC F cs ps) : Cells tTC G cs ps := by
  induction h with
  | nil => exact .nil
  | cons h _ ih => exact .cons h ih

theorem bldT {F G : Frz} {a : Option Addr} {n c : Nat} {B : List (Nat × Blk)} {ps : List (List Value)} (h : Bld tTC F a n c B ps) : Bld tTC G a n c B ps :=
  ⟨h.len, h.at_.imp id fun ⟨i, cs, h1, h2, h3, h4, h5⟩ => ⟨i, cs, h1, h2, h3, cellsT h4, h5⟩⟩

mutual
inductive TOwn : List Value → List (Nat × Blk) → Tree → Prop
  | mk {r : Int} {t : Nat} {ks : List Tree} {a : Option Addr} {n c : Nat} {B bs : List (Nat × Blk)} {css : List (List Value)} : Bld tTC E0 a n c B css → TOwnL css bs ks → ks.length ≤ 1000000 → TOwn [.int .i64 r, .int .i64 t, .slice a n c] (B ++ bs) (.mk r t ks)
inductive TOwnL : List (List Value) → List (Nat × Blk) → List Tree → Prop
  | nil : TOwnL [] [] []
  | cons {cs : List Value} {B : List (Nat × Blk)} {t : Tree} {css : List (List Value)} {bs : List (Nat × Blk)} {ts : List Tree} : TOwn cs B t → TOwnL css bs ts → TOwnL (cs :: css) (B ++ bs) (t :: ts)
end

theorem TOwn.shape {cs : List Value} {B : List (Nat × Blk)} {t : Tree} (h : TOwn cs B t) : cs.length = 3 ∧ cs.all Go.Abs.one = true := by
  cases h; exact ⟨rfl, rfl⟩

theorem TOwnL.len : ∀ {css : List (List Value)} {bs : List (Nat × Blk)} {ts : List Tree}, TOwnL css bs ts → css.length = ts.length
  | _, _, _, .nil => rfl
  | _, _, _, .cons _ h => by simp [TOwnL.len h]

theorem TOwnL.snoc {cs : List Value} {B : List (Nat × Blk)} {t : Tree} (h : TOwn cs B t) : ∀ {css : List (List Value)} {bs : List (Nat × Blk)} {ts : List Tree}, TOwnL css bs ts → TOwnL (css ++ [cs]) (bs ++ B) (ts ++ [t])
  | _, _, _, .nil => by simpa using TOwnL.cons h .nil
  | _, _, _, .cons h1 h2 => by
    rw [List.append_assoc]
    exact .cons h1 (TOwnL.snoc h h2)

mutual
theorem TOwn.frozen {G : Frz} : ∀ {t : Tree} {cs : List Value} {B : List (Nat × Blk)}, TOwn cs B t → (∀ i b, (i, b) ∈ B → G i = some b) → tTree.rel G cs t
  | .mk _ _ ks, _, _, .mk hb hL hk, hB => tTree_mk (TOwnL.frozen hb hL (fun i b hm => hB i b (List.mem_append_left _ hm)) (fun i b hm => hB i b (List.mem_append_right _ hm))) hk
theorem TOwnL.cells {G : Frz} : ∀ {ts : List Tree} {css : List (List Value)} {bs : List (Nat × Blk)} {cs : List Value}, Cells tTC E0 cs css → TOwnL css bs ts → (∀ i b, (i, b) ∈ bs → G i = some b) → Cells tTree G cs ts
  | [], _, _, _, hc, .nil, _ => by cases hc; exact .nil
  | t :: ts, _, _, _, hc, .cons h1 h2, hB => by
    cases hc with
    | cons g1 g2 =>
      obtain ⟨rfl, _⟩ := g1
      exact .cons (TOwn.frozen h1 fun i b hm => hB i b (List.mem_append_left _ hm)) (TOwnL.cells g2 h2 fun i b hm => hB i b (List.mem_append_right _ hm))
theorem TOwnL.frozen {G : Frz} : ∀ {ts : List Tree} {css : List (List Value)} {bs : List (Nat × Blk)} {a : Option Addr} {n c : Nat} {B : List (Nat × Blk)}, Bld tTC E0 a n c B css → TOwnL css bs ts → (∀ i b, (i, b) ∈ B → G i = some b) → (∀ i b, (i, b) ∈ bs → G i = some b) → Arr tTree G a n c ts
  | ts, css, bs, a, n, c, B, hb, hL, hB, hB2 => by
    have hl := hb.len
    have hl2 := hL.len
    have : Bld tTree G a n c B ts := ⟨by omega, hb.at_.imp (fun ⟨h1, h2, h3, h4⟩ => ⟨List.eq_nil_of_length_eq_zero (by rw [← hl2, h1]; rfl), h2, h3, h4⟩) fun ⟨i, cs, h1, h2, h3, h4, h5⟩ => ⟨i, cs, h1, h2, h3, TOwnL.cells h4 hL hB2, by decide⟩⟩
    exact this.frozen (Frz.le.refl G) hB
end

theorem leafOwn_spec (F : Frz) (t : Nat) : Abs.Spec CC 120 [.int .i64 t] F [] fun F' v o => o = [] ∧ v = .agg ⟨[.int .i64 (-1), .int .i64 t, .slice none 0 0]⟩ := by
  refine Abs.Spec.fn (n := 5) Tryd.func120 rfl rfl fun own => ?_
  refine AW.seq (AW.reg ?_)
  refine WT.allocT hT zr zr zr zr zr zr (fun i2 hi2 => ?_)
  refine zA ?_; refine zs hT 0 0 zr zr zr zr zr zr zr zr zr zr zr zr ?_; refine WT.nil ?_
  exact AW.ret ⟨_, [], ⟨_, _, ⟨_, rfl, fun G h0 s0 => loadA_cells (s0.has (p := 0) rfl (List.mem_cons_self ..)) (readT_ok hT rfl)⟩, rfl, rfl⟩, zsb, rfl, rfl⟩

/-! ### plain -/
inductive Plain : Tree → Prop
  | leaf {t : Nat} : Plain (.mk (-1) t [])
  | node {r : Nat} {ks : List Tree} : (∀ k ∈ ks, Plain k) → Plain (.mk r 0 ks)

mutual
theorem NT.plain {f : Fo} : ∀ {T : Tree} {v : Nat}, NT f v T → Plain T
  | .mk _ _ _, _, .leaf _ _ => .leaf
  | .mk _ _ _, _, .node _ _ _ h => .node (NTs.plain h)
theorem NTs.plain {f : Fo} : ∀ {ts : List Tree} {ks : List Nat}, NTs f ks ts → ∀ t ∈ ts, Plain t
  | [], _, _, t, h => by cases h
  | t0 :: ts, _, .cons h1 h2, t, h => by
    rcases List.mem_cons.1 h with e | h
    · rw [e]; exact NT.plain h1
    · exact NTs.plain h2 t h
end

theorem perm_cpT {α : Type} (x a b c l : List α) : (x ++ (a ++ (b ++ (c ++ l)))).Perm (a ++ (b ++ (c ++ (x ++ l)))) := by
  have h := (List.perm_append_comm (l₁ := x) (l₂ := a ++ (b ++ c))).append_right l
  simpa [List.append_assoc] using h

structure PlS where
  a : Option Addr
  c : Nat
  B : List (Nat × Blk)
  css : List (List Value)
  bs : List (Nat × Blk)

theorem plain_spec : ∀ (N : Nat) (T : Tree), T.pre.length < N → Plain T → T.pre.length ≤ 100000 → ∀ (F : Frz) (p : Nat), Sh F p T →
    Abs.Spec CC 161 [.pointer (some ⟨p, 0, none⟩)] F [] fun F' v o => ∃ B', o = [B'] ∧ ∃ cs, v = .agg ⟨cs⟩ ∧ TOwn cs B' T
  | 0, _, h, _, _, _, _, _ => by omega
  | N + 1, T, hN, hp, hT1, F, p, hs => by
    cases hp with
    | @leaf t =>
      cases hs with
      | @mk _ _ _ _ a n c ps g1 g2 g3 =>
      refine Abs.Spec.fn (n := 39) Tryd.func161 rfl rfl fun own => ?_
      refine AW.seq (AW.reg ?_)
      refine WT.allocT hT zr zr zr zr zr zr (fun i2 hi2 => ?_)
      refine zA ?_; refine zf hT (by assumption) zr zr zr zr zr zr ?_; refine zA ?_
      refine AW.cond rfl (fun _ => ?_) (fun h => (by cases h))
      refine zA ?_; refine zf hT (by assumption) zr zr zr zr zr zr ?_
      refine WT.callV Tryd.func120 zr zr zr zr zr zr (leafOwn_spec _ t) (fun v hv => ?_)
      subst hv
      refine zs hT 0 0 zr zr zr zr zr zr zr zr zr zr zr zr ?_; refine WT.nil ?_
      refine AW.le (own2 := [] :: [(i2, .cells false [.int .i64 (-1), .int .i64 t, .slice none 0 0])] :: own) (OwnLe.flat (List.Perm.refl _)) ?_
      exact AW.ret ⟨_, [[]], ⟨_, _, ⟨_, rfl, fun G h0 s0 => loadA_cells (s0.has (p := 1) rfl (List.mem_cons_self ..)) (readT_ok hT rfl)⟩, rfl, rfl⟩, List.Sublist.cons_cons _ (List.Sublist.cons _ (List.Sublist.refl _)), _, rfl, _, rfl, TOwn.mk (B := []) (bs := []) (Bld.nil_ _ _) .nil (by simp)⟩
    | @node r ks hks =>
      cases hs with
      | @mk _ _ _ _ a n c ps g1 g2 g3 =>
      have hal := g2.len
      have hsl := g3.len
      have hkl := preL_ge ks
      have hpe : (Tree.mk (r : Int) 0 ks).pre.length = (preL ks).length + 1 := rfl
      refine Abs.Spec.fn (n := 39) Tryd.func161 rfl rfl fun own => ?_
      refine AW.seq (AW.reg ?_)
      refine WT.allocT hT zr zr zr zr zr zr (fun i2 hi2 => ?_)
      refine zA ?_; refine zf hT (by assumption) zr zr zr zr zr zr ?_; refine zA ?_
      refine AW.cond rfl (fun h => ?_) (fun _ => ?_)
      · exfalso; simp at h; omega
      refine zA ?_; refine zf hT (by assumption) zr zr zr zr zr zr ?_; refine zA ?_
      refine WT.allocT hT zr zr zr zr zr zr (fun i3 hi3 => ?_)
      refine zs hT 0 0 zr zr zr zr zr zr zr zr zr zr zr zr ?_; refine zA ?_; refine zf hT (by assumption) zr zr zr zr zr zr ?_; refine zA ?_
      refine AW.range (S := PlS) (fun _ => []) (fun s => s.B :: [(i3, .cells false [.int .i64 r, .int .i64 0, .slice s.a s.css.length s.c])] :: s.bs :: [(i2, .cells false [.int .i64 0, .int .i64 0, .slice none 0 0])] :: own)
        (fun j s G => Bld tTC E0 s.a s.css.length s.c s.B s.css ∧ TOwnL s.css s.bs (ks.take j)) n ⟨none, 0, [], [], []⟩
        zr zr zr zr zr zr zr zr zr zo rfl rfl (fun _ => rfl) (fun _ => rfl) (SubK.of_map rfl) (OwnLe.flat (List.Perm.refl _)) ⟨Bld.nil_ _ _, .nil⟩ ?_ ?_
      · intro j s F1 hF1 hj hP
        obtain ⟨hb, hL⟩ := hP
        have hLl := hL.len
        rw [List.length_take] at hLl
        have g2' := g2.mono hF1
        obtain ⟨k, hk⟩ : ∃ k, ks[j]? = some k := ⟨_, List.getElem?_eq_getElem zo⟩
        have hkm := List.mem_of_getElem? hk
        have hkp := preL_mem hkm
        refine zA ?_
        refine WT.idxL hT g2' zr zr zr zr zr zr zr zr zr zo (fun q hq b9 off9 ro9 cs9 lx9 hb9 hp9 hrel9 => ?_)
        obtain rfl : lx9 = _ := hrel9
        have hsq := (g3.at_ hq hk).mono hF1
        refine zi (fo := 0) hT (by assumption) (by assumption) zr zr zr zr zr zr ?_; refine zA ?_
        refine AW.draw (ps := [(1, 3), (1, 4)]) rfl rfl ?_
        refine zA ?_; refine zl hT 1 zr zr zr zr zr zr me zr ?_; refine zA ?_
        refine WT.callN Tryd.func161 zr zr zr zr zr zr (plain_spec N k zo (hks k hkm) zo F1 q hsq) (fun F2 v B2 hF2 hv => ?_)
        obtain ⟨cs, rfl, hcs⟩ := hv
        obtain ⟨hc3, hc1⟩ := hcs.shape
        obtain ⟨x1, x2, x3, rfl⟩ : ∃ x1 x2 x3, cs = [x1, x2, x3] := by
          match cs, hc3 with
          | [x1, x2, x3], _ => exact ⟨x1, x2, x3, rfl⟩
        skip
        refine WT.buildT hT zr zr zr zr zr zr zr zr zr zr zr zr zr zr (fun i9 hi9 => ?_)
        refine WT.appendT (R := tTC) (ys := [[x1, x2, x3]]) hT 2 (bldT hb) rfl (fun _ => rfl) zr zr zr zr zr zr zr zr zr zr zr (fun h0 s0 => news_own hT s0 0 zr zr zr zr) (Cells.single (R := tTC) ⟨rfl, rfl, hc1⟩) rfl (by decide) zom (fun a3 c3 B3 hB3 => ?_)
        refine zA ?_; refine zs hT 3 0 zr zr zr zr zr zr zr zr zr zr zr zr ?_; refine WT.nil ?_
        refine ⟨zrA, ?_⟩
        refine ⟨⟨a3, c3, B3, s.css ++ [[x1, x2, x3]], s.bs ++ B2⟩, SubK.of_map rfl, ?_, by show Bld tTC E0 a3 (s.css ++ [[x1, x2, x3]]).length c3 B3 _; rw [List.length_append]; exact bldT hB3, by rw [List.take_add_one, hk]; exact hL.snoc hcs⟩
        · show OwnLe (B3 :: [(i3, .cells false [.int .i64 r, .int .i64 0, .slice a3 (s.css ++ [[x1, x2, x3]]).length c3])] :: (s.bs ++ B2) :: _) _
          rw [List.length_append]
          refine OwnLe.skip _ (OwnLe.flat ?_)
          simp only [List.flatten_cons, List.append_assoc]
          exact perm_cpT _ _ _ _ _
      · intro s F1 hF1 hP
        obtain ⟨hb, hL⟩ := hP
        rw [List.take_of_length_le zo] at hL
        refine zA ?_; refine zl hT 1 zr zr zr zr zr zr me zr ?_; refine zs hT 3 0 zr zr zr zr zr zr zr zr zr zr zr zr ?_; refine WT.nil ?_
        refine AW.le (own2 := [(i2, .cells false [.int .i64 r, .int .i64 0, .slice s.a s.css.length s.c])] :: (s.B ++ s.bs) :: own) (OwnLe.trans (OwnLe.flat ?_) (OwnLe.cons _ (OwnLe.skip _ (OwnLe.refl _)))) ?_
        · have := List.perm_middle (a := (i2, Blk.cells false [.int .i64 r, .int .i64 0, .slice s.a s.css.length s.c])) (l₁ := s.B ++ s.bs) (l₂ := own.flatten)
          simpa [List.append_assoc] using this
        refine AW.ret ⟨_, [_], ⟨_, _, ⟨_, rfl, fun G h0 s0 => loadA_cells (s0.has (p := 0) rfl (List.mem_cons_self ..)) (readT_ok hT rfl)⟩, rfl, rfl⟩, List.Sublist.cons _ (List.Sublist.refl _), _, rfl, _, rfl, TOwn.mk hb hL zo⟩

/-- What a reading may answer: nothing, or a tree. -/
def ResOk (g : Gram) (w : List Nat) (F : Frz) (s : Sym) (i : Nat) (v : Value) : Prop :=
  v = .agg ⟨[.pointer none, .int .i64 (-1)]⟩ ∨ ∃ b ro cs t j, v = .agg ⟨[.pointer (some ⟨b, 0, none⟩), .int .i64 (j : Nat)]⟩ ∧ F b = some (.cells ro cs) ∧ tTree.rel F cs t ∧ TreeOf g w s t i j

theorem ResOk.mono {g : Gram} {w : List Nat} {F G : Frz} {s : Sym} {i : Nat} {v : Value} (h : ResOk g w F s i v) (hF : Frz.le F G) : ResOk g w G s i v := by
  rcases h with h | ⟨b, ro, cs, t, j, h1, h2, h3, h4⟩
  · exact .inl h
  · exact .inr ⟨b, ro, cs, t, j, h1, hF _ _ h2, tTree.mono _ _ _ _ hF h3, h4⟩

def MemoOk (g : Gram) (w : List Nat) (F : Frz) (es : Ents (Nat × Nat)) : Prop := ∀ n i v, Abs.look es (n, i) = some v → ResOk g w F ⟨false, n⟩ i v

theorem MemoOk.mono {g : Gram} {w : List Nat} {F G : Frz} {es : Ents (Nat × Nat)} (h : MemoOk g w F es) (hF : Frz.le F G) : MemoOk g w G es := fun n i v q => (h n i v q).mono hF

structure PA where
  p : Nat
  im : Nat
  a : Option Addr
  m : Nat
  c : Nat
  b : Option Addr
  k : Nat
  d : Nat

structure ParserAt (F : Frz) (x : PA) (g : Gram) (w : List Nat) : Prop where
  blk : ∃ ro, F x.p = some (.cells ro [.int .i64 g.terms, .int .i64 g.nons, .int .i64 g.start, .slice x.a x.m x.c, .slice x.b x.k x.d, .map (some x.im)])
  rules : Arr tRule F x.a x.m x.c g.rules
  word : Arr tNat F x.b x.k x.d w

theorem ParserAt.mono {F G : Frz} {x : PA} {g : Gram} {w : List Nat} (h : ParserAt F x g w) (hF : Frz.le F G) : ParserAt G x g w :=
  ⟨let ⟨ro, q⟩ := h.blk; ⟨ro, hF _ _ q⟩, h.rules.mono hF, h.word.mono hF⟩

def Memo (g : Gram) (w : List Nat) (x : PA) (F : Frz) (B : List (Nat × Blk)) : Prop := ∃ es, B = [(x.im, .map (entsV keyP es))] ∧ MemoOk g w F es

theorem Memo.mono {g : Gram} {w : List Nat} {x : PA} {F G : Frz} {B : List (Nat × Blk)} (h : Memo g w x F B) (hF : Frz.le F G) : Memo g w x G B := by
  obtain ⟨es, e, h⟩ := h; exact ⟨es, e, h.mono hF⟩

/-- Two ways meet: what is still known is told anew. -/
def meetQ {S : Type} (kn : S → Kno) (ow : S → Own) (P : S → Frz → Prop) (A : Ex → Kno → Frz → Own → Prop) : Ex → Kno → Frz → Own → Prop
  | .normal, k', F', own' => ∃ s, SubK (kn s) k' ∧ OwnLe (ow s) own' ∧ P s F'
  | x, k', F', own' => A x k' F' own'

theorem joinT {C : Ctx} {n : Nat} {k : Kno} {F : Frz} {own : Own} {A : Ex → Kno → Frz → Own → Prop} {S : Type} (kn : S → Kno) (ow : S → Own) (P : S → Frz → Prop) {a b : Code} (h1 : AW C n a k F own (meetQ kn ow P A))
    (h2 : ∀ s F', Frz.le F F' → P s F' → AW C n b (kn s) F' (ow s) A) : AW C n a k F own (thenQ (fun k' F' own' => AW C n b k' F' own' A) A) := by
  refine AW.mono h1 fun x k' F' own' hF hx => ?_
  cases x with
  | normal =>
    obtain ⟨s, q1, q2, q3⟩ := hx
    exact AW.weaken q1 (AW.le q2 (h2 s F' hF q3))
  | exit id => exact hx
  | ret => exact hx

theorem joinK {C : Ctx} {n : Nat} {k : Kno} {F : Frz} {own : Own} {A : Ex → Kno → Frz → Own → Prop} {S : Type} (chg : S → Kno) (ow : S → Own) (P : S → Frz → Prop) {a b : Code} (h1 : AW C n a k F own (joinQ chg k ow P A))
    (h2 : ∀ s F', Frz.le F F' → P s F' → AW C n b (chg s ++ k) F' (ow s) A) : AW C n a k F own (thenQ (fun k' F' own' => AW C n b k' F' own' A) A) :=
  joinT (fun s => chg s ++ k) ow P h1 h2

structure PI where
  ks : List Tree
  a : Option Addr
  c : Nat
  Bk : List (Nat × Blk)
  B : List (Nat × Blk)
  e : Int
  l : Nat

structure PO where
  q : Option Addr
  e : Int
  B : List (Nat × Blk)

/-! ### the lister's beginning -/

def initS (f : Fo) (j : Nat) : Lst := ⟨fun v => if v < j then (match f.leaf v with | some t => [.mk (-1) t []] | none => []) else [], [], fun _ => [], []⟩

theorem init_mem {f : Fo} {j v : Nat} {T : Tree} (h : T ∈ (initS f j).lists v) : v < j ∧ ∃ t, f.leaf v = some t ∧ T = .mk (-1) t [] := by
  unfold initS at h
  simp only at h
  split at h
  · rename_i hv
    split at h
    · rename_i t ht
      exact ⟨hv, t, ht, List.mem_singleton.1 h⟩
    · cases h
  · cases h

theorem init_none {f : Fo} {j v : Nat} (h : f.leaf v = none) : (initS f j).lists v = [] := by
  rw [List.eq_nil_iff_forall_not_mem]
  intro T hT
  obtain ⟨_, t, ht, _⟩ := init_mem hT
  rw [h] at ht; cases ht

theorem init_skip {f : Fo} {j : Nat} (h : f.leaf j = none) : initS f (j + 1) = initS f j := by
  unfold initS
  simp only [Lst.mk.injEq, and_true]
  funext v
  by_cases e : v = j
  · subst e
    rw [if_pos (Nat.lt_succ_self _), if_neg (Nat.lt_irrefl _), h]
  · by_cases h2 : v < j
    · rw [if_pos h2, if_pos zo]
    · rw [if_neg h2, if_neg zo]

theorem init_at {f : Fo} {j t : Nat} (h : f.leaf j = some t) : (initS f (j + 1)).lists j = [.mk (-1) t []] := by
  unfold initS
  simp only
  rw [if_pos (Nat.lt_succ_self _), h]

theorem init_ne {f : Fo} {j v : Nat} (h : v ≠ j) : (initS f (j + 1)).lists v = (initS f j).lists v := by
  unfold initS
  simp only
  by_cases h2 : v < j
  · rw [if_pos h2, if_pos zo]
  · rw [if_neg h2, if_neg zo]

theorem init_len (f : Fo) (j v : Nat) : ((initS f j).lists v).length ≤ 1 := by
  unfold initS
  simp only
  split
  · split <;> simp
  · simp

theorem init_inv (f : Fo) {most : Nat} (hm : 1 ≤ most) : Inv f most (initS f f.n) [] [] [] where
  ok := fun c hc => by cases hc
  snd := List.nodup_nil
  dsub := fun c hc => by cases hc
  psub := fun c hc => by cases hc
  dnd := List.nodup_nil
  pnd := List.nodup_nil
  qnd := List.nodup_nil
  wnd := fun _ => List.nodup_nil
  dq := fun c hc => by cases hc
  pq := fun c hc => by cases hc
  qw := fun c hc => by cases hc
  qok := fun c hc => by cases hc
  wok := fun w c hc => by cases hc
  cover := fun c hc => by cases hc
  next := fun c hc => by cases hc
  leafs := fun v t hv ht => by
    unfold initS
    simp only
    rw [if_pos hv, ht]
  from_ := fun v hv T hT => by rw [init_none hv] at hT; cases hT
  len := fun v => by have := init_len f f.n v; omega
  sorted := fun v => by
    have h := init_len f f.n v
    match (initS f f.n).lists v, h with
    | [], _ => exact .nil
    | [a], _ => exact List.pairwise_singleton _ _
    | _ :: _ :: _, h => simp at h
  ord := fun v hv x hx y hy => by cases hy
  valid := fun v T hT => by
    obtain ⟨h1, t, h2, rfl⟩ := init_mem hT
    exact .leaf h1 h2
  full := fun v hv hl => by rw [init_none hv] at hl; simp at hl; omega
  small := fun v T hT => by
    obtain ⟨h1, t, h2, rfl⟩ := init_mem hT
    show ([(-1 : Int)] ++ []).length ≤ 5000
    simp

/-! ### how many are listed -/
def tot (L : Nat → List Tree) (n : Nat) : Nat := ((List.range n).map fun v => (L v).length).sum

theorem tot_le {L : Nat → List Tree} {most : Nat} (h : ∀ v, (L v).length ≤ most) : ∀ n, tot L n ≤ n * most
  | 0 => by simp [tot]
  | n + 1 => by
    have ih := tot_le h n
    have := h n
    unfold tot at ih ⊢
    rw [List.range_succ, List.map_append, List.sum_append, Nat.add_mul]
    simp
    omega

theorem tot_upd (L : Nat → List Tree) {v : Nat} (T : Tree) : ∀ n, tot (updL L v T) n = tot L n + (if v < n then 1 else 0)
  | 0 => by simp [tot]
  | n + 1 => by
    have ih := tot_upd L (v := v) T n
    unfold tot at ih ⊢
    rw [List.range_succ, List.map_append, List.sum_append, List.map_append, List.sum_append, ih]
    simp only [List.map_cons, List.map_nil, List.sum_cons, List.sum_nil, Nat.add_zero]
    by_cases e : n = v
    · subst e
      rw [updL_same, List.length_append, if_neg (Nat.lt_irrefl _), if_pos (Nat.lt_succ_self _)]
      simp; omega
    · rw [updL_ne _ _ e]
      by_cases h : v < n
      · rw [if_pos h, if_pos zo]; omega
      · rw [if_neg h, if_neg zo]; omega

theorem rowsP_rep (F : Frz) : ∀ n, RowsP F (List.replicate n (.slice none 0 0)) [] (List.replicate n [])
  | 0 => .nil
  | n + 1 => by
    have := RowsP.cons (Bld.nil_ tPtr F) (rowsP_rep F n)
    simpa [List.replicate_succ] using this

/-- The packs of the first nodes. -/
def pks (Ns : List Node) (j : Nat) : Nat := ((Ns.take j).map fun x => x.packs.length).sum
theorem pks_succ {Ns : List Node} {j : Nat} {x : Node} (h : Ns[j]? = some x) : pks Ns (j + 1) = pks Ns j + x.packs.length := by
  unfold pks
  rw [List.take_add_one, h, List.map_append, List.sum_append]
  simp

theorem pks_mono {Ns : List Node} {j k : Nat} (h : j ≤ k) : pks Ns j ≤ pks Ns k := by
  induction k with
  | zero => obtain rfl : j = 0 := by omega
            exact Nat.le_refl _
  | succ k ih =>
    rcases Nat.lt_or_ge j (k + 1) with h2 | h2
    · refine Nat.le_trans (ih zo) ?_
      cases hx : Ns[k]? with
      | none =>
        unfold pks
        rw [List.take_add_one, hx]; simp
      | some x => rw [pks_succ hx]; omega
    · obtain rfl : j = k + 1 := by omega
      exact Nat.le_refl _

structure TRes (Ns : List Node) (root most : Nat) (L : List Tree) (c : Int) : Prop where
  firsts : Firsts (foOf Ns) root most L
  count : CountVal (fun d => nodeT Ns d root) c

theorem perm_turn3 {α : Type} (a b c : α) (l : List α) : (a :: b :: c :: l).Perm (c :: b :: a :: l) :=
  ((List.Perm.swap b a _).trans (List.Perm.cons b (List.Perm.swap c a l))).trans (List.Perm.swap c b _)

theorem perm_cpU {α : Type} (x a b l : List α) : (x ++ (a ++ (b ++ l))).Perm (a ++ (b ++ (x ++ l))) := by
  have h := (List.perm_append_comm (l₁ := x) (l₂ := a ++ b)).append_right l
  simpa [List.append_assoc] using h

structure PlT where
  a : Option Addr
  n : Nat
  c : Nat
  B : List (Nat × Blk)
  css : List (List Value)
  bs : List (Nat × Blk)

structure LsS where
  r : LR
  s : Lst
  done : List Cand

theorem ctrees_spec (F : Frz) {Ns : List Node} (hf : (foOf Ns).Good) (hok : FOk Ns) (hpr : Prod Ns) {na : Option Addr} {nn nc : Nat} (hN : Arr tNode F na nn nc Ns) (root : Nat) (hroot : root < Ns.length) (hrl : (foOf Ns).leaf root = none) (hlp : ∀ v, (foOf Ns).leaf v ≠ none → (foOf Ns).packs v = []) (hPS : pks Ns Ns.length ≤ 200000000000) {most : Nat} (hm1 : 1 ≤ most) (hm : most ≤ 100) :
    Abs.Spec CC 108 [.agg ⟨[.slice na nn nc, .int .i64 root]⟩, .int .i64 most] F [] fun F' v o => ∃ B', o = [B'] ∧ ∃ L c, TRes Ns root most L c ∧
      (((L.length = most ∨ (c ≠ -1 ∧ c ≤ L.length)) ∧ ∃ a n d B css bs, v = .tuple ⟨[.slice a n d, .bool true]⟩ ∧ B' = B ++ bs ∧ Bld tTC E0 a n d B css ∧ TOwnL css bs L) ∨
       (L.length < most ∧ (c = -1 ∨ (L.length : Int) < c) ∧ v = .tuple ⟨[.slice none 0 0, .bool false]⟩)) := by
  have hNl := hN.len
  have hfew := hok.few
  refine Abs.Spec.fn (n := 161) Tryd.func108 rfl rfl fun own => ?_
  refine AW.seq (AW.reg ?_)
  refine WT.boxT zr zr zr zr zr zr (fun i2 hi2 => ?_)
  refine zA ?_; refine zl hT 0 zr zr zr zr zr zr me zr ?_; refine zA ?_
  refine AW.cond rfl (fun h => ?_) (fun _ => ?_)
  · exfalso; simp at h; omega
  refine zA ?_
  refine AW.draw (ps := [(0, 5), (0, 6), (0, 7), (3, 6), (3, 7), (4, 6), (4, 7)]) rfl rfl ?_
  refine zl hT 0 zr zr zr zr zr zr me zr ?_; refine zA ?_; refine zl hT 0 zr zr zr zr zr zr me zr ?_; refine zA ?_
  refine WT.makeT (by_ := 24) hT zr zr zr zr zr zr zr zr zr zr zr zr zo (fun lo hlo => ?_)
  refine WT.makeMap zr zr zr zr (fun is his => ?_)
  refine WT.makeMap zr zr zr zr (fun iw hiw => ?_)
  refine zA ?_
  refine WT.boxT zr zr zr zr zr zr (fun li hli => ?_)
  refine zA ?_
  refine ⟨zrA, ?_⟩
  refine zA ?_; refine zl hT 4 zr zr zr zr zr zr me zr ?_; refine zA ?_
  have htr0 : ∀ (v : Nat) (ps : List Nat), (List.replicate nn ([] : List Nat))[v]? = some ps → ShL F ps ((initS (foOf Ns) 0).lists v) := fun v ps hv => by
    have e : (initS (foOf Ns) 0).lists v = [] := by unfold initS; simp
    rw [e]
    rw [List.getElem?_replicate] at hv
    split at hv
    · cases hv; exact .nil
    · cases hv
  have h0 : LOk (⟨li, na, nn, nc, root, most, lo, bif nn == 0 then 0 else 1, is, iw⟩ : LP) Ns F (⟨none, 0, 0, [], [], List.replicate nn (.slice none 0 0), [], List.replicate nn [], [], [], [], [], [], []⟩ : LR) (initS (foOf Ns) 0) :=
    ⟨hN, (Bld.nil_ _ _).gb, List.Perm.refl _, fun i h1 h2 => by simp at h2, rowsP_rep F nn, by simp, htr0, rfl, fun c => by simp [initS, Abs.look], rfl, List.nodup_nil, .nil, fun w => rfl⟩
  refine AW.range (S := LR) (fun _ => []) (fun r => lrB (⟨li, na, nn, nc, root, most, lo, bif nn == 0 then 0 else 1, is, iw⟩ : LP) r :: [(i2, .cells false [.slice na nn nc, .int .i64 root])] :: own)
    (fun j r G => LOk (⟨li, na, nn, nc, root, most, lo, bif nn == 0 then 0 else 1, is, iw⟩ : LP) Ns G r (initS (foOf Ns) j)) nn (⟨none, 0, 0, [], [], List.replicate nn (.slice none 0 0), [], List.replicate nn [], [], [], [], [], [], []⟩ : LR)
    zr zr zr zr zr zr zr zr zr zo rfl rfl (fun _ => rfl) (fun _ => rfl) (SubK.of_map rfl) (OwnLe.flat ?_) h0 ?_ ?_
  · simp only [lrB, lB, lrL, lCells, List.flatten_cons, List.cons_append, List.nil_append]
    exact List.Perm.cons _ (perm_turn3 _ _ _ _)
  · intro j r F1 hF1 hj hl
    obtain ⟨x, hx⟩ : ∃ x, Ns[j]? = some x := ⟨_, List.getElem?_eq_getElem zo⟩
    obtain ⟨ps, hps⟩ : ∃ ps, r.pss[j]? = some ps := ⟨_, List.getElem?_eq_getElem (by have := hl.rlen; show j < r.pss.length; rw [this]; exact hj)⟩
    obtain ⟨va, vn, vc, VB, b1, b2, hvk, hbs, hVB, hput⟩ := hl.rows.split hps
    have hvl := hl.rows.len
    have hrl2 : r.pss.length = nn := hl.rlen
    have hleaf : (foOf Ns).leaf j = if x.key.sym.term = true then some x.key.sym.n else none := by unfold foOf; simp only [hx]
    have hN1 := hl.nodes
    refine zA ?_
    refine WT.idxL hT hN1 zr zr zr zr zr zr zr zr zr zo (fun z hz b7 off7 ro7 cs7 lx7 hb7 hp7 hrel7 => ?_)
    rw [hx] at hz; cases hz
    obtain ⟨pa, pn, pc, rfl, hpa⟩ := hrel7
    refine zi (fo := 0) hT (by assumption) (by assumption) zr zr zr zr zr zr ?_
    refine WT.allocT hT zr zr zr zr zr zr (fun i8 hi8 => ?_)
    refine zA ?_; refine zs hT 0 0 zr zr zr zr zr zr zr zr zr zr zr zr ?_; refine zA ?_; refine zl hT 0 zr zr zr zr zr zr me zr ?_; refine WT.nil ?_
    refine AW.cond rfl (fun ht => ?_) (fun ht => ?_)
    · rw [if_pos ht] at hleaf
      rw [show lrB (⟨li, na, nn, nc, root, most, lo, bif nn == 0 then 0 else 1, is, iw⟩ : LP) r = lrB (⟨li, na, nn, nc, root, most, lo, bif nn == 0 then 0 else 1, is, iw⟩ : LP) { r with bs := b1 ++ (VB ++ b2) } by rw [← hbs]]
      refine AW.le (OwnLe.cons _ (OwnLe.trans (OwnLe.cons _ (OwnLe.cons _ (own_wsplit b1 VB b2 _))) (lrB_own (⟨li, na, nn, nc, root, most, lo, bif nn == 0 then 0 else 1, is, iw⟩ : LP) { r with bs := b1 ++ (VB ++ b2) } _))) ?_
      refine AW.draw (ps := [(3, 9), (3, 10)]) rfl rfl ?_
      refine zA ?_; refine zl hT 1 zr zr zr zr zr zr me zr ?_; refine zA ?_; refine zl hT 0 zr zr zr zr zr zr me zr ?_; refine zA ?_
      refine WT.boxT zr zr zr zr zr zr (fun i56 hi56 => ?_)
      refine WT.buildT hT zr zr zr zr zr zr zr zr zr zr zr zr zr zr (fun i57 hi57 => ?_)
      refine WT.idxA (j := j) (s := 1) hT zr zr zr zr zr zr zr zr zr hj ?_
      refine WT.storeAt hT 4 0 zr zr zr zr zr zr zr zr zr zr (by show 0 + j * 1 < r.vs.length; omega) rfl rfl ?_
      rw [show 0 + j * 1 = j by omega]
      refine WT.freezeAll 1 rfl rfl (fun F2 hF2 hB2 => ?_)
      refine WT.nil ?_
      refine ⟨zrA, ?_⟩
      have hl2 := hl.mono hF2
      have hlf : (foOf Ns).leaf j = some x.key.sym.n := hleaf
      have hsh : Sh F2 i56 (.mk (-1) x.key.sym.n []) := .mk (ps := []) (hB2 i56 _ (List.mem_cons_self ..)) (Arr.nil_ _ _) .nil
      have hb57 : Bld tPtr F1 (some ⟨i57, 0, none⟩) 1 1 [(i57, .cells false [.pointer (some ⟨i56, 0, none⟩)])] [i56] := ⟨rfl, .inr ⟨i57, _, rfl, rfl, rfl, Cells.single (R := tPtr) rfl, by decide⟩⟩
      skip
      refine ⟨{ r with vs := r.vs.set j (.slice (some ⟨i57, 0, none⟩) 1 1), bs := b1 ++ ([(i57, .cells false [.pointer (some ⟨i56, 0, none⟩)])] ++ b2), pss := r.pss.set j [i56] }, SubK.of_map rfl, ?_, ⟨hl2.nodes, hl2.q, hl2.qp, hl2.qh, (hput _ _ _ _ _ hb57).any, by rw [List.length_set]; exact hl2.rlen, fun v us hv => ?_, hl2.se, hl2.sl, hl2.we, hl2.wn, hl2.ws, hl2.wg⟩⟩
      · refine OwnLe.trans (OwnLe.trans (lrB_own' (⟨li, na, nn, nc, root, most, lo, bif nn == 0 then 0 else 1, is, iw⟩ : LP) _ _) (OwnLe.cons _ (OwnLe.cons _ (own_wjoin b1 _ b2 _)))) ?_
        refine OwnLe.trans (b := [(i57, .cells false [.pointer (some ⟨i56, 0, none⟩)])] :: ((li, .cells false [.slice na nn nc, .int .i64 root, .int .i64 most, .slice (some ⟨lo, 0, none⟩) nn (bif nn == 0 then 0 else 1), .map (some is), .map (some iw), .slice r.qa r.qn r.qc]) :: r.qB) :: [(lo, .cells false (r.vs.set j (.slice (some ⟨i57, 0, none⟩) 1 1)))] :: (b1 ++ b2) :: [(is, .map r.se)] :: [(iw, .map r.we)] :: r.wbs :: [(i2, .cells false [.slice na nn nc, .int .i64 root])] :: own) (OwnLe.flat ?_) (OwnLe.cons _ (OwnLe.skip _ (OwnLe.skip _ (OwnLe.cons _ (OwnLe.cons _ (OwnLe.cons _ (OwnLe.skip _ (OwnLe.refl _))))))))
        simp only [List.flatten_cons]
        exact perm_cpT _ _ _ _ _
      · have hv : (r.pss.set j [i56])[v]? = some us := hv
        by_cases e : v = j
        · subst e
          rw [List.getElem?_set_self zo] at hv
          cases hv
          rw [init_at hlf]
          exact .cons hsh .nil
        · rw [List.getElem?_set_ne (fun e2 => e e2.symm)] at hv
          rw [init_ne e]
          exact hl2.trees v us hv
    · rw [if_neg (by rw [show x.key.sym.term = false from ht]; simp)] at hleaf
      refine AW.skip ?_
      refine ⟨r, SubK.of_map rfl, OwnLe.skip _ (OwnLe.refl _), ?_⟩
      show LOk (⟨li, na, nn, nc, root, most, lo, bif nn == 0 then 0 else 1, is, iw⟩ : LP) Ns _ r (initS (foOf Ns) (j + 1))
      rw [init_skip hleaf]
      exact hl
  intro r0 F1 hF1 hl0
  have hl0 : LOk (⟨li, na, nn, nc, root, most, lo, bif nn == 0 then 0 else 1, is, iw⟩ : LP) Ns F1 r0 (initS (foOf Ns) nn) := hl0
  have hI0 := init_inv (foOf Ns) hm1
  rw [show (foOf Ns).n = nn from hNl.symm] at hI0
  refine zA ?_; refine zl hT 1 zr zr zr zr zr zr me zr ?_; refine zA ?_
  refine AW.range (S := TakeS) (fun _ => []) (fun z => lrB (⟨li, na, nn, nc, root, most, lo, bif nn == 0 then 0 else 1, is, iw⟩ : LP) z.r :: [(i2, .cells false [.slice na nn nc, .int .i64 root])] :: own)
    (fun j z G => LOk (⟨li, na, nn, nc, root, most, lo, bif nn == 0 then 0 else 1, is, iw⟩ : LP) Ns G z.r z.s ∧ Inv (foOf Ns) most z.s [] [] [] ∧ z.s.lists = (initS (foOf Ns) nn).lists ∧ z.s.seen.length ≤ pks Ns j ∧ ∀ v, v < j → (foOf Ns).leaf v = none → ∀ p, p < ((foOf Ns).packs v).length → (⟨v, p, 0, 0, 0, 0⟩ : Cand) ∈ z.s.seen) nn ⟨r0, initS (foOf Ns) nn⟩
    zr zr zr zr zr zr zr zr zr zo rfl rfl (fun _ => rfl) (fun _ => rfl) (SubK.of_map rfl) (OwnLe.refl _) ⟨hl0, hI0, rfl, Nat.zero_le _, fun v hv => by omega⟩ ?_ ?_
  · intro j z F2 hF2 hj hP
    obtain ⟨ul, uI, uL, un, ub⟩ := hP
    obtain ⟨x, hx⟩ : ∃ x, Ns[j]? = some x := ⟨_, List.getElem?_eq_getElem zo⟩
    have hN2 := ul.nodes
    have hpx : (foOf Ns).packs j = x.packs := by unfold foOf; simp only [hx]
    have hpk := pks_succ hx
    have hpk2 := pks_mono (Ns := Ns) (show j + 1 ≤ Ns.length by omega)
    have hxp := hok.packs x (List.mem_of_getElem? hx)
    refine zA ?_
    refine WT.idxL hT hN2 zr zr zr zr zr zr zr zr zr zo (fun y hy b7 off7 ro7 cs7 lx7 hb7 hp7 hrel7 => ?_)
    rw [hx] at hy; cases hy
    obtain ⟨pa, pn, pc, rfl, hpa⟩ := hrel7
    have hpal := hpa.len
    refine zi (fo := 0) hT (by assumption) (by assumption) zr zr zr zr zr zr ?_
    refine WT.allocT hT zr zr zr zr zr zr (fun i10 hi10 => ?_)
    refine zA ?_; refine zs hT 0 0 zr zr zr zr zr zr zr zr zr zr zr zr ?_; refine zA ?_; refine zl hT 0 zr zr zr zr zr zr me zr ?_; refine zA ?_
    refine AW.range (S := TakeS) (fun _ => []) (fun z => [(i10, .cells false [.bool x.key.sym.term, .int .i64 x.key.sym.n, .int .i64 x.key.frm, .int .i64 x.key.to, .slice pa pn pc])] :: lrB (⟨li, na, nn, nc, root, most, lo, bif nn == 0 then 0 else 1, is, iw⟩ : LP) z.r :: [(i2, .cells false [.slice na nn nc, .int .i64 root])] :: own)
      (fun q z G => LOk (⟨li, na, nn, nc, root, most, lo, bif nn == 0 then 0 else 1, is, iw⟩ : LP) Ns G z.r z.s ∧ Inv (foOf Ns) most z.s [] [] [] ∧ z.s.lists = (initS (foOf Ns) nn).lists ∧ z.s.seen.length ≤ pks Ns j + q ∧ (∀ v, v < j → (foOf Ns).leaf v = none → ∀ p, p < ((foOf Ns).packs v).length → (⟨v, p, 0, 0, 0, 0⟩ : Cand) ∈ z.s.seen) ∧ ∀ p, p < q → (⟨j, p, 0, 0, 0, 0⟩ : Cand) ∈ z.s.seen) pn z
      zr zr zr zr zr zr zr zr zr zo rfl rfl (fun _ => rfl) (fun _ => rfl) (SubK.of_map rfl) (OwnLe.refl _) ⟨ul, uI, uL, un, ub, fun p hp => by omega⟩ ?_ ?_
    · intro q z F3 hF3 hq hP
      obtain ⟨vl, vI, vL, vn, vb, vc⟩ := hP
      have hlj : (foOf Ns).leaf j = none := by
        cases he : (foOf Ns).leaf j with
        | none => rfl
        | some t =>
          have := hlp j (by rw [he]; simp)
          rw [hpx] at this
          rw [this] at hpal
          simp at hpal; omega
      have hc : CandOk (foOf Ns) most ⟨j, q, 0, 0, 0, 0⟩ := by
        refine ⟨by show j < Ns.length; omega, hlj, ⟨_, by unfold packAt; rw [hpx]; exact List.getElem?_eq_getElem (show q < x.packs.length by omega)⟩, fun r0 h0 => ?_, fun p _ i r0 _ h0 => ?_⟩
        · simp [Cand.ranks] at h0; omega
        · have := List.mem_of_getElem? h0
          simpa [Cand.ranks] using this
      have hTop : ∀ T, candTree (foOf Ns) z.s.lists ⟨j, q, 0, 0, 0, 0⟩ = some T → ∀ v, (foOf Ns).leaf v = none → ∀ x ∈ z.s.lists v, tle x T := fun T _ v hv x hx => by
        rw [vL, init_none hv] at hx; cases hx
      refine zA ?_
      refine WT.call1F 1 Tryd.func158 zr zr zr zr zr zr zr (fun _ => rfl) (lfirst_spec F3 vl hf vI hc hTop (by show most ≤ 1000; omega) zo hfew (.pointer none) rfl) (fun F4 v B4 hF4 hv => ?_)
      obtain ⟨r', rfl, hl4⟩ := hv
      refine WT.nil ?_
      obtain ⟨f1, f2, f3, f4⟩ := first_lists (foOf Ns) z.s ⟨j, q, 0, 0, 0, 0⟩
      refine ⟨⟨r', firstS (foOf Ns) z.s ⟨j, q, 0, 0, 0, 0⟩⟩, SubK.of_map rfl, OwnLe.refl _, hl4, vI.first_ hf hc hTop, f1.trans vL, by show (firstS _ _ _).seen.length ≤ pks Ns j + (q + 1); omega, fun v hv hl p hp => f2 _ (vb v hv hl p hp), fun p hp => ?_⟩
      rcases Nat.lt_or_ge p q with h1 | h1
      · exact f2 _ (vc p h1)
      · obtain rfl : p = q := by omega
        exact f3
    · intro z F3 hF3 hP
      obtain ⟨vl, vI, vL, vn, vb, vc⟩ := hP
      skip
      refine ⟨z, SubK.of_map rfl, OwnLe.skip _ (OwnLe.refl _), vl, vI, vL, by rw [hpk, ← hpal]; exact vn, fun v hv hl p hp => ?_⟩
      rcases Nat.lt_or_ge v j with h1 | h1
      · exact vb v h1 hl p hp
      · obtain rfl : v = j := by omega
        rw [hpx] at hp
        have hp : p < x.packs.length := hp
        exact vc p (by rw [hpal]; exact hp)
  intro z F2 hF2 hP
  obtain ⟨ul, uI, uL, un, ub⟩ := hP
  have hbase : BaseIn (foOf Ns) z.s := fun v hv hl p hp => ub v (by have : v < Ns.length := hv; omega) hl p hp
  refine AW.seq ?_
  refine joinK (S := LsS) (fun _ => []) (fun z => lrB (⟨li, na, nn, nc, root, most, lo, bif nn == 0 then 0 else 1, is, iw⟩ : LP) z.r :: [(i2, .cells false [.slice na nn nc, .int .i64 root])] :: own) (fun z G => LOk (⟨li, na, nn, nc, root, most, lo, bif nn == 0 then 0 else 1, is, iw⟩ : LP) Ns G z.r z.s ∧ Firsts (foOf Ns) root most (z.s.lists root)) ?_ ?_
  · refine AW.block ?_
    refine AW.loopR (S := LsS) (fun _ => []) (fun z => lrB (⟨li, na, nn, nc, root, most, lo, bif nn == 0 then 0 else 1, is, iw⟩ : LP) z.r :: [(i2, .cells false [.slice na nn nc, .int .i64 root])] :: own)
      (fun z G => LOk (⟨li, na, nn, nc, root, most, lo, bif nn == 0 then 0 else 1, is, iw⟩ : LP) Ns G z.r z.s ∧ Inv (foOf Ns) most z.s z.done [] [] ∧ BaseIn (foOf Ns) z.s ∧ z.s.seen.length ≤ pks Ns Ns.length + 4 * tot z.s.lists nn) (fun z => pks Ns Ns.length + 4 * (nn * most) + 1 - z.done.length) ⟨z.r, z.s, []⟩
      (SubK.of_map rfl) (OwnLe.refl _) ⟨ul, uI, hbase, by show z.s.seen.length ≤ pks Ns Ns.length + 4 * tot z.s.lists nn; rw [hNl] at un; omega⟩ ?_
    intro y F3 hF3 hP3
    obtain ⟨yl, yI, yb, yn⟩ := hP3
    have htot := tot_le yI.len nn
    have hdl : y.done.length ≤ y.s.seen.length := sub_len _ _ yI.dnd yI.dsub
    have hmm : nn * most ≤ 1000000 * 100 := Nat.mul_le_mul zo hm
    have hql := yl.q.len
    have hqp := yl.qp.length_eq
    have hqf := yI.q_few
    obtain ⟨ps, hps⟩ : ∃ ps, y.r.pss[root]? = some ps := ⟨_, List.getElem?_eq_getElem (by have : y.r.pss.length = nn := yl.rlen; omega)⟩
    obtain ⟨va, vn, vc, VB, b1, b2, hvk, hbs, hVB, hput⟩ := yl.rows.split hps
    have htr := yl.trees root ps hps
    have hvn := hVB.len
    have htrl := htr.len
    have hrm := yI.len root
    refine zA ?_; refine AW.draw (ps := []) zr zr ?_; refine zA ?_; refine zl hT 0 zr zr zr zr zr zr me zr ?_; refine zA ?_
    refine WT.le (lrB_own (⟨li, na, nn, nc, root, most, lo, bif nn == 0 then 0 else 1, is, iw⟩ : LP) y.r _) ?_
    skip
    refine WT.split 87 rfl (fun hq0 => ?_) (fun hq0 => ?_)
    rotate_left
    · have hq0 : y.r.qn = 0 := by simp at hq0; omega
      (iterate 11 refine zx zr zr zr zr ?_); refine zA ?_; refine And.intro trivial ?_
      refine AW.cond rfl (fun h => (by cases h)) (fun _ => ?_)
      refine AW.exit ?_
      refine ⟨y, SubK.of_map rfl, lrB_own' (⟨li, na, nn, nc, root, most, lo, bif nn == 0 then 0 else 1, is, iw⟩ : LP) y.r _, yl, yI.firsts hf yb hrl (.inr fun a ha => ?_)⟩
      have : y.s.q = [] := List.eq_nil_of_length_eq_zero zo
      rw [this] at ha; cases ha
    have hq1 : 0 < y.r.qn := by simpa using hq0
    refine zA ?_; refine zl hT 0 zr zr zr zr zr zr me zr ?_; refine zA ?_; refine zl hT 6 zr zr zr zr zr zr me zr ?_
    refine WT.idxA (j := root) (s := 1) hT zr zr zr zr zr zr zr zr zr (show root < nn by omega) ?_
    refine WT.loadAt hT 1 zr zr zr zr zr zr (List.mem_cons_self ..) rfl rfl (v := .slice va vn vc) (by rw [Nat.zero_add, Nat.mul_one]; exact hvk) ?_
    refine zA ?_; refine And.intro trivial ?_
    refine AW.cond rfl (fun hc => ?_) (fun hc => ?_)
    rotate_left
    · have hc : most ≤ vn := by simp at hc; omega
      refine AW.exit ?_
      exact ⟨y, SubK.of_map rfl, lrB_own' (⟨li, na, nn, nc, root, most, lo, bif nn == 0 then 0 else 1, is, iw⟩ : LP) y.r _, yl, yI.firsts hf yb hrl (.inl zo)⟩
    have hc : vn < most := by simp at hc; omega
    obtain ⟨qn, hqn⟩ : ∃ qn, y.r.qn = qn + 1 := ⟨y.r.qn - 1, by omega⟩
    have yq := yl.q
    rw [hqn] at yq
    rw [hqn]
    refine AW.skip ?_
    refine AW.block ?_
    refine zA ?_
    refine WT.ifaceT hT zr zr zr zr zr zr ?_
    refine WT.call1F 0 Tryd.func159 zr zr zr zr zr zr zr (fun _ => rfl) (hpop_spec F3 (lrL (⟨li, na, nn, nc, root, most, lo, bif nn == 0 then 0 else 1, is, iw⟩ : LP)) yq zo yl.qh) (fun F4 v B4 hF4 hv => ?_)
    obtain ⟨qB2, Q2, ⟨c, T⟩, l, rfl, hQ2, hperm, hheap, hmin, rfl, tp, rfl, hsh, hTb⟩ := hv
    have yl4 := yl.mono hF4
    have yI2 : Inv (foOf Ns) most { y.s with q := (c, T) :: Q2 } y.done [] [] := yI.perm (yl.qp.symm.trans hperm)
    have hl2 : LOk (⟨li, na, nn, nc, root, most, lo, bif nn == 0 then 0 else 1, is, iw⟩ : LP) Ns F4 { y.r with qn := qn, qB := qB2, Q := Q2 } { y.s with q := Q2 } := ⟨yl4.nodes, hQ2, List.Perm.refl _, hheap, yl4.rows, yl4.rlen, yl4.trees, yl4.se, yl4.sl, yl4.we, yl4.wn, yl4.ws, yl4.wg⟩
    skip
    refine WT.assertT hT zr zr zr zr zr zr ?_
    unfold candV
    refine zA ?_
    refine WT.allocT hT zr zr zr zr zr zr (fun i12 hi12 => ?_)
    have hsh0 := hsh
    cases hsh with
    | @mk _ tr tm tks ta tn tc tps g1 g2 g3 =>
    refine zs hT 0 0 zr zr zr zr zr zr zr zr zr zr zr zr ?_; refine zA ?_; refine zl hT 0 zr zr zr zr zr zr me zr ?_; refine zA ?_; refine zf hT (by assumption) zr zr zr zr zr zr ?_; refine zA ?_
    refine AW.cond rfl (fun hc5 => ?_) (fun hc5 => ?_)
    · have hc5 : 5000 < (Tree.mk tr tm tks).pre.length := by simp at hc5; omega
      refine AW.exit ?_
      refine ⟨⟨{ y.r with qn := qn, qB := qB2, Q := Q2 }, { y.s with q := Q2 }, []⟩, SubK.of_map rfl, OwnLe.skip _ (lrB_own' (⟨li, na, nn, nc, root, most, lo, bif nn == 0 then 0 else 1, is, iw⟩ : LP) { y.r with qn := qn, qB := qB2, Q := Q2 } _), hl2, yI2.firsts hf yb hrl (.inr fun a ha => ?_)⟩
      rcases List.mem_cons.1 ha with rfl | ha
      · exact hc5
      · have := wle_len (hmin a ha)
        dsimp only at this
        omega
    · have hc5 : (Tree.mk tr tm tks).pre.length ≤ 5000 := by simp at hc5; omega
      have hcn : c.node < nn := by
        have := (yI2.ok c (yI2.qok (c, _) (List.mem_cons_self ..)).1).node
        have : c.node < Ns.length := this
        omega
      refine zA ?_; refine zl hT 0 zr zr zr zr zr zr me zr ?_
      refine WT.le (OwnLe.cons _ (lrB_own' (⟨li, na, nn, nc, root, most, lo, bif nn == 0 then 0 else 1, is, iw⟩ : LP) { y.r with qn := qn, qB := qB2, Q := Q2 } _)) ?_
      refine WT.call1F 1 Tryd.func160 zr zr zr zr zr zr zr (fun _ => rfl) (nodeTk_spec F4 hl2 hf yI2 yb hmin hc5 hsh0 (by show most ≤ 1000; omega) zo hfew) (fun F5 v B5 hF5 hv => ?_)
      obtain ⟨r', s', rfl, hl5, hI5, hb5, hcase⟩ := hv
      have hI5 : Inv (foOf Ns) most s' (c :: y.done) [] [] := hI5
      have hseen5 : s'.seen.length ≤ pks Ns Ns.length + 4 * tot s'.lists nn := by
        rcases hcase with ⟨_, e1, e2⟩ | ⟨_, e1, e2⟩
        · rw [e1, e2]; exact yn
        · rw [e1, tot_upd, if_pos hcn]; omega
      have hdl5 : (c :: y.done).length ≤ s'.seen.length := sub_len _ _ hI5.dnd hI5.dsub
      have htot5 := tot_le hI5.len nn
      refine WT.nil ?_
      refine ⟨⟨r', s', c :: y.done⟩, ?_, SubK.of_map rfl, OwnLe.skip _ (OwnLe.refl _), hl5, hI5, hb5, hseen5⟩
      show pks Ns Ns.length + 4 * (nn * most) + 1 - (c :: y.done).length < pks Ns Ns.length + 4 * (nn * most) + 1 - y.done.length
      simp only [List.length_cons] at hdl5 ⊢
      omega
  intro y F3 hF3 hP3
  obtain ⟨yl, yF⟩ := hP3
  obtain ⟨ps, hps⟩ : ∃ ps, y.r.pss[root]? = some ps := ⟨_, List.getElem?_eq_getElem (by have : y.r.pss.length = nn := yl.rlen; omega)⟩
  obtain ⟨va, vn, vc, VB, b1, b2, hvk, hbs, hVB, hput⟩ := yl.rows.split hps
  have htr := yl.trees root ps hps
  have hvn := hVB.len
  have htrl := htr.len
  have hrm := yF.len
  refine AW.seq ?_; refine AW.draw (ps := []) zr zr ?_; refine zA ?_; refine zl hT 0 zr zr zr zr zr zr me zr ?_; refine zA ?_; refine zl hT 1 zr zr zr zr zr zr me zr ?_
  refine WT.le (lrB_own (⟨li, na, nn, nc, root, most, lo, bif nn == 0 then 0 else 1, is, iw⟩ : LP) y.r _) ?_
  refine WT.idxA (j := root) (s := 1) hT zr zr zr zr zr zr zr zr zr (show root < nn by omega) ?_
  refine WT.loadAt hT 1 zr zr zr zr zr zr (List.mem_cons_self ..) rfl rfl (v := .slice va vn vc) (by rw [Nat.zero_add, Nat.mul_one]; exact hvk) ?_
  refine zA ?_; refine And.intro trivial ?_; refine zA ?_; refine zl hT 6 zr zr zr zr zr zr me zr ?_
  have hN3 := yl.nodes
  refine WT.callV Tryd.func105 zr zr zr zr zr zr (count_spec _ hok hpr hN3 root hroot) (fun v hv => ?_)
  obtain ⟨cn, rfl, hcn⟩ := hv
  refine zA ?_
  refine WT.split 132 rfl (fun hc => ?_) (fun hc => ?_)
  rotate_left
  · have hc : vn = most := by simp at hc; omega
    (iterate 7 refine zx zr zr zr zr ?_); refine zA ?_
    refine AW.cond rfl (fun h => (by cases h)) (fun _ => ?_)
    refine zA ?_; refine AW.draw (ps := []) zr zr ?_; refine zA ?_; refine zl hT 0 zr zr zr zr zr zr me zr ?_; refine zA ?_; refine zl hT 6 zr zr zr zr zr zr me zr ?_
    refine WT.idxA (j := root) (s := 1) hT zr zr zr zr zr zr zr zr zr (show root < nn by omega) ?_
    refine WT.loadAt hT 1 zr zr zr zr zr zr (List.mem_cons_self ..) rfl rfl (v := .slice va vn vc) (by rw [Nat.zero_add, Nat.mul_one]; exact hvk) ?_
    refine zA ?_; refine And.intro trivial ?_
    refine AW.range (S := PlT) (fun s => [(16, .slice s.a s.n s.c)]) (fun s => s.B :: s.bs :: ((li, .cells false [.slice na nn nc, .int .i64 root, .int .i64 most, .slice (some ⟨lo, 0, none⟩) nn (bif nn == 0 then 0 else 1), .map (some is), .map (some iw), .slice y.r.qa y.r.qn y.r.qc]) :: y.r.qB) :: [(lo, .cells false y.r.vs)] :: y.r.bs :: [(is, .map y.r.se)] :: [(iw, .map y.r.we)] :: y.r.wbs :: [(i2, .cells false [.slice na nn nc, .int .i64 root])] :: own)
      (fun j s G => Bld tTC E0 s.a s.n s.c s.B s.css ∧ TOwnL s.css s.bs ((y.s.lists root).take j)) vn ⟨none, 0, 0, [], [], []⟩
      zr zr zr zr zr zr zr zr zr zo rfl rfl (fun _ => rfl) (fun _ => rfl) (SubK.of_map rfl) (OwnLe.flat (List.Perm.refl _)) ⟨Bld.nil_ _ _, .nil⟩ ?_ ?_
    · intro j u F5 hF5 hj hP5
      obtain ⟨hb, hL⟩ := hP5
      have hLl := hL.len
      have hbl5 := hb.len
      rw [List.length_take] at hLl
      have hVB5 := (hVB.mono hF5).gb
      obtain ⟨q, hq⟩ : ∃ q, ps[j]? = some q := ⟨_, List.getElem?_eq_getElem zo⟩
      obtain ⟨k, hk⟩ : ∃ k, (y.s.lists root)[j]? = some k := ⟨_, List.getElem?_eq_getElem zo⟩
      have hkm := List.mem_of_getElem? hk
      have hsm := yF.small k hkm
      have hsq := (htr.at_ hq hk).mono hF5
      refine zA ?_
      refine WT.gidx hT hVB5 zr zr zr zr zr zr zr zr zr hj (fun b9 hb9 => ?_)
      refine WT.gld1 (x := q) hT 4 hVB5 hb9 hq zr zr zr zr zr zr (fun z hz => by rw [hbs]; exact List.mem_append_right _ (List.mem_append_left _ hz)) zr zr zr (fun v hv => ?_)
      obtain rfl : v = _ := (List.singleton_inj.1 hv)
      refine zA ?_
      refine WT.callN Tryd.func161 zr zr zr zr zr zr (plain_spec _ k (Nat.lt_succ_self _) (yF.valid k hkm).plain zo F5 q hsq) (fun F6 v B6 hF6 hv => ?_)
      obtain ⟨cs, rfl, hcs⟩ := hv
      obtain ⟨hc3, hc1⟩ := hcs.shape
      obtain ⟨x1, x2, x3, rfl⟩ : ∃ x1 x2 x3, cs = [x1, x2, x3] := by
        match cs, hc3 with
        | [x1, x2, x3], _ => exact ⟨x1, x2, x3, rfl⟩
      skip
      refine WT.buildT hT zr zr zr zr zr zr zr zr zr zr zr zr zr zr (fun i9 hi9 => ?_)
      refine WT.appendT (R := tTC) (ys := [[x1, x2, x3]]) hT 2 (bldT hb) rfl (fun _ => rfl) zr zr zr zr zr zr zr zr zr zr zr (fun h0 s0 => news_own hT s0 0 zr zr zr zr) (Cells.single (R := tTC) ⟨rfl, rfl, hc1⟩) rfl (by decide) zom (fun a3 c3 B3 hB3 => ?_)
      refine zA ?_
      refine ⟨⟨a3, u.n + 1, c3, B3, u.css ++ [[x1, x2, x3]], u.bs ++ B6⟩, SubK.of_map rfl, ?_, bldT hB3, by rw [List.take_add_one, hk]; exact hL.snoc hcs⟩
      refine OwnLe.skip _ (OwnLe.flat ?_)
      simp only [List.flatten_cons, List.append_assoc]
      exact perm_cpU _ _ _ _
    · intro u F5 hF5 hP5
      obtain ⟨hb, hL⟩ := hP5
      rw [List.take_of_length_le zo] at hL
      refine zA ?_
      refine AW.le (own2 := (u.B ++ u.bs) :: own) (OwnLe.trans (OwnLe.flat (List.Perm.of_eq (by simp))) (OwnLe.cons _ (OwnLe.cons _ (OwnLe.skip _ (OwnLe.skip _ (OwnLe.skip _ (OwnLe.skip _ (OwnLe.skip _ (OwnLe.skip _ (OwnLe.skip _ (OwnLe.refl _))))))))))) ?_
      exact AW.ret ⟨_, [_], ⟨_, _, rfl, ⟨_, _, rfl, rfl, rfl⟩, rfl⟩, zsb, _, rfl, _, _, ⟨yF, hcn⟩, .inl ⟨(.inl zo), _, _, _, u.B, u.css, u.bs, rfl, rfl, hb, hL⟩⟩
  have hc : vn < most := by simpa using hc
  refine zA ?_
  refine WT.split 135 rfl (fun hc2 => ?_) (fun hc2 => ?_)
  · have hc2 : cn = -1 := by simpa using hc2
    (iterate 3 refine zx zr zr zr zr ?_); refine zA ?_
    refine AW.cond rfl (fun _ => ?_) (fun h => (by cases h))
    refine zA ?_
    refine AW.le (own2 := [] :: own) (OwnLe.trans (OwnLe.flat (List.Perm.refl _)) (OwnLe.skip _ (OwnLe.skip _ (OwnLe.skip _ (OwnLe.skip _ (OwnLe.skip _ (OwnLe.skip _ (OwnLe.skip _ (OwnLe.refl _))))))))) ?_
    exact AW.ret ⟨_, [_], ⟨_, _, rfl, ⟨_, _, rfl, rfl, rfl⟩, rfl⟩, zsb, _, rfl, _, _, ⟨yF, hcn⟩, .inr ⟨by omega, .inl hc2, rfl⟩⟩
  have hc2 : cn ≠ -1 := by simpa using hc2
  refine zA ?_
  refine AW.cond rfl (fun hc3 => ?_) (fun hc3 => ?_)
  · have hc3 : (vn : Int) < cn := by simpa using hc3
    refine zA ?_
    refine AW.le (own2 := [] :: own) (OwnLe.trans (OwnLe.flat (List.Perm.refl _)) (OwnLe.skip _ (OwnLe.skip _ (OwnLe.skip _ (OwnLe.skip _ (OwnLe.skip _ (OwnLe.skip _ (OwnLe.skip _ (OwnLe.refl _))))))))) ?_
    exact AW.ret ⟨_, [_], ⟨_, _, rfl, ⟨_, _, rfl, rfl, rfl⟩, rfl⟩, zsb, _, rfl, _, _, ⟨yF, hcn⟩, .inr ⟨by omega, .inr (by rw [htrl, ← hvn]; exact hc3), rfl⟩⟩
  · have hc3 : cn ≤ (vn : Int) := by simpa using hc3
    refine zA ?_; refine AW.draw (ps := []) zr zr ?_; refine zA ?_; refine zl hT 0 zr zr zr zr zr zr me zr ?_; refine zA ?_; refine zl hT 6 zr zr zr zr zr zr me zr ?_
    refine WT.idxA (j := root) (s := 1) hT zr zr zr zr zr zr zr zr zr (show root < nn by omega) ?_
    refine WT.loadAt hT 1 zr zr zr zr zr zr (List.mem_cons_self ..) rfl rfl (v := .slice va vn vc) (by rw [Nat.zero_add, Nat.mul_one]; exact hvk) ?_
    refine zA ?_; refine And.intro trivial ?_
    refine AW.range (S := PlT) (fun s => [(16, .slice s.a s.n s.c)]) (fun s => s.B :: s.bs :: ((li, .cells false [.slice na nn nc, .int .i64 root, .int .i64 most, .slice (some ⟨lo, 0, none⟩) nn (bif nn == 0 then 0 else 1), .map (some is), .map (some iw), .slice y.r.qa y.r.qn y.r.qc]) :: y.r.qB) :: [(lo, .cells false y.r.vs)] :: y.r.bs :: [(is, .map y.r.se)] :: [(iw, .map y.r.we)] :: y.r.wbs :: [(i2, .cells false [.slice na nn nc, .int .i64 root])] :: own)
      (fun j s G => Bld tTC E0 s.a s.n s.c s.B s.css ∧ TOwnL s.css s.bs ((y.s.lists root).take j)) vn ⟨none, 0, 0, [], [], []⟩
      zr zr zr zr zr zr zr zr zr zo rfl rfl (fun _ => rfl) (fun _ => rfl) (SubK.of_map rfl) (OwnLe.flat (List.Perm.refl _)) ⟨Bld.nil_ _ _, .nil⟩ ?_ ?_
    · intro j u F5 hF5 hj hP5
      obtain ⟨hb, hL⟩ := hP5
      have hLl := hL.len
      have hbl5 := hb.len
      rw [List.length_take] at hLl
      have hVB5 := (hVB.mono hF5).gb
      obtain ⟨q, hq⟩ : ∃ q, ps[j]? = some q := ⟨_, List.getElem?_eq_getElem zo⟩
      obtain ⟨k, hk⟩ : ∃ k, (y.s.lists root)[j]? = some k := ⟨_, List.getElem?_eq_getElem zo⟩
      have hkm := List.mem_of_getElem? hk
      have hsm := yF.small k hkm
      have hsq := (htr.at_ hq hk).mono hF5
      refine zA ?_
      refine WT.gidx hT hVB5 zr zr zr zr zr zr zr zr zr hj (fun b9 hb9 => ?_)
      refine WT.gld1 (x := q) hT 4 hVB5 hb9 hq zr zr zr zr zr zr (fun z hz => by rw [hbs]; exact List.mem_append_right _ (List.mem_append_left _ hz)) zr zr zr (fun v hv => ?_)
      obtain rfl : v = _ := (List.singleton_inj.1 hv)
      refine zA ?_
      refine WT.callN Tryd.func161 zr zr zr zr zr zr (plain_spec _ k (Nat.lt_succ_self _) (yF.valid k hkm).plain zo F5 q hsq) (fun F6 v B6 hF6 hv => ?_)
      obtain ⟨cs, rfl, hcs⟩ := hv
      obtain ⟨hc3, hc1⟩ := hcs.shape
      obtain ⟨x1, x2, x3, rfl⟩ : ∃ x1 x2 x3, cs = [x1, x2, x3] := by
        match cs, hc3 with
        | [x1, x2, x3], _ => exact ⟨x1, x2, x3, rfl⟩
      skip
      refine WT.buildT hT zr zr zr zr zr zr zr zr zr zr zr zr zr zr (fun i9 hi9 => ?_)
      refine WT.appendT (R := tTC) (ys := [[x1, x2, x3]]) hT 2 (bldT hb) rfl (fun _ => rfl) zr zr zr zr zr zr zr zr zr zr zr (fun h0 s0 => news_own hT s0 0 zr zr zr zr) (Cells.single (R := tTC) ⟨rfl, rfl, hc1⟩) rfl (by decide) zom (fun a3 c3 B3 hB3 => ?_)
      refine zA ?_
      refine ⟨⟨a3, u.n + 1, c3, B3, u.css ++ [[x1, x2, x3]], u.bs ++ B6⟩, SubK.of_map rfl, ?_, bldT hB3, by rw [List.take_add_one, hk]; exact hL.snoc hcs⟩
      refine OwnLe.skip _ (OwnLe.flat ?_)
      simp only [List.flatten_cons, List.append_assoc]
      exact perm_cpU _ _ _ _
    · intro u F5 hF5 hP5
      obtain ⟨hb, hL⟩ := hP5
      rw [List.take_of_length_le zo] at hL
      refine zA ?_
      refine AW.le (own2 := (u.B ++ u.bs) :: own) (OwnLe.trans (OwnLe.flat (List.Perm.of_eq (by simp))) (OwnLe.cons _ (OwnLe.cons _ (OwnLe.skip _ (OwnLe.skip _ (OwnLe.skip _ (OwnLe.skip _ (OwnLe.skip _ (OwnLe.skip _ (OwnLe.skip _ (OwnLe.refl _))))))))))) ?_
      exact AW.ret ⟨_, [_], ⟨_, _, rfl, ⟨_, _, rfl, rfl, rfl⟩, rfl⟩, zsb, _, rfl, _, _, ⟨yF, hcn⟩, .inl ⟨(.inr ⟨hc2, by rw [htrl, ← hvn]; exact hc3⟩), _, _, _, u.B, u.css, u.bs, rfl, rfl, hb, hL⟩⟩

structure CpS where
  j : Nat
  a : Option Addr
  c : Nat
  B : List (Nat × Blk)

theorem perm_cp3 {α : Type} (x a b c : α) (l : List α) : (x :: a :: b :: c :: l).Perm (a :: b :: c :: x :: l) := (List.perm_middle (l₁ := [a, b, c])).symm

theorem copyOf_spec (F : Frz) (g : Gram) {a : Option Addr} {m c : Nat} (hr : Arr tRule F a m c g.rules) (hm : m ≤ 1000000) (hrr : ∀ r ∈ g.rules, r.right.length ≤ 1000000) :
    Abs.Spec CC 46 [.agg ⟨gramCells g a m c⟩] F [] fun F' v o => ∃ B', o = [B'] ∧ ∃ a' c', v = .agg ⟨gramCells g a' m c'⟩ ∧ Bld tRule F' a' m c' B' g.rules := by
  unfold gramCells
  have hrl := hr.len
  refine Abs.Spec.fn (n := 28) Tryd.func46 rfl rfl fun own => ?_
  refine AW.seq (AW.reg ?_)
  refine WT.boxT zr zr zr zr zr zr (fun i1 hi1 => ?_)
  refine WT.allocT hT zr zr zr zr zr zr (fun i2 hi2 => ?_)
  refine zA ?_; refine zl hT 1 zr zr zr zr zr zr me zr ?_
  refine WT.allocT hT zr zr zr zr zr zr (fun i3 hi3 => ?_)
  refine zs hT 0 0 zr zr zr zr zr zr zr zr zr zr zr zr ?_; refine zA ?_; refine zs hT 0 0 zr zr zr zr zr zr zr zr zr zr zr zr ?_; refine zA ?_; refine zl hT 2 zr zr zr zr zr zr me zr ?_; refine zA ?_
  refine AW.range (S := CpS) (fun _ => []) (fun s => s.B :: [(i3, .cells false [.int .i64 g.terms, .int .i64 g.nons, .int .i64 g.start, .slice s.a (g.rules.take s.j).length s.c])] :: [(i2, .cells false [.int .i64 0, .int .i64 0, .int .i64 0, .slice none 0 0])] :: [(i1, .cells false [.int .i64 g.terms, .int .i64 g.nons, .int .i64 g.start, .slice a m c])] :: own)
    (fun j s G => s.j = j ∧ Bld tRule G s.a (g.rules.take s.j).length s.c s.B (g.rules.take s.j)) m ⟨0, none, 0, []⟩
    zr zr zr zr zr zr zr zr zr zo rfl rfl (fun _ => rfl) (fun _ => rfl) (SubK.of_map rfl) (OwnLe.flat (List.Perm.refl _)) ⟨rfl, by simpa using Bld.nil_ _ _⟩ ?_ ?_
  · intro j s F1 hF1 hj hP
    obtain ⟨rfl, hb⟩ := hP
    have hr1 := hr.mono hF1
    refine zA ?_
    refine WT.idxL hT hr1 zr zr zr zr zr zr zr zr zr zo (fun r hrj b off ro cs lx hb1 hp1 hrel => ?_)
    obtain ⟨ra, rn, rc, rfl, hra⟩ := hrel
    have hral := hra.len
    have hrn := hrr r (List.mem_of_getElem? hrj)
    refine zi (fo := 0) hT (by assumption) (by assumption) zr zr zr zr zr zr ?_
    refine WT.allocT hT zr zr zr zr zr zr (fun i5 hi5 => ?_)
    refine zs hT 0 0 zr zr zr zr zr zr zr zr zr zr zr zr ?_; refine WT.nil ?_
    refine AW.draw (ps := [(1, 6), (1, 8), (3, 6)]) rfl rfl ?_
    refine zA ?_; refine zl hT 2 zr zr zr zr zr zr me zr ?_; refine zA ?_; refine zl hT 0 zr zr zr zr zr zr me zr ?_; refine zA ?_; refine zl hT 0 zr zr zr zr zr zr me zr ?_
    refine WT.callN Tryd.func76 zr zr zr zr zr zr (symClone_spec _ hra zo) (fun F2 v B2 hF2 hv => ?_)
    obtain ⟨ca, cc, rfl, hcv⟩ := hv
    refine WT.freezeAll 0 rfl rfl (fun F3 hF3 hB3 => ?_)
    have hca := hcv.arr hF3 hB3
    have hb3 := (hb.mono hF2).mono hF3
    refine zA ?_
    refine WT.buildT hT zr zr zr zr zr zr zr zr zr zr zr zr zr zr (fun i9 hi9 => ?_)
    have hlt : (g.rules.take s.j).length ≤ 1000000 := by simp; omega
    refine WT.appendT (ys := [r]) hT 3 hb3 rfl (fun _ => rfl) zr zr zr zr zr zr zr zr zr zr zr (fun h0 s0 => news_own hT s0 0 zr zr zr zr) (Cells.single (R := tRule) (x := r) ⟨_, _, _, rfl, hca⟩) rfl (by decide) zom (fun a3 c3 B3 hB3 => ?_)
    have he : g.rules.take (s.j + 1) = g.rules.take s.j ++ [r] := by rw [List.take_add_one, hrj]; rfl
    have hl2 : (g.rules.take (s.j + 1)).length = (g.rules.take s.j).length + 1 := by rw [he]; simp
    rw [← he, ← hl2] at hB3
    rw [← hl2]
    refine zA ?_; refine zs hT 4 0 zr zr zr zr zr zr zr zr zr zr zr zr ?_; refine WT.nil ?_
    refine ⟨zrC, ?_⟩
    exact ⟨⟨s.j + 1, a3, c3, B3⟩, SubK.of_map rfl, zow, rfl, hB3⟩
  · intro s F1 hF1 hP
    obtain ⟨rfl, hb⟩ := hP
    rw [List.take_of_length_le zo, ← hrl] at hb
    rw [List.take_of_length_le zo, ← hrl]
    refine zA ?_; refine zl hT 1 zr zr zr zr zr zr me zr ?_; refine zs hT 2 0 zr zr zr zr zr zr zr zr zr zr zr zr ?_; refine WT.nil ?_
    refine AW.perm (perm_cp3 _ _ _ _ _) ?_
    refine AW.ret ⟨_, [_], ⟨_, _, ⟨_, rfl, fun G h0 s0 => loadA_cells (s0.has (p := 1) rfl (List.mem_cons_self ..)) (readT_ok hT rfl)⟩, rfl, rfl⟩, zsb, _, rfl, _, _, rfl, ?_⟩
    exact hb


/-! ### trees of a part -/
/-! ### counts -/
theorem CountVal.uniq {T : Nat → Nat} (hm : ∀ d, T d ≤ T (d + 1)) {a b : Int} (h : CountVal T a) (h2 : CountVal T b) : a = b := by
  have clash : ∀ {n}, Still T n → Unbound T → False := by
    intro n hs hu
    obtain ⟨D, hD⟩ := hs
    obtain ⟨d, hd⟩ := hu (n + 1)
    have mono : ∀ e, T d ≤ T (d + e) := by
      intro e
      induction e with
      | zero => exact Nat.le_refl _
      | succ e ih => exact Nat.le_trans ih (hm (d + e))
    have h1 := mono D
    have h2 := hD (d + D) zo
    omega
  rcases h with ⟨n, h1, rfl⟩ | ⟨h1, rfl⟩ <;> rcases h2 with ⟨n', h3, rfl⟩ | ⟨h3, rfl⟩
  · rw [h1.uniq h3]
  · exact (clash h1 h3).elim
  · exact (clash h3 h1).elim
  · rfl

theorem mono_le {T : Nat → Nat} (hm : ∀ d, T d ≤ T (d + 1)) {d e : Nat} (h : d ≤ e) : T d ≤ T e := by
  induction e with
  | zero => obtain rfl : d = 0 := by omega
            exact Nat.le_refl _
  | succ e ih =>
    rcases Nat.lt_or_ge d (e + 1) with h2 | h2
    · exact Nat.le_trans (ih zo) (hm e)
    · obtain rfl : d = e + 1 := by omega
      exact Nat.le_refl _

theorem CountVal.some {T : Nat → Nat} {c : Int} (h : CountVal T c) (hc : c ≠ 0) : ∃ d, 1 ≤ T d := by
  rcases h with ⟨n, ⟨D, hD⟩, h2⟩ | ⟨h, _⟩
  · refine ⟨D, ?_⟩
    rw [hD D (Nat.le_refl _)]
    rcases Nat.eq_zero_or_pos n with e | e
    · subst e; exact absurd h2 (by simpa using hc)
    · exact e
  · exact h 1

/-! ### a grammar with a new start symbol -/
end Go.Proofs.D

set_option linter.unusedVariables false
set_option maxRecDepth 20000
set_option maxHeartbeats 0
open Go Go.Abs Go.Proofs Go.Proofs.D
namespace Go.Abs
section
variable {C : Ctx} {T : RT} {n : Nat} {k : Kno} {F : Frz} {own : Own} {ops rest : List Oper} {o : Oper} {Q : Kno → Frz → Own → List Rec → Prop} {args' : List Value}
end
end Go.Abs
namespace Go.Proofs.D

/-! ### the order of nodes -/
/-! ### Index and Contains of truth values -/
def tBool : Ty Bool where
  size := 1
  rel := fun _ l x => l = [.bool x]
  len := fun _ _ _ h => by subst h; rfl
  one := fun _ _ _ h => by subst h; rfl
  mono := fun _ _ _ _ _ h => h

/-! ### the shape of a forest -/
/-- Keys that follow each other. -/
def Chain (to : Nat) : List Sym → Nat → List Key → Prop
  | [], i, ks => ks = [] ∧ i = to
  | s :: l, i, ks => ∃ q ks', ks = q :: ks' ∧ q.sym = s ∧ q.frm = i ∧ Chain to l q.to ks'

/-- What the law looks at in a node's pack. -/
structure PackOk (g : Gram) (S : List Key) (k : Key) (p : NPack) (kp : KPack) : Prop where
  num : p = numPack S kp
  rule : ∃ r, g.rules[kp.rule]? = some r ∧ r.left = k.sym.n ∧ Chain k.to r.right k.frm kp.kids
  ins : ∀ q ∈ kp.kids, q ∈ S

structure NodeOk (g : Gram) (w : List Nat) (S : List Key) (k : Key) (x : Node) : Prop where
  key : x.key = k
  term : k.sym.term = true → k.to = k.frm + 1 ∧ k.to ≤ w.length ∧ w[k.frm]? = some k.sym.n ∧ x.packs = []
  non : k.sym.term = false → x.packs ≠ []
  pack : ∀ p ∈ x.packs, ∃ kp, PackOk g S k p kp
  sorted : x.packs.Pairwise fun x y => cmpNPack x y < 0

theorem packsOf_term {g : Gram} {w : List Nat} {E : List (List Nat)} {k : Key} (h : k.sym.term = true) : packsOf g w E k = [] := by
  rw [List.eq_nil_iff_forall_not_mem]
  intro p hp
  obtain ⟨r, _, _, h3, _⟩ := mem_packsOf.1 hp
  rw [h] at h3; cases h3

/-! ### trees are told by their rules -/
mutual
theorem TreeOf.end_uniq {g : Gram} {w : List Nat} : ∀ {t : Tree} {s : Sym} {i j j' : Nat}, TreeOf g w s t i j → TreeOf g w s t i j' → j = j'
  | .mk _ _ _, _, _, _, _, .leaf _, h => by cases h with
    | leaf _ => rfl
  | .mk _ _ ks, _, _, _, _, .node h h2, h' => by
    generalize hs : (⟨false, _⟩ : Sym) = s at h'
    cases h' with
    | node g1 g2 =>
      rw [h] at g1; cases g1
      exact TreesOf.end_uniq h2 g2
theorem TreesOf.end_uniq {g : Gram} {w : List Nat} : ∀ {ts : List Tree} {l : List Sym} {i j j' : Nat}, TreesOf g w l ts i j → TreesOf g w l ts i j' → j = j'
  | [], _, _, _, _, .nil, h => by cases h; rfl
  | _ :: _, _, _, _, _, .cons h1 h2, h => by
    cases h with
    | cons g1 g2 =>
      obtain rfl := TreeOf.end_uniq h1 g1
      exact TreesOf.end_uniq h2 g2
end

mutual
theorem TreeOf.dec {g : Gram} {w : List Nat} : ∀ {t u : Tree} {s : Sym} {i j i' j' : Nat} {x y : List Int}, TreeOf g w s t i j → TreeOf g w s u i' j' → t.pre ++ x = u.pre ++ y → t = u ∧ x = y
  | .mk _ _ _, u, _, _, _, _, _, x, y, .leaf _, h, e => by
    cases h with
    | leaf _ =>
      have e : (-1 : Int) :: ([] ++ x) = -1 :: ([] ++ y) := e
      exact ⟨rfl, by simpa using e⟩
  | .mk _ _ ks, u, _, _, _, _, _, x, y, .node h h2, h', e => by
    generalize hs : (⟨false, _⟩ : Sym) = s at h'
    cases h' with
    | leaf _ => cases hs
    | @node k' r' kids' _ _ g1 g2 =>
      have e : ((_ : Nat) : Int) :: (preL ks ++ x) = (k' : Int) :: (preL kids' ++ y) := e
      injection e with e1 e2
      have e1 := Int.ofNat_inj.1 e1
      subst e1
      rw [h] at g1; cases g1
      obtain ⟨rfl, rfl⟩ := TreesOf.dec h2 g2 e2
      exact ⟨rfl, rfl⟩
theorem TreesOf.dec {g : Gram} {w : List Nat} : ∀ {ts us : List Tree} {l : List Sym} {i j i' j' : Nat} {x y : List Int}, TreesOf g w l ts i j → TreesOf g w l us i' j' → preL ts ++ x = preL us ++ y → ts = us ∧ x = y
  | [], us, _, _, _, _, _, x, y, .nil, h, e => by
    cases h
    exact ⟨rfl, by simpa [preL] using e⟩
  | t :: ts, us, _, _, _, _, _, x, y, .cons h1 h2, h, e => by
    cases h with
    | @cons _ _ u us _ _ _ g1 g2 =>
      have e : (t.pre ++ preL ts) ++ x = (u.pre ++ preL us) ++ y := e
      rw [List.append_assoc, List.append_assoc] at e
      obtain ⟨rfl, e2⟩ := TreeOf.dec h1 g1 e
      obtain ⟨rfl, rfl⟩ := TreesOf.dec h2 g2 e2
      exact ⟨rfl, rfl⟩
end

/-! ### a forest's trees are trees of the word -/
section
variable {g : Gram} {w : List Nat} {E : List (List Nat)} {root : Key} {S : List Key}

theorem foOf_at {v : Nat} {k : Key} (hk : S[v]? = some k) : (foOf (S.map (mkNode g w E S))).leaf v = (if k.sym.term = true then some k.sym.n else none) ∧ (foOf (S.map (mkNode g w E S))).packs v = (packsOf g w E k).map (numPack S) := by
  unfold foOf
  simp only [List.getElem?_map, hk]
  exact ⟨rfl, rfl⟩

theorem trees_bound {to : Nat} : ∀ {l : List Sym} {i : Nat} {ks : List Key} {ts : List Tree}, (∀ q ∈ ks, q ∈ S) → NTs (foOf (S.map (mkNode g w E S))) (ks.map (place S)) ts → ks ∈ splits w E to l i →
    (∀ (q : Key) (t : Tree), q ∈ ks → t ∈ ts → NT (foOf (S.map (mkNode g w E S))) (place S q) t → TreeOf g w q.sym t q.frm q.to) → TreesOf g w l ts i to := by
  intro l
  induction l with
  | nil =>
    intro i ks ts hq hN h hS
    unfold splits at h
    split at h
    · rename_i e
      subst e
      rw [List.mem_singleton.1 h] at hN
      cases hN
      exact .nil
    · cases h
  | cons s l ih =>
    intro i ks ts hq hN h hS
    unfold splits at h
    obtain ⟨m, _, hm⟩ := List.mem_flatMap.1 h
    split at hm
    · obtain ⟨ks', h2, rfl⟩ := List.mem_map.1 hm
      cases hN with
      | cons h3 h4 =>
        exact .cons (hS ⟨s, i, m⟩ _ (List.mem_cons_self ..) (List.mem_cons_self ..) h3) (ih (fun q hq' => hq q (List.mem_cons_of_mem _ hq')) h4 h2 fun q t h5 h6 h7 => hS q t (List.mem_cons_of_mem _ h5) (List.mem_cons_of_mem _ h6) h7)
    · cases hm

theorem NT.tree (hK : Keys g w E root S) (hrs : StepK w E root) : ∀ (N : Nat) (T : Tree) (k : Key), T.pre.length < N → k ∈ S → NT (foOf (S.map (mkNode g w E S))) (place S k) T → TreeOf g w k.sym T k.frm k.to
  | 0, _, _, h, _, _ => by omega
  | N + 1, T, k, hN, hk, h => by
    have hat := place_at hk
    obtain ⟨hl, hp⟩ := foOf_at (g := g) (w := w) (E := E) hat
    cases h with
    | @leaf _ t h1 h2 =>
      rw [hl] at h2
      split at h2
      · rename_i ht
        cases h2
        have hst := stepB_iff.1 ((hK.reach k hk).step hrs)
        unfold Step at hst
        rw [if_pos ht] at hst
        obtain ⟨⟨st, sn⟩, kf, kt⟩ := k
        simp only at ht hst ⊢
        subst ht
        obtain ⟨h3, rfl⟩ := hst
        exact .leaf h3
      · cases h2
    | @node _ p ts h1 h2 h3 h4 =>
      rw [hp] at h3
      obtain ⟨kp, hkp, rfl⟩ := List.mem_map.1 h3
      obtain ⟨r, hr, e1, e2, e3⟩ := mem_packsOf.1 hkp
      have hsub : ∀ q ∈ kp.kids, q ∈ S := fun q hq => hK.closed k hk kp hkp q hq
      have hTs := trees_bound hsub h4 e3 (fun q t hq hm ht => NT.tree hK hrs N t q (by
        have h5 := preL_mem hm
        have h6 : (Tree.mk ((numPack S kp).rule : Int) 0 ts).pre.length = (preL ts).length + 1 := rfl
        omega) (hsub q hq) ht)
      have := TreeOf.node (g := g) (w := w) (k := kp.rule) hr hTs
      obtain ⟨⟨st, sn⟩, kf, kt⟩ := k
      simp only at e1 e2 this ⊢
      rw [e2, ← e1]
      exact this

theorem kids_uniq (hS : ∀ (T : Tree) (k : Key), k ∈ S → NT (foOf (S.map (mkNode g w E S))) (place S k) T → TreeOf g w k.sym T k.frm k.to) {to : Nat} :
    ∀ {l : List Sym} {i : Nat} {ks ks2 : List Key} {ts : List Tree}, ks ∈ splits w E to l i → ks2 ∈ splits w E to l i → (∀ q ∈ ks, q ∈ S) → (∀ q ∈ ks2, q ∈ S) →
      NTs (foOf (S.map (mkNode g w E S))) (ks.map (place S)) ts → NTs (foOf (S.map (mkNode g w E S))) (ks2.map (place S)) ts → ks = ks2 := by
  intro l
  induction l with
  | nil =>
    intro i ks ks2 ts h h2 _ _ _ _
    unfold splits at h h2
    split at h
    · rename_i e
      rw [if_pos e] at h2
      rw [List.mem_singleton.1 h, List.mem_singleton.1 h2]
    · cases h
  | cons s l ih =>
    intro i ks ks2 ts h h2 hq hq2 hN hN2
    unfold splits at h h2
    obtain ⟨m, _, hm⟩ := List.mem_flatMap.1 h
    obtain ⟨m2, _, hm2⟩ := List.mem_flatMap.1 h2
    split at hm
    · split at hm2
      · obtain ⟨ks', h3, rfl⟩ := List.mem_map.1 hm
        obtain ⟨ks2', h4, rfl⟩ := List.mem_map.1 hm2
        cases hN with
        | cons a1 a2 =>
          cases hN2 with
          | cons b1 b2 =>
            have c1 := hS _ ⟨s, i, m⟩ (hq _ (List.mem_cons_self ..)) a1
            have c2 := hS _ ⟨s, i, m2⟩ (hq2 _ (List.mem_cons_self ..)) b1
            obtain rfl : m = m2 := TreeOf.end_uniq c1 c2
            rw [ih h3 h4 (fun q hq' => hq q (List.mem_cons_of_mem _ hq')) (fun q hq' => hq2 q (List.mem_cons_of_mem _ hq')) a2 b2]
      · cases hm2
    · cases hm

theorem packs_nodup (g : Gram) (w : List Nat) (E : List (List Nat)) (k : Key) : (packsOf g w E k).Nodup := by
  rw [List.nodup_iff_pairwise_ne]
  refine (packs_sorted g w E k).imp ?_
  rintro a b hab rfl
  have irr : ∀ l : List Key, ¬ KLt l l := by
    intro l
    induction l with
    | nil => intro h; cases h
    | cons q l ih =>
      intro h
      cases h with
      | here _ _ h => omega
      | next h => exact ih h
  rcases hab with h | h
  · omega
  · exact irr _ h.2

theorem fo_good (hg : Valid g) (hK : Keys g w E root S) (hrs : StepK w E root) : (foOf (S.map (mkNode g w E S))).Good := by
  have hnn : (foOf (S.map (mkNode g w E S))).n = S.length := by unfold foOf; simp
  have hS : ∀ (T : Tree) (k : Key), k ∈ S → NT (foOf (S.map (mkNode g w E S))) (place S k) T → TreeOf g w k.sym T k.frm k.to := fun T k hk h => NT.tree hK hrs _ T k (Nat.lt_succ_self _) hk h
  have at_ : ∀ v, v < (foOf (S.map (mkNode g w E S))).n → ∃ k, S[v]? = some k ∧ k ∈ S ∧ place S k = v := fun v hv => by
    rw [hnn] at hv
    have h1 : S[v]? = some S[v] := List.getElem?_eq_getElem hv
    exact ⟨_, h1, List.mem_of_getElem? h1, place_of hK.nodup h1⟩
  have nt_lt : ∀ v T, NT (foOf (S.map (mkNode g w E S))) v T → v < (foOf (S.map (mkNode g w E S))).n := fun v T h => by
    cases h <;> assumption
  refine ⟨fun v hv p hp => ?_, fun v T T' h h' e => ?_, fun v hv hl a b p q ha hb he ts h h' => ?_⟩
  · obtain ⟨k, hk, hkm, hpl⟩ := at_ v hv
    obtain ⟨_, hps⟩ := foOf_at (g := g) (w := w) (E := E) hk
    rw [hps] at hp
    obtain ⟨kp, hkp, rfl⟩ := List.mem_map.1 hp
    obtain ⟨r, hr, e1, e2, e3⟩ := mem_packsOf.1 hkp
    have hr4 := (hg.right r (List.mem_of_getElem? hr)).2.1
    have hkl := splits_kids e3
    refine ⟨by show (kp.kids.map _).length ≤ 4; rw [List.length_map, hkl]; exact hr4, fun u hu => ?_⟩
    obtain ⟨q, hq, rfl⟩ := List.mem_map.1 (show u ∈ kp.kids.map (place S) from hu)
    rw [hnn]
    exact List.idxOf_lt_length_of_mem (hK.closed k hkm kp hkp q hq)
  · obtain ⟨k, hk, hkm, hpl⟩ := at_ v (nt_lt v T h)
    subst hpl
    have h1 := hS T k hkm h
    have h2 := hS T' k hkm h'
    exact (TreeOf.dec (x := []) (y := []) h1 h2 (by rw [e])).1
  · obtain ⟨k, hk, hkm, hpl⟩ := at_ v hv
    obtain ⟨_, hps⟩ := foOf_at (g := g) (w := w) (E := E) hk
    rw [hps, List.getElem?_map] at ha hb
    cases hka : (packsOf g w E k)[a]? with
    | none => rw [hka] at ha; cases ha
    | some kp =>
      cases hkb : (packsOf g w E k)[b]? with
      | none => rw [hkb] at hb; cases hb
      | some kq =>
        rw [hka] at ha
        rw [hkb] at hb
        obtain rfl := Option.some.inj ha
        obtain rfl := Option.some.inj hb
        have hkpm := List.mem_of_getElem? hka
        have hkqm := List.mem_of_getElem? hkb
        obtain ⟨r, hr, e1, e2, e3⟩ := mem_packsOf.1 hkpm
        obtain ⟨r2, hr2, f1, f2, f3⟩ := mem_packsOf.1 hkqm
        have he : kp.rule = kq.rule := he
        rw [he, hr2] at hr
        cases hr
        have hks : kp.kids = kq.kids := kids_uniq hS e3 f3 (fun q hq => hK.closed k hkm kp hkpm q hq) (fun q hq => hK.closed k hkm kq hkqm q hq) h h'
        have hpq : kp = kq := by cases kp; cases kq; simp only at he hks; subst he hks; rfl
        rw [← hpq] at hkb
        exact nodup_at (packs_nodup g w E k) hka hkb

theorem leaf_nopacks (hK : Keys g w E root S) : ∀ v, (foOf (S.map (mkNode g w E S))).leaf v ≠ none → (foOf (S.map (mkNode g w E S))).packs v = [] := fun v hv => by
  cases hk : S[v]? with
  | none =>
    unfold foOf at hv
    simp [hk] at hv
  | some k =>
    obtain ⟨h1, h2⟩ := foOf_at (g := g) (w := w) (E := E) hk
    rw [h1] at hv
    rw [h2]
    split at hv
    · rename_i ht
      rw [packsOf_term ht]; rfl
    · exact absurd rfl hv

theorem pks_packSum : ∀ (L : List Key), (L.map fun k => (mkNode g w E S k).packs.length).sum = packSum g w E L
  | [] => rfl
  | k :: L => by
    have := pks_packSum L
    unfold packSum at this ⊢
    simp only [List.map_cons, List.sum_cons, this]
    simp [mkNode]
end

/-! ### as many trees as are counted -/
/-! ### the first trees of a word -/
def WTrees (g : Gram) (w : List Nat) (most : Nat) (L : List Tree) (c : Int) : Prop :=
  CountVal (fun d => symT g w d ⟨false, g.start⟩ 0 w.length) c ∧
    (((∀ E, EndsOf g w E → stepB w E ⟨false, g.start⟩ 0 w.length = false) ∧ L = []) ∨ (most = 0 ∧ L = []) ∨
      ∃ E S, EndsOf g w E ∧ stepB w E ⟨false, g.start⟩ 0 w.length = true ∧ Keys g w E (rootKey g w) S ∧ Firsts (foOf (S.map (mkNode g w E S))) (place S (rootKey g w)) most L)

def OkC (most : Nat) (L : List Tree) (c : Int) : Prop := L.length = most ∨ (c ≠ -1 ∧ c ≤ L.length)
def FailC (most : Nat) (L : List Tree) (c : Int) : Prop := L.length < most ∧ (c = -1 ∨ (L.length : Int) < c)

theorem still_of_bound {T : Nat → Nat} (hm : ∀ d, T d ≤ T (d + 1)) (hb : ¬ Unbound T) : ∃ n, Still T n := by
  have aux : ∀ k d, (∀ e, T e < T d + k) → ∃ n, Still T n := by
    intro k
    induction k with
    | zero => intro d h; exact absurd (h d) zo
    | succ k ih =>
      intro d h
      by_cases h2 : ∃ e, d ≤ e ∧ T d < T e
      · obtain ⟨e, h3, h4⟩ := h2
        exact ih e fun e' => by have := h e'; omega
      · refine ⟨T d, d, fun e he => ?_⟩
        have h3 := mono_le hm he
        rcases Nat.lt_or_ge (T d) (T e) with h4 | h4
        · exact (h2 ⟨e, he, h4⟩).elim
        · omega
  by_cases h : ∃ B, ∀ d, T d < B
  · obtain ⟨B, h⟩ := h
    exact aux B 0 fun e => by have := h e; omega
  · refine (hb fun B => ?_).elim
    by_cases h2 : ∃ d, B ≤ T d
    · exact h2
    · exact (h ⟨B, fun d => by
        rcases Nat.lt_or_ge (T d) B with h3 | h3
        · exact h3
        · exact (h2 ⟨d, h3⟩).elim⟩).elim

theorem ends_uniqT {g : Gram} {w : List Nat} {E E' : List (List Nat)} (h : EndsOf g w E) (h' : EndsOf g w E') : E = E' := by
  refine List.ext_getElem (by rw [h.ok.size, h'.ok.size]) fun n h1 h2 => ?_
  have l1 := h.ok.row _ (List.getElem_mem h1)
  have l2 := h'.ok.row _ (List.getElem_mem h2)
  refine List.ext_getElem (by rw [l1, l2]) fun i h3 h4 => ?_
  refine Nat.eq_of_testBit_eq fun q => ?_
  rw [Bool.eq_iff_iff]
  have e1 : (E[n][i]).testBit q = true ↔ Der g w ⟨false, n⟩ i q := by
    rw [← h.iff n i q zo]
    constructor
    · intro hb; exact ⟨_, _, List.getElem?_eq_getElem h1, List.getElem?_eq_getElem h3, hb⟩
    · rintro ⟨row, x, r1, r2, r3⟩
      rw [List.getElem?_eq_getElem h1] at r1; cases r1
      rw [List.getElem?_eq_getElem h3] at r2; cases r2
      exact r3
  have e2 : (E'[n][i]).testBit q = true ↔ Der g w ⟨false, n⟩ i q := by
    rw [← h'.iff n i q zo]
    constructor
    · intro hb; exact ⟨_, _, List.getElem?_eq_getElem h2, List.getElem?_eq_getElem h4, hb⟩
    · rintro ⟨row, x, r1, r2, r3⟩
      rw [List.getElem?_eq_getElem h2] at r1; cases r1
      rw [List.getElem?_eq_getElem h4] at r2; cases r2
      exact r3
  rw [e1, e2]

section
variable {g : Gram} {w : List Nat} {most : Nat} {L : List Tree} {c : Int}

theorem WTrees.len (h : WTrees g w most L c) : L.length ≤ most := by
  rcases h.2 with ⟨_, rfl⟩ | ⟨_, rfl⟩ | ⟨E, S, hE, hst, hK, hF⟩
  · exact Nat.zero_le _
  · exact Nat.zero_le _
  · exact hF.len

theorem WTrees.small (h : WTrees g w most L c) : ∀ T ∈ L, T.pre.length ≤ 5000 := fun T hT => by
  rcases h.2 with ⟨_, rfl⟩ | ⟨_, rfl⟩ | ⟨E, S, hE, hst, hK, hF⟩
  · cases hT
  · cases hT
  · exact hF.small T hT

theorem WTrees.cut {n : Nat} {K : List Tree} {c' : Int} (h : WTrees g w most L c) (h2 : WTrees g w n K c') (hmn : most ≤ n) : L = K.take most := by
  rcases h.2 with ⟨h1, rfl⟩ | ⟨rfl, rfl⟩ | ⟨E, S, hE, hst, hK, hF⟩
  · rcases h2.2 with ⟨_, rfl⟩ | ⟨_, rfl⟩ | ⟨E', S', hE', hst', _⟩
    · simp
    · simp
    · rw [h1 E' hE'] at hst'; cases hst'
  · simp
  · rcases h2.2 with ⟨g1, _⟩ | ⟨rfl, rfl⟩ | ⟨E', S', hE', hst', hK', hF'⟩
    · rw [g1 E hE] at hst; cases hst
    · have := hF.len
      obtain rfl : L = [] := List.eq_nil_of_length_eq_zero zo
      simp
    · obtain rfl := ends_uniqT hE hE'
      obtain rfl := keys_uniq hK hK'
      exact firsts_prefix hF hF' hmn

theorem WTrees.cuniq {n : Nat} {K : List Tree} {c' : Int} (h : WTrees g w most L c) (h2 : WTrees g w n K c') : c = c' :=
  CountVal.uniq (fun d => symT_mono g w d _ _ _) h.1 h2.1
end

/-! ### core.Trees of a word's forest -/
theorem ctreesNone_spec (F : Frz) (m : Nat) : Abs.Spec CC 108 [.agg ⟨[.slice none 0 0, .int .i64 (-1)]⟩, .int .i64 (m : Nat)] F [] fun F' v o => o = [] ∧ v = .tuple ⟨[.slice none 0 0, .bool true]⟩ := by
  refine Abs.Spec.fn (n := 161) Tryd.func108 rfl rfl fun own => ?_
  refine AW.seq (AW.reg ?_)
  refine WT.boxT zr zr zr zr zr zr (fun i2 hi2 => ?_)
  refine zA ?_; refine zl hT 0 zr zr zr zr zr zr me zr ?_; refine zA ?_; (iterate 2 refine zx zr zr zr zr ?_); refine zA ?_
  refine AW.cond rfl (fun _ => ?_) (fun h => (by cases h))
  refine zA ?_
  exact AW.ret ⟨_, [], ⟨_, _, rfl, ⟨_, _, rfl, rfl, rfl⟩, rfl⟩, zsb, rfl, rfl⟩

theorem ctreesZero_spec (F : Frz) (na : Option Addr) (nn nc root : Nat) : Abs.Spec CC 108 [.agg ⟨[.slice na nn nc, .int .i64 root]⟩, .int .i64 ((0 : Nat) : Int)] F [] fun F' v o => o = [] ∧ v = .tuple ⟨[.slice none 0 0, .bool true]⟩ := by
  refine Abs.Spec.fn (n := 161) Tryd.func108 rfl rfl fun own => ?_
  refine AW.seq (AW.reg ?_)
  refine WT.boxT zr zr zr zr zr zr (fun i2 hi2 => ?_)
  refine zA ?_; refine zl hT 0 zr zr zr zr zr zr me zr ?_; refine zA ?_
  refine AW.cond rfl (fun _ => ?_) (fun h => (by cases h))
  refine zA ?_
  exact AW.ret ⟨_, [], ⟨_, _, rfl, ⟨_, _, rfl, rfl, rfl⟩, rfl⟩, zsb, rfl, rfl⟩

theorem Spec.addNil {f : FuncId} {args : List Value} {F : Frz} {P : Frz → Value → Prop} (h : Abs.Spec CC f args F [] fun F' v o => o = [] ∧ P F' v) : Abs.Spec CC f args F [] fun F' v o => o = [[]] ∧ P F' v := by
  intro own h0 hs
  obtain ⟨v, h', F', oout, h1, h2, h3, rfl, h4⟩ := h own h0 hs
  exact ⟨v, h', F', [[]], h1, h2, by simpa [St] using h3, rfl, h4⟩

theorem coreTrees_spec (F : Frz) (g : Gram) (hg : Valid g) {w : List Nat} (hw12 : w.length ≤ 12) {E : List (List Nat)} (hE : EndsOf g w E) {fa : Option Addr} {fn fc : Nat} {fr : Int} (hV : ForestV g w E F (.agg ⟨[.slice fa fn fc, .int .i64 fr]⟩)) {most : Nat} (hm : most ≤ 100) :
    Abs.Spec CC 108 [.agg ⟨[.slice fa fn fc, .int .i64 fr]⟩, .int .i64 (most : Nat)] F [] fun F' v o => ∃ B', o = [B'] ∧ ∃ L c, WTrees g w most L c ∧
      ((OkC most L c ∧ ∃ a n d B css bs, v = .tuple ⟨[.slice a n d, .bool true]⟩ ∧ B' = B ++ bs ∧ Bld tTC E0 a n d B css ∧ TOwnL css bs L) ∨ (FailC most L c ∧ v = .tuple ⟨[.slice none 0 0, .bool false]⟩)) := by
  rcases hV with ⟨hst, hv⟩ | ⟨hst, S, a, n, c, hv, hK, hA⟩
  · cases hv
    refine (Spec.addNil (ctreesNone_spec F most)).mono fun F' v o _ ⟨ho, hv⟩ => ⟨[], ho, [], 0, ⟨?_, .inl ⟨fun E' hE' => by rw [ends_uniqT hE' hE]; exact hst, rfl⟩⟩, .inl ⟨.inr ⟨by decide, by simp⟩, none, 0, 0, [], [], [], hv, rfl, Bld.nil_ _ _, .nil⟩⟩
    refine .inl ⟨0, still_zero fun d => ?_, rfl⟩
    rcases Nat.eq_zero_or_pos (symT g w d ⟨false, g.start⟩ 0 w.length) with e | e
    · exact e
    · have := (step_der hE (Nat.zero_le _)).2 (symT_der e)
      rw [hst] at this; cases this
  · cases hv
    have hroot := root_good hg w
    have hrm := hK.first
    have hpl := place_at hrm
    have hlt := (List.getElem?_eq_some_iff.1 hpl).1
    have e : (fun d => nodeT (S.map (mkNode g w E S)) d (place S (rootKey g w))) = fun d => symT g w d ⟨false, g.start⟩ 0 w.length := by
      funext d
      exact node_sym hg hE hK hroot hst d _ hrm
    have hok := nodes_ok hg hw12 hK hroot
    have hpr := nodes_prod hg hE hK hroot hst
    rcases Nat.eq_zero_or_pos most with h0 | h0
    · subst h0
      obtain ⟨cc, hcc⟩ : ∃ c, CountVal (fun d => symT g w d ⟨false, g.start⟩ 0 w.length) c := by
        by_cases hb : Unbound (fun d => symT g w d ⟨false, g.start⟩ 0 w.length)
        · exact ⟨-1, .inr ⟨hb, rfl⟩⟩
        · obtain ⟨n, hn⟩ := still_of_bound (fun d => symT_mono g w d ⟨false, g.start⟩ 0 w.length) hb
          exact ⟨_, .inl ⟨n, hn, rfl⟩⟩
      exact (Spec.addNil (ctreesZero_spec F fa fn fc _)).mono fun F' v o _ ⟨ho, hv⟩ => ⟨[], ho, [], cc, ⟨hcc, .inr (.inl ⟨rfl, rfl⟩)⟩, .inl ⟨.inl rfl, none, 0, 0, [], [], [], hv, rfl, Bld.nil_ _ _, .nil⟩⟩
    · refine (ctrees_spec F (fo_good hg hK hst) hok hpr hA (place S (rootKey g w)) (by rw [List.length_map]; exact hlt) (by rw [(foOf_at hpl).1]; rfl) (leaf_nopacks hK) ?_ h0 hm).mono fun F' v o _ ⟨B', ho, L, c, ⟨hF, hc⟩, hres⟩ => ⟨B', ho, L, c, ⟨by rw [← e]; exact hc, .inr (.inr ⟨E, S, hE, hst, hK, hF⟩)⟩, ?_⟩
      · have := pks_packSum (g := g) (w := w) (E := E) (S := S) S
        unfold pks
        rw [List.take_length, List.map_map]
        show (S.map fun k => (mkNode g w E S k).packs.length).sum ≤ _
        rw [this]
        exact Nat.le_trans (few_packs hg hw12 hK.nodup hK.reach) (by decide)
      · rcases hres with ⟨h1, h2⟩ | ⟨h1, h2, h3⟩
        · exact .inl ⟨h1, h2⟩
        · exact .inr ⟨⟨h1, h2⟩, h3⟩

/-! ### mean.Trees, and equal trees -/
def TreesRes (g : Gram) (w : List Nat) (most : Nat) (v : Value) (o : List (List (Nat × Blk))) : Prop :=
  ∃ B', o = [B'] ∧ ∃ L c, WTrees g w most L c ∧
      ((OkC most L c ∧ ∃ a n d B css bs, v = .tuple ⟨[.slice a n d, .int .i64 0]⟩ ∧ B' = B ++ bs ∧ Bld tTC E0 a n d B css ∧ TOwnL css bs L) ∨ (FailC most L c ∧ v = .tuple ⟨[.slice none 0 0, .int .i64 2]⟩))

theorem mtrees_spec (F : Frz) (hL : Laid F) (g : Gram) (hg : Valid g) {ga : Option Addr} {gm gc : Nat} (hr : Arr tRule F ga gm gc g.rules) {b : Option Addr} {n d : Nat} {w : List Nat} (hw : Arr tNat F b n d w) (hw12 : w.length ≤ 12) (hw2 : ∀ t ∈ w, t < g.terms) {most : Nat} (hm : most ≤ 100) :
    Abs.Spec CC 41 [.agg ⟨gramCells g ga gm gc⟩, .slice b n d, .int .i64 (most : Nat)] F [] fun F' v o => TreesRes g w most v o := by
  unfold gramCells
  refine Abs.Spec.fn (n := 34) Tryd.func41 rfl rfl fun own => ?_
  refine AW.seq (AW.reg ?_)
  refine WT.boxT zr zr zr zr zr zr (fun i3 hi3 => ?_)
  refine zA ?_; refine zl hT 0 zr zr zr zr zr zr me zr ?_; refine zA ?_
  refine WT.callV Tryd.func81 zr zr zr zr zr zr (mcheck_spec _ g hg hr hw hw12 hw2) (fun v hv => ?_)
  subst hv
  refine zA ?_
  refine AW.cond rfl (fun h => (by cases h)) (fun h => ?_)
  refine zA ?_
  refine AW.cond rfl (fun h => (by exfalso; simp at h; omega)) (fun h => ?_)
  refine zA ?_; refine zl hT 0 zr zr zr zr zr zr me zr ?_; refine zA ?_
  refine WT.callF0 Tryd.func106 zr zr zr zr zr zr (meanOf_spec _ hL g hg hr hw hw12) (fun F2 v hF2 hv => ?_)
  obtain ⟨E, hE, hv⟩ := hv
  have hform : ∃ fa fn fc fr, v = .agg ⟨[.slice fa fn fc, .int .i64 fr]⟩ := by
    rcases hv with ⟨_, rfl⟩ | ⟨_, S, a, n', c, rfl, _⟩
    · exact ⟨_, _, _, _, rfl⟩
    · exact ⟨_, _, _, _, rfl⟩
  obtain ⟨fa, fn, fc, fr, rfl⟩ := hform
  refine zA ?_
  refine WT.callN Tryd.func108 zr zr zr zr zr zr (coreTrees_spec _ g hg hw12 hE hv hm) (fun F3 v B3 hF3 hv3 => ?_)
  obtain ⟨L, c, hW, hres⟩ := hv3
  rcases hres with ⟨hok, a, n', d', B, css, bs, rfl, rfl, hB, hT'⟩ | ⟨hf, rfl⟩
  · refine zA ?_
    refine AW.cond rfl (fun h => (by cases h)) (fun h => ?_)
    refine zA ?_
    refine AW.ret ⟨_, [_], ⟨_, _, rfl, ⟨_, _, rfl, rfl, rfl⟩, rfl⟩, List.Sublist.cons_cons _ zsb, _, rfl, L, c, hW, .inl ⟨hok, _, _, _, _, _, _, rfl, rfl, hB, hT'⟩⟩
  · refine zA ?_
    refine AW.cond rfl (fun _ => ?_) (fun h => (by cases h))
    refine zA ?_
    refine AW.ret ⟨_, [_], ⟨_, _, rfl, ⟨_, _, rfl, rfl, rfl⟩, rfl⟩, List.Sublist.cons_cons _ zsb, _, rfl, L, c, hW, .inr ⟨hf, rfl⟩⟩

theorem treeEqF_spec (F : Frz) {a b : Option Addr} {m c d : Nat} {xs : List Tree} (hx : Arr tTree F a m c xs) (hy : Arr tTree F b m d xs) (hm : m ≤ 1000000)
    (hcmp : ∀ G lx ly (x : Tree), x ∈ xs → tTree.rel G lx x → tTree.rel G ly x → Abs.Spec CC 17 [.agg ⟨lx⟩, .agg ⟨ly⟩] G [] fun _ v o => o = [] ∧ v = .bool true) :
    Abs.Spec CC 45 [.slice a m c, .slice b m d, .func (.func 17) ⟨[]⟩ ⟨[]⟩] F [] fun _ v o => o = [] ∧ v = .bool true := by
  refine Abs.Spec.fn (n := 32) Tryd.func45 rfl rfl fun own => ?_
  have hxlen := hx.len
  refine zA ?_
  refine AW.cond rfl (fun h => (by exfalso; simp at h)) (fun _ => ?_)
  refine zA ?_
  refine AW.range (S := Unit) (fun _ => []) (fun _ => own) (fun j _ G => True) m () zr zr zr zr zr zr zr zr zr zo rfl rfl (fun _ => rfl) (fun _ => rfl) (SubK.of_map rfl) (OwnLe.refl _) trivial ?_ ?_
  · intro j _ F1 hF1 hj hP
    have hx1 := hx.mono hF1
    have hy1 := hy.mono hF1
    refine zA ?_
    refine WT.idxL hT hx1 zr zr zr zr zr zr zr zr zr zo (fun x hxj b1 off ro cs lx hb hp1 hrel => ?_)
    have hrelx := hrel
    obtain ⟨xr, xt, xks⟩ := x
    obtain ⟨xa, xn, xc, rfl, _⟩ := tTree_cases hrel
    refine zi (fo := 0) hT (by assumption) (by assumption) zr zr zr zr zr zr ?_
    refine WT.allocT hT zr zr zr zr zr zr (fun i8 hi8 => ?_)
    refine zA ?_; refine zs hT 0 0 zr zr zr zr zr zr zr zr zr zr zr zr ?_; refine zA ?_
    refine WT.idxL hT hy1 zr zr zr zr zr zr zr zr zr zo (fun y hyj b2 off2 ro2 cs2 ly hb2 hp2 hrel => ?_)
    obtain rfl : y = .mk xr xt xks := by rw [hxj] at hyj; exact (Option.some.inj hyj).symm
    have hrely := hrel
    obtain ⟨ya, yn, yc, rfl, _⟩ := tTree_cases hrel
    refine zi (fo := 0) hT (by assumption) (by assumption) zr zr zr zr zr zr ?_
    refine WT.allocT hT zr zr zr zr zr zr (fun i9 hi9 => ?_)
    refine zs hT 0 0 zr zr zr zr zr zr zr zr zr zr zr zr ?_; refine zA ?_; refine zl hT 1 zr zr zr zr zr zr me zr ?_; refine zl hT 0 zr zr zr zr zr zr me zr ?_
    refine WT.callC Tryd.func17 zr zr zr zr zr zr zr zr (hcmp _ _ _ _ (List.mem_of_getElem? hxj) hrelx hrely) (fun v hv => ?_)
    subst hv
    refine zA ?_
    refine AW.cond rfl (fun h => (by cases h)) (fun _ => ?_)
    refine AW.skip ?_
    exact ⟨(), SubK.of_map rfl, OwnLe.skip _ (OwnLe.skip _ (OwnLe.refl _)), trivial⟩
  · intro _ F1 hF1 hP
    refine zA ?_
    exact AW.ret ⟨_, [], ⟨_, _, rfl, rfl, rfl⟩, zsb, rfl, rfl⟩

theorem sameTree_spec : ∀ (N : Nat) (F : Frz) (lx ly : List Value) (x : Tree), x.pre.length < N → tTree.rel F lx x → tTree.rel F ly x → Abs.Spec CC 17 [.agg ⟨lx⟩, .agg ⟨ly⟩] F [] fun _ v o => o = [] ∧ v = .bool true
  | 0, _, _, _, _, h, _, _ => by omega
  | N + 1, F, lx, ly, .mk r t ks, hN, hx, hy => by
    obtain ⟨xa, xn, xc, rfl, hxa, hkb⟩ := tTree_cases hx
    obtain ⟨ya, yn, yc, rfl, hya, _⟩ := tTree_cases hy
    obtain rfl : yn = xn := by rw [hxa.len, hya.len]
    have hxl := hxa.len
    have hpe : (Tree.mk r t ks).pre.length = (preL ks).length + 1 := rfl
    refine Abs.Spec.fn (n := 24) Tryd.func17 rfl rfl fun own => ?_
    refine AW.seq (AW.reg ?_)
    refine WT.boxT zr zr zr zr zr zr (fun i2 hi2 => ?_)
    refine WT.boxT zr zr zr zr zr zr (fun i3 hi3 => ?_)
    refine zA ?_; refine zl hT 1 zr zr zr zr zr zr me zr ?_; refine zA ?_; refine zl hT 0 zr zr zr zr zr zr me zr ?_; refine zA ?_
    refine WT.know (v' := .bool true) 10 rfl (by congr 1; simp) ?_
    refine zA ?_; refine zl hT 1 zr zr zr zr zr zr me zr ?_; refine zA ?_; refine zl hT 0 zr zr zr zr zr zr me zr ?_; refine zA ?_
    refine WT.know (v' := .bool true) 17 rfl (by congr 1; simp) ?_
    refine zA ?_; refine zl hT 1 zr zr zr zr zr zr me zr ?_; refine zA ?_; refine zl hT 0 zr zr zr zr zr zr me zr ?_
    refine WT.callV Tryd.func45 zr zr zr zr zr zr (treeEqF_spec _ hxa hya zo (fun G lx ly x hm h1 h2 => sameTree_spec N G lx ly x (by have := preL_mem hm; omega) h1 h2)) (fun v hv => ?_)
    subst hv
    refine zA ?_
    exact AW.ret ⟨_, [], ⟨_, _, rfl, rfl, rfl⟩, zsb, rfl, rfl⟩

theorem sameTrees_spec (F : Frz) {a b : Option Addr} {m c d : Nat} {xs : List Tree} (hx : Arr tTree F a m c xs) (hy : Arr tTree F b m d xs) (hm : m ≤ 1000000) :
    Abs.Spec CC 45 [.slice a m c, .slice b m d, .func (.func 17) ⟨[]⟩ ⟨[]⟩] F [] fun _ v o => o = [] ∧ v = .bool true :=
  treeEqF_spec F hx hy hm fun G lx ly x _ h1 h2 => sameTree_spec _ G lx ly x (Nat.lt_succ_self _) h1 h2

/-! ### equal rules -/
theorem symSame_spec (F : Frz) {a b : Option Addr} {m c d : Nat} {xs : List Sym} (hx : Arr tSym F a m c xs) (hy : Arr tSym F b m d xs) (hm : m ≤ 1000000) :
    Abs.Spec CC 51 [.slice a m c, .slice b m d] F [] fun _ v o => o = [] ∧ v = .bool true := by
  refine Abs.Spec.fn (n := 26) Tryd.func51 rfl rfl fun own => ?_
  have hxlen := hx.len
  have hylen := hy.len
  refine zA ?_
  refine AW.cond rfl (fun hc => (by simp at hc)) (fun hc => ?_)
  refine zA ?_
  refine AW.range (S := Unit) (fun _ => []) (fun _ => _) (fun j _ G => True) m () zr zr zr zr zr zr zr zr zr zo rfl rfl (fun _ => rfl) (fun _ => rfl) (SubK.of_map rfl) (OwnLe.refl _) trivial ?_ ?_
  · intro j _ F1 hF1 hj _
    have hx1 := hx.mono hF1
    have hy1 := hy.mono hF1
    refine zA ?_; refine AW.draw (ps := []) zr zr ?_; refine zA ?_
    refine WT.idxL hT hx1 zr zr zr zr zr zr zr zr zr zo (fun x hxj b1 off ro cs lx hb hp1 hrel => ?_)
    obtain rfl : lx = _ := hrel
    refine zi (fo := 0) hT (by assumption) (by assumption) zr zr zr zr zr zr ?_; refine zA ?_
    refine WT.idxL hT hy1 zr zr zr zr zr zr zr zr zr zo (fun y hyj b2 off2 ro2 cs2 ly hb2 hp2 hrel2 => ?_)
    obtain rfl : ly = _ := hrel2
    obtain rfl : x = y := by rw [hxj] at hyj; exact Option.some.inj hyj
    refine zi (fo := 0) hT (by assumption) (by assumption) zr zr zr zr zr zr ?_; refine zp hT zr zr zr zr zr zr zr ?_; refine WT.nil ?_; refine And.intro trivial ?_
    refine AW.cond rfl (fun hc => ?_) (fun hc => ?_)
    · exfalso
      simp at hc
    · refine AW.skip ?_
      exact ⟨(), SubK.of_map rfl, zow, trivial⟩
  · intro _ F1 hF1 _
    refine zA ?_
    exact AW.ret ⟨_, [], ⟨_, _, rfl, rfl, rfl⟩, zsb, rfl, rfl⟩

theorem ruleSame_spec (F : Frz) {lx ly : List Value} (x : Rule) (hn : x.right.length ≤ 1000000) (hx : tRule.rel F lx x) (hy : tRule.rel F ly x) : Abs.Spec CC 50 [.agg ⟨lx⟩, .agg ⟨ly⟩] F [] fun _ v o => o = [] ∧ v = .bool true := by
  obtain ⟨xa, xn, xc, rfl, hxa⟩ := hx
  obtain ⟨ya, yn, yc, rfl, hya⟩ := hy
  obtain rfl : yn = xn := by rw [hxa.len, hya.len]
  have hxl := hxa.len
  refine Abs.Spec.fn (n := 17) Tryd.func50 rfl rfl fun own => ?_
  refine AW.seq (AW.reg ?_)
  refine WT.boxT zr zr zr zr zr zr (fun i2 hi2 => ?_)
  refine WT.boxT zr zr zr zr zr zr (fun i3 hi3 => ?_)
  refine zA ?_; refine zl hT 1 zr zr zr zr zr zr me zr ?_; refine zA ?_; refine zl hT 0 zr zr zr zr zr zr me zr ?_; refine zA ?_
  refine WT.know (v' := .bool true) 10 rfl (by congr 1; simp) ?_
  refine zA ?_; refine zl hT 1 zr zr zr zr zr zr me zr ?_; refine zA ?_; refine zl hT 0 zr zr zr zr zr zr me zr ?_
  refine WT.callV Tryd.func51 zr zr zr zr zr zr (symSame_spec _ hxa hya zo) (fun v hv => ?_)
  subst hv
  refine zA ?_
  exact AW.ret ⟨_, [], ⟨_, _, rfl, rfl, rfl⟩, zsb, rfl, rfl⟩

theorem ruleEqF_spec (F : Frz) {a b : Option Addr} {m c d : Nat} {xs : List Rule} (hx : Arr tRule F a m c xs) (hy : Arr tRule F b m d xs) (hm : m ≤ 1000000) (hrr : ∀ r ∈ xs, r.right.length ≤ 1000000) :
    Abs.Spec CC 49 [.slice a m c, .slice b m d, .func (.func 50) ⟨[]⟩ ⟨[]⟩] F [] fun _ v o => o = [] ∧ v = .bool true := by
  refine Abs.Spec.fn (n := 32) Tryd.func49 rfl rfl fun own => ?_
  have hxlen := hx.len
  refine zA ?_
  refine AW.cond rfl (fun h => (by exfalso; simp at h)) (fun _ => ?_)
  refine zA ?_
  refine AW.range (S := Unit) (fun _ => []) (fun _ => own) (fun j _ G => True) m () zr zr zr zr zr zr zr zr zr zo rfl rfl (fun _ => rfl) (fun _ => rfl) (SubK.of_map rfl) (OwnLe.refl _) trivial ?_ ?_
  · intro j _ F1 hF1 hj hP
    have hx1 := hx.mono hF1
    have hy1 := hy.mono hF1
    refine zA ?_
    refine WT.idxL hT hx1 zr zr zr zr zr zr zr zr zr zo (fun x hxj b1 off ro cs lx hb hp1 hrel => ?_)
    have hrelx := hrel
    obtain ⟨xa, xn, xc, rfl, _⟩ := hrel
    refine zi (fo := 0) hT (by assumption) (by assumption) zr zr zr zr zr zr ?_
    refine WT.allocT hT zr zr zr zr zr zr (fun i8 hi8 => ?_)
    refine zA ?_; refine zs hT 0 0 zr zr zr zr zr zr zr zr zr zr zr zr ?_; refine zA ?_
    refine WT.idxL hT hy1 zr zr zr zr zr zr zr zr zr zo (fun y hyj b2 off2 ro2 cs2 ly hb2 hp2 hrel => ?_)
    obtain rfl : y = x := by rw [hxj] at hyj; exact (Option.some.inj hyj).symm
    have hrely := hrel
    obtain ⟨ya, yn, yc, rfl, _⟩ := hrel
    refine zi (fo := 0) hT (by assumption) (by assumption) zr zr zr zr zr zr ?_
    refine WT.allocT hT zr zr zr zr zr zr (fun i9 hi9 => ?_)
    refine zs hT 0 0 zr zr zr zr zr zr zr zr zr zr zr zr ?_; refine zA ?_; refine zl hT 1 zr zr zr zr zr zr me zr ?_; refine zl hT 0 zr zr zr zr zr zr me zr ?_
    refine WT.callC Tryd.func50 zr zr zr zr zr zr zr zr (ruleSame_spec _ y (hrr y (List.mem_of_getElem? hxj)) hrelx hrely) (fun v hv => ?_)
    subst hv
    refine zA ?_
    refine AW.cond rfl (fun h => (by cases h)) (fun _ => ?_)
    refine AW.skip ?_
    exact ⟨(), SubK.of_map rfl, OwnLe.skip _ (OwnLe.skip _ (OwnLe.refl _)), trivial⟩
  · intro _ F1 hF1 hP
    refine zA ?_
    exact AW.ret ⟨_, [], ⟨_, _, rfl, rfl, rfl⟩, zsb, rfl, rfl⟩

/-! ### trees that are written over -/
theorem cells_flatT {F : Frz} {cs : List Value} {css : List (List Value)} (h : Cells tTC F cs css) : cs = css.flatten := by
  induction h with
  | nil => rfl
  | cons h1 _ ih => rw [h1.1, ih]; rfl

theorem flatT_get : ∀ {css : List (List Value)} {q : Nat} {x : List Value}, (∀ y ∈ css, y.length = 3) → css[q]? = some x → css.flatten[q * 3 + 2]? = x[2]?
  | [], _, _, _, h => by simp at h
  | y :: css, 0, x, h3, h => by
    obtain rfl : y = x := by simpa using h
    have := h3 y (List.mem_cons_self ..)
    rw [List.flatten_cons, List.getElem?_append_left zo]
  | y :: css, q + 1, x, h3, h => by
    have := h3 y (List.mem_cons_self ..)
    rw [List.flatten_cons, List.getElem?_append_right zo, show (q + 1) * 3 + 2 - y.length = q * 3 + 2 by omega]
    exact flatT_get (fun z hz => h3 z (List.mem_cons_of_mem _ hz)) (by simpa using h)

theorem flatT_len : ∀ {css : List (List Value)}, (∀ y ∈ css, y.length = 3) → css.flatten.length = css.length * 3
  | [], _ => rfl
  | y :: css, h3 => by
    rw [List.flatten_cons, List.length_append, h3 y (List.mem_cons_self ..), flatT_len fun z hz => h3 z (List.mem_cons_of_mem _ hz), List.length_cons]; omega

theorem TOwnL.three : ∀ {css : List (List Value)} {bs : List (Nat × Blk)} {ts : List Tree}, TOwnL css bs ts → ∀ y ∈ css, y.length = 3
  | _, _, _, .nil, y, hy => by cases hy
  | _, _, _, .cons h1 h2, y, hy => by
    rcases List.mem_cons.1 hy with rfl | hy
    · exact h1.shape.1
    · exact TOwnL.three h2 y hy

def over (hs : List Value) (off : Nat) : List Value := (hs.set (off + 0) (.int .i64 (-7))).set (off + 1) (.int .i64 (-7))

/-- A list of trees, the first j of them written over. -/
def SpI (N : Nat) (a : Option Addr) (n c : Nat) (X : List (Nat × Blk)) (j : Nat) : Prop :=
  n = 0 ∨ ∃ (kb : Nat) (hs : List Value) (done todo : List (Nat × Blk)) (css : List (List Value)) (ks : List Tree), a = some ⟨kb, 0, none⟩ ∧ c = 3 ∧ X = (kb, .cells false hs) :: (done ++ todo) ∧ hs.length = n * 3 ∧ (∀ (q : Nat) (x : List Value), j ≤ q → css[q]? = some x → hs[q * 3 + 2]? = x[2]?) ∧ css.length = n ∧ TOwnL (css.drop j) todo (ks.drop j) ∧ ∀ t ∈ ks, t.pre.length < N

theorem SpI.start {N : Nat} {a : Option Addr} {n c : Nat} {B bs : List (Nat × Blk)} {css : List (List Value)} {ks : List Tree} (hb : Bld tTC E0 a n c B css) (hL : TOwnL css bs ks) (hN : ∀ t ∈ ks, t.pre.length < N) : SpI N a n c (B ++ bs) 0 := by
  have hl := hb.len
  rcases hb.at_ with ⟨rfl, _⟩ | ⟨kb, hs, h1, h2, h3, h4, _⟩
  · exact Or.inl (by simpa using hl)
  · have e := cells_flatT h4
    subst e
    exact Or.inr ⟨kb, _, [], bs, css, ks, h1, h2, by rw [h3]; rfl, by rw [flatT_len hL.three, hl], fun q x _ hx => flatT_get hL.three hx, hl.symm, by simpa using hL, hN⟩

theorem SpI.step {N : Nat} {a : Option Addr} {n c : Nat} {X : List (Nat × Blk)} {j : Nat} (h : SpI N a n c X j) (hj : j < n) : ∃ kb hs done Bj todo r t a2 n2 c2 T, a = some ⟨kb, 0, none⟩ ∧ c = 3 ∧ X = (kb, .cells false hs) :: (done ++ (Bj ++ todo)) ∧
    TOwn [.int .i64 r, .int .i64 t, .slice a2 n2 c2] Bj T ∧ T.pre.length < N ∧ hs[j * 3 + 2]? = some (.slice a2 n2 c2) ∧ ∀ Bj', SpI N a n c ((kb, .cells false (over hs (j * 3))) :: (done ++ (Bj' ++ todo))) (j + 1) := by
  rcases h with h | ⟨kb, hs, done, todo, css, ks, rfl, rfl, rfl, h1, h2, h3, h4, h5⟩
  · omega
  · have hx : css.drop j = css[j]'zo :: css.drop (j + 1) := List.drop_eq_getElem_cons zo
    have hxj : css[j]? = some (css[j]'zo) := List.getElem?_eq_getElem zo
    generalize css[j]'zo = x at hx hxj
    rw [hx] at h4
    generalize hk : ks.drop j = kd at h4
    generalize hcd : css.drop (j + 1) = cd at h4
    cases h4 with
    | @cons _ Bj T _ bs' ts g1 g2 =>
      have hTm : T ∈ ks := List.mem_of_mem_drop (by rw [hk]; exact List.mem_cons_self ..)
      have hk2 : ks.drop (j + 1) = ts := by
        have := congrArg (List.drop 1) hk
        rw [List.drop_drop] at this
        simpa using this
      cases hT : T with
      | mk r t k2 =>
        subst hT
        have g1' := g1
        cases g1 with
        | @mk _ _ _ a2 n2 c2 B2 bs2 css2 q1 q2 q3 =>
          refine ⟨kb, hs, done, _, bs', r, t, a2, n2, c2, .mk r t k2, rfl, rfl, rfl, g1', h5 _ hTm, by rw [h2 j _ (Nat.le_refl _) hxj]; rfl, fun Bj' => Or.inr ⟨kb, _, done ++ Bj', bs', css, ks, rfl, rfl, by rw [List.append_assoc], by unfold over; rw [List.length_set, List.length_set]; exact h1, fun q y hq hy => ?_, h3, by rw [hk2, hcd]; exact g2, h5⟩⟩
          unfold over
          rw [List.getElem?_set_ne zo, List.getElem?_set_ne zo]
          exact h2 q y zo hy

theorem perm_sp {α : Type} (a k : α) (B d t o : List α) : (k :: (B ++ (a :: (d ++ (t ++ o))))).Perm (a :: (k :: (d ++ (B ++ (t ++ o))))) := by
  refine ((List.perm_middle (a := a) (l₁ := B) (l₂ := d ++ (t ++ o))).cons k).trans ((List.Perm.swap a k _).trans (((?_ : (B ++ (d ++ (t ++ o))).Perm (d ++ (B ++ (t ++ o)))).cons k).cons a))
  have := (List.perm_append_comm (l₁ := B) (l₂ := d)).append_right (t ++ o)
  simpa [List.append_assoc] using this

theorem spoil_spec : ∀ (N : Nat) (T : Tree) (r t : Int) (a : Option Addr) (n c : Nat) (X : List (Nat × Blk)), TOwn [.int .i64 r, .int .i64 t, .slice a n c] X T → T.pre.length < N → ∀ (F : Frz) (i off : Nat) (hs : List Value), hs[off + 2]? = some (.slice a n c) →
    Abs.Spec CC 48 [.pointer (some ⟨i, off, none⟩)] F [[(i, .cells false hs)], X] fun F' v o => ∃ X', o = [[(i, .cells false (over hs off))], X']
  | 0, _, _, _, _, _, _, _, _, h, _, _, _, _, _ => by omega
  | N + 1, T, r, t, a, n, c, X, hT', hN, F, i, off, hs, hsl => by
    have hlen := (List.getElem?_eq_some_iff.1 hsl).1
    have hsp : SpI N a n c X 0 ∧ n ≤ 1000000 := by
      cases hT' with
      | @mk _ t0 ks _ _ _ B bs css q1 q2 q3 =>
        have hpe : (Tree.mk r t0 ks).pre.length = (preL ks).length + 1 := rfl
        exact ⟨SpI.start q1 q2 fun k hk => by have := preL_mem hk; omega, by rw [q1.len, q2.len]; exact q3⟩
    obtain ⟨hsp, hn⟩ := hsp
    refine Abs.Spec.fn (n := 25) Tryd.func48 rfl rfl fun own => ?_
    refine zA ?_
    refine WT.storeAt hT 0 0 zr zr zr zr zr zr zr zr zr zr zo rfl rfl ?_
    refine zA ?_
    refine WT.storeAt hT 0 0 zr zr zr zr zr zr zr zr zr zr (by rw [List.length_set]; omega) rfl rfl ?_
    have hov : (over hs off)[off + 2]? = some (.slice a n c) := by
      unfold over
      rw [List.getElem?_set_ne zo, List.getElem?_set_ne zo]; exact hsl
    rw [show (hs.set (off + 0) (.int .i64 (-7))).set (off + 1) (.int .i64 (-7)) = over hs off from rfl]
    generalize over hs off = ys at hov ⊢
    refine zA ?_
    refine WT.loadAt hT 0 zr zr zr zr zr zr (List.mem_cons_self ..) rfl rfl hov ?_
    refine zA ?_
    refine AW.range (S := List (Nat × Blk)) (fun _ => []) (fun s => [(i, .cells false ys)] :: s :: own) (fun j s G => SpI N a n c s j) n X
      zr zr zr zr zr zr zr zr zr zo rfl rfl (fun _ => rfl) (fun _ => rfl) (SubK.of_map rfl) (OwnLe.refl _) hsp ?_ ?_
    · intro j s F1 hF1 hj hP
      obtain ⟨kb, hks, done, Bj, todo, r2, t2, a2, n2, c2, T2, rfl, rfl, rfl, hT2, hT2N, h3, hnext⟩ := SpI.step hP hj
      refine AW.le (own2 := [(i, .cells false ys)] :: [(kb, .cells false hks)] :: Bj :: (done ++ todo) :: own) (OwnLe.cons _ (OwnLe.flat ?_)) ?_
      · simp only [List.flatten_cons, List.nil_append, List.append_assoc, List.cons_append]
        exact List.Perm.cons _ (by
          have := (List.perm_append_comm (l₁ := Bj) (l₂ := done)).append_right (todo ++ own.flatten)
          simpa [List.append_assoc] using this.symm)
      refine zA ?_
      refine WT.loadAt hT 0 zr zr zr zr zr zr (List.mem_cons_self ..) rfl rfl hov ?_
      refine zA ?_
      refine WT.idxA (j := j) (s := 3) hT zr zr zr zr zr zr zr zr zr zo ?_
      refine WT.callF (oin := [[(kb, .cells false hks)], Bj]) Tryd.func48 zr zr zr zr zr zr (spoil_spec N T2 r2 t2 a2 n2 c2 Bj hT2 hT2N F1 kb (0 + j * 3) hks (by rw [Nat.zero_add]; exact h3)) ((List.Perm.swap _ _ _).trans (List.Perm.cons _ (List.Perm.swap _ _ _))) (fun F2 v oout hF2 hv => ?_)
      obtain ⟨Bj', rfl⟩ := hv
      refine WT.nil ?_
      refine ⟨(kb, .cells false (over hks (j * 3))) :: (done ++ (Bj' ++ todo)), SubK.of_map rfl, OwnLe.flat ?_, hnext Bj'⟩
      rw [Nat.zero_add]
      simp only [List.flatten_cons, List.nil_append, List.append_assoc, List.cons_append]
      exact perm_sp _ _ _ _ _ _
    · intro s F1 hF1 hP
      skip
      exact ⟨_, [_, _], rfl, zsb, _, rfl⟩

theorem okFail {most : Nat} {L : List Tree} {c : Int} (h : OkC most L c) (h' : FailC most L c) : False := by
  unfold OkC at h
  unfold FailC at h'
  omega

/-- What mean.Trees returned, read in one piece. -/
structure Out (g : Gram) (w : List Nat) (most : Nat) (B : List (Nat × Blk)) (a : Option Addr) (n d : Nat) (e : Int) (K : List Tree) : Prop where
  arr : ∀ G : Frz, (∀ i b, (i, b) ∈ B → G i = some b) → Arr tTree G a n d K
  sp : SpI 5001 a n d B 0
  len : n ≤ most
  res : ∃ L c, WTrees g w most L c ∧ ((e = 0 ∧ OkC most L c ∧ K = L) ∨ (e = 2 ∧ FailC most L c ∧ K = []))

theorem out_of {g : Gram} {w : List Nat} {most : Nat} {v : Value} {B' : List (Nat × Blk)} (h : ∃ L c, WTrees g w most L c ∧
      ((OkC most L c ∧ ∃ a n d B css bs, v = .tuple ⟨[.slice a n d, .int .i64 0]⟩ ∧ B' = B ++ bs ∧ Bld tTC E0 a n d B css ∧ TOwnL css bs L) ∨ (FailC most L c ∧ v = .tuple ⟨[.slice none 0 0, .int .i64 2]⟩))) :
    ∃ a n d e K, v = .tuple ⟨[.slice a n d, .int .i64 e]⟩ ∧ Out g w most B' a n d e K := by
  obtain ⟨L, c, hW, ⟨hok, a, n, d, B, css, bs, rfl, rfl, hB, hT⟩ | ⟨hf, rfl⟩⟩ := h
  · have hn : n = L.length := by rw [hB.len, hT.len]
    exact ⟨a, n, d, 0, L, rfl, fun G hG => hT.frozen hB (fun i b hm => hG i b (List.mem_append_left _ hm)) (fun i b hm => hG i b (List.mem_append_right _ hm)), SpI.start hB hT fun t ht => by have := hW.small t ht; omega, by have := hW.len; omega, L, c, hW, .inl ⟨rfl, hok, rfl⟩⟩
  · exact ⟨none, 0, 0, 2, [], rfl, fun G hG => Arr.nil_ _ _, Or.inl rfl, Nat.zero_le _, L, c, hW, .inr ⟨rfl, hf, rfl⟩⟩

theorem Out.same {g : Gram} {w : List Nat} {most : Nat} {B B' : List (Nat × Blk)} {a a' : Option Addr} {n d n' d' : Nat} {e e' : Int} {K K' : List Tree} (h : Out g w most B a n d e K) (h' : Out g w most B' a' n' d' e' K') : e' = e ∧ K' = K := by
  obtain ⟨L, c, hW, hr⟩ := h.res
  obtain ⟨L', c', hW', hr'⟩ := h'.res
  have hl : L = L' := by rw [hW.cut hW' (Nat.le_refl _), List.take_of_length_le hW'.len]
  have hc := hW.cuniq hW'
  subst hl hc
  rcases hr with ⟨rfl, h1, rfl⟩ | ⟨rfl, h1, rfl⟩ <;> rcases hr' with ⟨rfl, h2, rfl⟩ | ⟨rfl, h2, rfl⟩
  · exact ⟨rfl, rfl⟩
  · exact (okFail h1 h2).elim
  · exact (okFail h2 h1).elim
  · exact ⟨rfl, rfl⟩

theorem meanOwn_law (F : Frz) (hL : Laid F) {a b : Option Addr} {m n c d : Nat} {l w0 : List Int} (hl : Arr tInt F a m c l) (hw0 : Arr tInt F b n d w0) (hm : n ≤ 9223372036854775807) :
    Abs.Spec CC 9 [.slice a m c, .slice b n d] F [] fun _ v o => o = [] ∧ v = .bool true := by
  refine Abs.Spec.fn (n := 76) Tryd.func9 rfl rfl fun own => ?_
  refine zA ?_
  refine WT.callF0 Tryd.func10 zr zr zr zr zr zr (made_spec _ hl hw0 hm 4 (by decide)) (fun F1 v hF1 hv => ?_)
  obtain ⟨g, ga, gm, gc, wa, wn, wc, w, rfl, hg, hr, hw, hw1, hw2⟩ := hv
  have hL1 := hL.mono hF1
  have hgv := hg.valid
  have hrl := hr.len
  have hwl := hw.len
  have hgr := hg.rules
  have hrr : ∀ r ∈ g.rules, r.right.length ≤ 1000000 := fun r hr => by have := (hg.ok r hr).2.1; omega
  unfold gramCells
  refine zA ?_
  refine WT.allocT hT zr zr zr zr zr zr (fun i5 hi5 => ?_)
  refine zs hT 0 0 zr zr zr zr zr zr zr zr zr zr zr zr ?_; refine zA ?_; refine zl hT 0 zr zr zr zr zr zr me zr ?_
  refine WT.callN Tryd.func46 zr zr zr zr zr zr (copyOf_spec _ g hr zo hrr) (fun F2 v B2 hF2 hv => ?_)
  obtain ⟨ha, hc, rfl, hhb⟩ := hv
  unfold gramCells
  refine zA ?_
  refine WT.callN Tryd.func47 zr zr zr zr zr zr (numClone_spec _ (hw.mono hF2) zo) (fun F3 v Bv hF3 hv => ?_)
  obtain ⟨va, vc, rfl, hvv⟩ := hv
  skip
  refine WT.allocT hT zr zr zr zr zr zr (fun i6 hi6 => ?_)
  refine WT.freezeAll 1 rfl rfl (fun F4 hF4 hB4 => ?_)
  refine WT.freezeAll 2 rfl rfl (fun F5 hF5 hB5 => ?_)
  have hv5 : Arr tNat F5 va wn vc w := (hvv.arr hF4 hB4).mono hF5
  have hh5 : Arr tRule F5 ha gm hc g.rules := ((hhb.mono hF3).mono hF4).frozen hF5 hB5
  have hF15 := hF2.trans (hF3.trans (hF4.trans hF5))
  have hL5 := hL1.mono hF15
  have hr5 := hr.mono hF15
  have hw5 := hw.mono hF15
  refine zs hT 0 0 zr zr zr zr zr zr zr zr zr zr zr zr ?_; refine zA ?_; refine zl hT 3 zr zr zr zr zr zr me zr ?_; refine zA ?_
  refine WT.le (own2 := [(i6, .cells false [.int .i64 g.terms, .int .i64 g.nons, .int .i64 g.start, .slice ha gm hc])] :: [(i5, .cells false [.int .i64 g.terms, .int .i64 g.nons, .int .i64 g.start, .slice ga gm gc])] :: own) (OwnLe.flat (List.Perm.of_eq (by simp))) ?_
  refine WT.callN Tryd.func41 zr zr zr zr zr zr (mtrees_spec _ hL5 g hgv hr5 hw5 zo hw2 (most := 5) zo) (fun F6 v Ba hF6 hv => ?_)
  obtain ⟨ta, tn, tc, te, K, rfl, hA⟩ := out_of hv
  refine zA ?_; refine zl hT 2 zr zr zr zr zr zr me zr ?_; refine zA ?_
  refine WT.callN Tryd.func41 zr zr zr zr zr zr (mtrees_spec _ (hL5.mono hF6) g hgv (hr5.mono hF6) (hw5.mono hF6) zo hw2 (most := 5) zo) (fun F7 v Bb hF7 hv => ?_)
  obtain ⟨ua, un, uc, ue, K2, rfl, hB⟩ := out_of hv
  obtain ⟨rfl, rfl⟩ := hA.same hB
  refine WT.freezeAll 0 rfl rfl (fun F8 hF8 hB8 => ?_)
  have hb8 := hB.arr F8 hB8
  refine WT.le (own2 := Ba :: [(i6, .cells false [.int .i64 g.terms, .int .i64 g.nons, .int .i64 g.start, .slice ha gm hc])] :: [(i5, .cells false [.int .i64 g.terms, .int .i64 g.nons, .int .i64 g.start, .slice ga gm gc])] :: own) (OwnLe.flat (List.Perm.of_eq (by simp))) ?_
  have htn := hA.len
  have hF58 := hF6.trans (hF7.trans hF8)
  have hL8 := hL5.mono hF58
  have hr8 := hr5.mono hF58
  have hw8 := hw5.mono hF58
  have hh8 := hh5.mono hF58
  have hv8 := hv5.mono hF58
  refine zA ?_
  refine AW.range (S := List (Nat × Blk)) (fun _ => []) (fun s => s :: [(i6, .cells false [.int .i64 g.terms, .int .i64 g.nons, .int .i64 g.start, .slice ha gm hc])] :: [(i5, .cells false [.int .i64 g.terms, .int .i64 g.nons, .int .i64 g.start, .slice ga gm gc])] :: own) (fun j s G => SpI 5001 ta tn tc s j) tn Ba
    zr zr zr zr zr zr zr zr zr zo rfl rfl (fun _ => rfl) (fun _ => rfl) (SubK.of_map rfl) (OwnLe.refl _) hA.sp ?_ ?_
  · intro j s F9 hF9 hj hP
    obtain ⟨kb, hks, done, Bj, todo, r2, t2, a2, n2, c2, T2, rfl, rfl, rfl, hT2, hT2N, h3, hnext⟩ := SpI.step hP hj
    refine AW.le (own2 := [(kb, .cells false hks)] :: Bj :: (done ++ todo) :: [(i6, .cells false [.int .i64 g.terms, .int .i64 g.nons, .int .i64 g.start, .slice ha gm hc])] :: [(i5, .cells false [.int .i64 g.terms, .int .i64 g.nons, .int .i64 g.start, .slice ga gm gc])] :: own) (OwnLe.flat ?_) ?_
    · simp only [List.flatten_cons, List.nil_append, List.append_assoc, List.cons_append]
      exact List.Perm.cons _ (by
        have := ((List.perm_append_comm (l₁ := Bj) (l₂ := done)).append_right (todo ++ (i6, Blk.cells false [.int .i64 g.terms, .int .i64 g.nons, .int .i64 g.start, .slice ha gm hc]) :: (i5, Blk.cells false [.int .i64 g.terms, .int .i64 g.nons, .int .i64 g.start, .slice ga gm gc]) :: own.flatten)).symm
        simpa [List.append_assoc] using this)
    refine zA ?_
    refine WT.idxA (j := j) (s := 3) hT zr zr zr zr zr zr zr zr zr zo ?_
    refine WT.callF (oin := [[(kb, .cells false hks)], Bj]) Tryd.func48 zr zr zr zr zr zr (spoil_spec 5001 T2 r2 t2 a2 n2 c2 Bj hT2 hT2N F9 kb (0 + j * 3) hks (by rw [Nat.zero_add]; exact h3)) (List.Perm.refl _) (fun F10 v oout hF10 hv => ?_)
    obtain ⟨Bj', rfl⟩ := hv
    refine WT.nil ?_
    refine ⟨(kb, .cells false (over hks (j * 3))) :: (done ++ (Bj' ++ todo)), SubK.of_map rfl, OwnLe.flat ?_, hnext Bj'⟩
    rw [Nat.zero_add]
    simp only [List.flatten_cons, List.nil_append, List.append_assoc, List.cons_append]
    exact List.Perm.cons _ (by
      have := ((List.perm_append_comm (l₁ := Bj') (l₂ := done)).append_right (todo ++ (i6, Blk.cells false [.int .i64 g.terms, .int .i64 g.nons, .int .i64 g.start, .slice ha gm hc]) :: (i5, Blk.cells false [.int .i64 g.terms, .int .i64 g.nons, .int .i64 g.start, .slice ga gm gc]) :: own.flatten))
      simpa [List.append_assoc] using this)
  intro s F9 hF9 hP
  clear hP
  refine zA ?_; refine zl hT 1 zr zr zr zr zr zr me zr ?_; refine zA ?_
  refine WT.callN Tryd.func41 zr zr zr zr zr zr (mtrees_spec _ (hL8.mono hF9) g hgv (hh8.mono hF9) (hv8.mono hF9) zo hw2 (most := 5) zo) (fun F10 v Bc hF10 hv => ?_)
  obtain ⟨xa, xn, xc, xe, K3, rfl, hC⟩ := out_of hv
  obtain ⟨rfl, rfl⟩ := hB.same hC
  have hF810 := hF9.trans hF10
  refine zA ?_
  refine WT.callV Tryd.func42 zr zr zr zr zr zr (Abs.Spec.fact rfl (hL8.mono hF810)) (fun v hv => ?_)
  subst hv
  refine zA ?_
  refine WT.know (v' := .bool true) 59 rfl (by congr 1; simp) ?_
  refine zA ?_
  refine WT.callV Tryd.func30 zr zr zr zr zr zr (equal_spec _ (hv8.mono hF810) (hw8.mono hF810) zo) (fun v hv => ?_)
  rw [decide_eq_true rfl] at hv
  subst hv
  refine zA ?_; refine zl hT 3 zr zr zr zr zr zr me zr ?_; refine zA ?_; refine zl hT 2 zr zr zr zr zr zr me zr ?_
  refine WT.callV Tryd.func49 zr zr zr zr zr zr (ruleEqF_spec _ (hr8.mono hF810) (hh8.mono hF810) zo hrr) (fun v hv => ?_)
  subst hv
  refine zA ?_
  refine WT.freezeAll 0 rfl rfl (fun F11 hF11 hB11 => ?_)
  have y1 := (hb8.mono hF810).mono hF11
  have y2 := hC.arr F11 hB11
  obtain rfl : xn = un := by rw [y1.len, y2.len]
  have hun := hB.len
  refine WT.callV Tryd.func45 zr zr zr zr zr zr (sameTrees_spec _ y1 y2 zo) (fun v hv => ?_)
  subst hv
  refine zA ?_
  exact AW.ret ⟨_, [], ⟨_, _, rfl, rfl, rfl⟩, zsb, rfl, rfl⟩
end Go.Proofs.D

