/-
  Walks: what functions of the program do, over the abstract machine.
-/
import Derived.Test.YtbfmpklhcbfnaaaGreatDoorWk1
set_option linter.unusedVariables false
set_option maxRecDepth 20000
set_option maxHeartbeats 0
open Go Go.Abs Go.Proofs Go.Proofs.D
namespace Go.Proofs.D

/-- What the closure in core.Count has at hand. -/
structure CntC (F : Frz) (i1 i2 i3 i4 is ic cap : Nat) (na : Option Addr) (nn nc : Nat) (root : Int) : Prop where
  st : F i1 = some (.cells false [.slice (some ⟨is, 0, none⟩) nn cap])
  f : F i2 = some (.cells false [.slice na nn nc, .int .i64 root])
  ct : F i3 = some (.cells false [.slice (some ⟨ic, 0, none⟩) nn cap])
  self : F i4 = some (.cells false [.func (.func 99) ⟨[]⟩ ⟨[.pointer (some ⟨i1, 0, none⟩), .pointer (some ⟨i2, 0, none⟩), .pointer (some ⟨i3, 0, none⟩), .pointer (some ⟨i4, 0, none⟩)]⟩])

theorem CntC.mono {F G : Frz} {i1 i2 i3 i4 is ic cap : Nat} {na : Option Addr} {nn nc : Nat} {root : Int} (h : CntC F i1 i2 i3 i4 is ic cap na nn nc root) (hF : Frz.le F G) : CntC G i1 i2 i3 i4 is ic cap na nn nc root :=
  ⟨hF _ _ h.st, hF _ _ h.f, hF _ _ h.ct, hF _ _ h.self⟩

structure CInv (Ns : List Node) (st ct : List Nat) : Prop where
  l1 : st.length = Ns.length
  l2 : ct.length = Ns.length
  zero : ∀ u : Nat, st[u]? = some 0 → ct[u]? = some 0
  done : ∀ u : Nat, st[u]? = some 2 → ∃ c, Still (fun d => nodeT Ns d u) c ∧ ct[u]? = some (min c MAXC)
  vals : ∀ (u x : Nat), st[u]? = some x → x ≤ 2
  bnd : ∀ (u x : Nat), ct[u]? = some x → x ≤ MAXC

/-- What a visit leaves. -/
structure Visited (Ns : List Node) (st ct st' ct' : List Nat) (v : Nat) : Prop where
  inv : CInv Ns st' ct'
  at_ : st'[v]? = some 2
  old : ∀ (u x : Nat), st[u]? = some x → x ≠ 0 → st'[u]? = some x ∧ ct'[u]? = ct[u]?
  new : ∀ u : Nat, st'[u]? = some 1 → st[u]? = some 1
  fewer : st'.count 0 ≤ st.count 0

structure FOk (Ns : List Node) : Prop where
  few : Ns.length ≤ 1000000
  packs : ∀ x ∈ Ns, x.packs.length ≤ 1000000
  kid : ∀ u v, Kid Ns u v → u < Ns.length

/-- The loops of a visit. -/
structure VLoop (Ns : List Node) (st ct : List Nat) (v : Nat) (s c : List Nat) (val : Nat) : Prop where
  inv : CInv Ns s c
  at_ : s[v]? = some 1
  old : ∀ (u y : Nat), st[u]? = some y → y ≠ 0 → s[u]? = some y ∧ c[u]? = ct[u]?
  new : ∀ u : Nat, s[u]? = some 1 → u = v ∨ st[u]? = some 1
  fewer : s.count 0 < st.count 0
  val : c[v]? = some (min val MAXC)

structure VSt where
  st : List Nat
  ct : List Nat
  x : Nat

/-- Nodes that all have a tree. -/
def Prod (Ns : List Node) : Prop := ∀ v, v < Ns.length → ∃ d, 1 ≤ nodeT Ns d v

/-! ### trees of a grammar, counted -/
/-! ### a forest's nodes have as many trees as the grammar says -/
theorem nodes_ok {g : Gram} (hg : Valid g) {w : List Nat} (hw : w.length ≤ 12) {E : List (List Nat)} {root : Key} {S : List Key} (hK : Keys g w E root S) (hroot : GoodKey g w root) : FOk (S.map (mkNode g w E S)) where
  few := by
    rw [List.length_map]
    exact Nat.le_trans (good_few hg zo (fun k hk => (hK.reach k hk).good hg hroot) hK.nodup) (by decide)
  packs := fun x hx => by
    obtain ⟨k, hk, rfl⟩ := List.mem_map.1 hx
    have hgood := (hK.reach k hk).good hg hroot
    have := packsOf_len12 hg (E := E) (w := w) (show k.to ≤ 12 by have := hgood.2.2; omega)
    unfold mkNode
    rw [List.length_map]; omega
  kid := fun u v h => by
    obtain ⟨x, p, hx, hp, hu⟩ := h
    rw [List.getElem?_map] at hx
    cases hk : S[v]? with
    | none => rw [hk] at hx; cases hx
    | some k =>
      rw [hk] at hx
      obtain rfl := Option.some.inj hx
      obtain ⟨p', hp', rfl⟩ := List.mem_map.1 hp
      obtain ⟨q, hq, rfl⟩ := List.mem_map.1 hu
      have := hK.closed k (List.mem_of_getElem? hk) p' hp' q hq
      rw [List.length_map]
      exact List.idxOf_lt_length_of_mem this

def rootKey (g : Gram) (w : List Nat) : Key := ⟨⟨false, g.start⟩, 0, w.length⟩

theorem root_good {g : Gram} (hg : Valid g) (w : List Nat) : GoodKey g w (rootKey g w) := ⟨by unfold SymOk rootKey; simpa using hg.range.start, Nat.zero_le _, Nat.le_refl _⟩

/-- The forest over a table of ends. -/
def ForestV (g : Gram) (w : List Nat) (E : List (List Nat)) (F : Frz) (v : Value) : Prop :=
  (stepB w E ⟨false, g.start⟩ 0 w.length = false ∧ v = .agg ⟨[.slice none 0 0, .int .i64 (-1)]⟩) ∨
  (stepB w E ⟨false, g.start⟩ 0 w.length = true ∧ ∃ S a n c, v = .agg ⟨[.slice a n c, .int .i64 (place S (rootKey g w) : Nat)]⟩ ∧ Keys g w E (rootKey g w) S ∧ Arr tNode F a n c (S.map (mkNode g w E S)))

theorem ForestV.mono {g : Gram} {w : List Nat} {E : List (List Nat)} {F G : Frz} {v : Value} (h : ForestV g w E F v) (hF : Frz.le F G) : ForestV g w E G v := by
  rcases h with h | ⟨h1, S, a, n, c, h2, h3, h4⟩
  · exact .inl h
  · exact .inr ⟨h1, S, a, n, c, h2, h3, h4.mono hF⟩

/-! ### forest.Make, forest.Of -/
/-- A forest, or too many packs. -/
def MakeRes (g : Gram) (w : List Nat) (E : List (List Nat)) (F : Frz) (v : Value) : Prop :=
  (∃ s a n c r, s = .agg ⟨[.slice a n c, .int .i64 r]⟩ ∧ v = .tuple ⟨[s, .int .i64 0]⟩ ∧ ForestV g w E F s ∧ ∀ S, Keys g w E (rootKey g w) S → stepB w E ⟨false, g.start⟩ 0 w.length = true → packSum g w E S ≤ 20000) ∨
  (v = .tuple ⟨[.agg ⟨[.slice none 0 0, .int .i64 0]⟩, .int .i64 2]⟩ ∧ stepB w E ⟨false, g.start⟩ 0 w.length = true ∧ ∃ L : List Key, L.Nodup ∧ (∀ k ∈ L, Reachable g w E (rootKey g w) k) ∧ 20000 < packSum g w E L)

theorem keys_uniq {g : Gram} {w : List Nat} {E : List (List Nat)} {root : Key} {S S' : List Key} (h : Keys g w E root S) (h' : Keys g w E root S') : S = S' := by
  have hp : S.Perm S' := by
    rw [List.perm_ext_iff_of_nodup h.nodup h'.nodup]
    exact fun k => ⟨fun hk => h'.all (h.reach k hk), fun hk => h.all (h'.reach k hk)⟩
  refine List.Perm.eq_of_pairwise (le := fun x y => ltKey x y = true) (fun a b _ _ h1 h2 => ?_) h.sorted h'.sorted hp
  have := ltKey_swo.trans _ _ _ h1 h2
  rw [ltKey_swo.irrefl] at this; cases this

theorem fmake_spec (F : Frz) (hL : Laid F) (g : Gram) (hg : Valid g) {ga : Option Addr} {gm gc : Nat} (hr : Arr tRule F ga gm gc g.rules) {b : Option Addr} {n d : Nat} {w : List Nat} (hw : Arr tNat F b n d w) (hw12 : w.length ≤ 12)
    {a : Option Addr} {m c : Nat} {E : List (List Nat)} (hE : Arr (tList tU32) F a m c E) (hE2 : EndsOk g.nons w.length E) :
    Abs.Spec CC 63 [.agg ⟨gramCells g ga gm gc⟩, .slice b n d, .slice a m c] F [] fun F' v o => o = [] ∧ MakeRes g w E F' v := by
  unfold gramCells
  refine Abs.Spec.fn (n := 21) Tryz.func63 rfl rfl fun own => ?_
  refine AW.seq (AW.reg ?_)
  refine WT.boxT zr zr zr zr zr zr (fun i2 hi2 => ?_)
  refine WT.allocT hT zr zr zr zr zr zr (fun i4 hi4 => ?_)
  refine zA ?_; refine zl hT 1 zr zr zr zr zr zr me zr ?_; refine zA ?_
  refine WT.callF0 Tryz.func96 zr zr zr zr zr zr (build_spec _ hL g hg hr hw hw12 hE hE2 20000 (by decide)) (fun F2 v hF2 hv => ?_)
  have hres : (∃ a n c r, v = .tuple ⟨[.agg ⟨[.slice a n c, .int .i64 r]⟩, .bool true]⟩ ∧ ForestV g w E F2 (.agg ⟨[.slice a n c, .int .i64 r]⟩) ∧ ∀ S, Keys g w E (rootKey g w) S → stepB w E ⟨false, g.start⟩ 0 w.length = true → packSum g w E S ≤ 20000) ∨
      (v = .tuple ⟨[.agg ⟨[.slice none 0 0, .int .i64 0]⟩, .bool false]⟩ ∧ stepB w E ⟨false, g.start⟩ 0 w.length = true ∧ ∃ L : List Key, L.Nodup ∧ (∀ k ∈ L, Reachable g w E (rootKey g w) k) ∧ 20000 < packSum g w E L) := by
    rcases hv with ⟨h1, rfl⟩ | ⟨h1, h2⟩
    · exact .inl ⟨_, _, _, _, rfl, .inl ⟨h1, rfl⟩, fun S _ h2 => by rw [h1] at h2; cases h2⟩
    · rcases h2 with ⟨S, a, n, c, rfl, hK, hA, hs⟩ | ⟨rfl, hL⟩
      · exact .inl ⟨_, _, _, _, rfl, .inr ⟨h1, S, a, n, c, rfl, hK, hA⟩, fun S' hS' _ => by rw [keys_uniq hS' hK]; exact hs⟩
      · exact .inr ⟨rfl, h1, hL⟩
  clear hv
  rcases hres with ⟨xa, xn, xc, xr, rfl, hx, hx2⟩ | ⟨rfl, hx, hx2⟩
  · refine zA ?_
    refine WT.allocT hT zr zr zr zr zr zr (fun i5 hi5 => ?_)
    refine zs hT 0 0 zr zr zr zr zr zr zr zr zr zr zr zr ?_; refine zA ?_
    refine AW.cond rfl (fun h => (by cases h)) (fun h => ?_)
    refine zA ?_; refine zl hT 0 zr zr zr zr zr zr me zr ?_; refine zs hT 1 0 zr zr zr zr zr zr zr zr zr zr zr zr ?_; refine zA ?_
    exact AW.ret ⟨_, [], ⟨_, _, ⟨_, rfl, fun G h0 s0 => loadA_cells (s0.has (p := 1) rfl (List.mem_cons_self ..)) (readT_ok hT rfl)⟩, ⟨_, _, rfl, rfl, rfl⟩, rfl⟩, zsb, rfl, .inl ⟨_, _, _, _, _, rfl, rfl, hx, hx2⟩⟩
  · refine zA ?_
    refine WT.allocT hT zr zr zr zr zr zr (fun i5 hi5 => ?_)
    refine zs hT 0 0 zr zr zr zr zr zr zr zr zr zr zr zr ?_; refine zA ?_
    refine AW.cond rfl (fun _ => ?_) (fun h => (by cases h))
    refine zA ?_; refine zs hT 1 0 zr zr zr zr zr zr zr zr zr zr zr zr ?_; refine zA ?_
    exact AW.ret ⟨_, [], ⟨_, _, ⟨_, rfl, fun G h0 s0 => loadA_cells (s0.has (p := 1) rfl (List.mem_cons_self ..)) (readT_ok hT rfl)⟩, ⟨_, _, rfl, rfl, rfl⟩, rfl⟩, zsb, rfl, .inr ⟨rfl, hx, hx2⟩⟩

theorem forestOf_spec (F : Frz) (hL : Laid F) (g : Gram) (hg : Valid g) {ga : Option Addr} {gm gc : Nat} (hr : Arr tRule F ga gm gc g.rules) {b : Option Addr} {n d : Nat} {w : List Nat} (hw : Arr tNat F b n d w) (hw12 : w.length ≤ 12) (hw2 : ∀ t ∈ w, t < g.terms) :
    Abs.Spec CC 21 [.agg ⟨gramCells g ga gm gc⟩, .slice b n d] F [] fun F' v o => o = [] ∧ ∃ E, EndsOf g w E ∧ MakeRes g w E F' v := by
  unfold gramCells
  refine Abs.Spec.fn (n := 26) Tryz.func21 rfl rfl fun own => ?_
  refine AW.seq (AW.reg ?_)
  refine WT.boxT zr zr zr zr zr zr (fun i2 hi2 => ?_)
  refine WT.allocT hT zr zr zr zr zr zr (fun i4 hi4 => ?_)
  refine zA ?_; refine zl hT 1 zr zr zr zr zr zr me zr ?_; refine zA ?_
  refine WT.callV Tryz.func31 zr zr zr zr zr zr (accepts_spec _ hL g hg hr hw hw12 hw2) (fun v hv => ?_)
  subst hv
  refine zA ?_
  refine AW.cond rfl (fun h => (by cases h)) (fun h => ?_)
  refine zA ?_
  refine AW.draw (ps := [(0, 4)]) rfl rfl ?_
  refine zl hT 1 zr zr zr zr zr zr me zr ?_; refine zA ?_; refine zl hT 1 zr zr zr zr zr zr me zr ?_; refine zA ?_
  refine WT.callF0 Tryz.func57 zr zr zr zr zr zr (ends_spec _ hL g hg hr hw zo) (fun F1 v hF1 hv => ?_)
  obtain ⟨ea, ec, E, rfl, hE, hE2⟩ := hv
  refine WT.callF0 Tryz.func63 zr zr zr zr zr zr (fmake_spec _ (hL.mono hF1) g hg (hr.mono hF1) (hw.mono hF1) hw12 hE hE2.ok) (fun F2 v hF2 hv => ?_)
  rcases hv with ⟨s, a, n', c, r, rfl, rfl, hx, hx2⟩ | ⟨rfl, hx, hx2⟩
  · refine zA ?_; refine zs hT 0 0 zr zr zr zr zr zr zr zr zr zr zr zr ?_; refine zA ?_
    refine ⟨zrC, ?_⟩
    exact AW.ret ⟨_, [], ⟨_, _, ⟨_, rfl, fun G h0 s0 => loadA_cells (s0.has (p := 0) rfl (List.mem_cons_self ..)) (readT_ok hT rfl)⟩, ⟨_, _, rfl, rfl, rfl⟩, rfl⟩, zsb, rfl, E, hE2, .inl ⟨_, _, _, _, _, rfl, rfl, hx, hx2⟩⟩
  · refine zA ?_; refine zs hT 0 0 zr zr zr zr zr zr zr zr zr zr zr zr ?_; refine zA ?_
    refine ⟨zrC, ?_⟩
    exact AW.ret ⟨_, [], ⟨_, _, ⟨_, rfl, fun G h0 s0 => loadA_cells (s0.has (p := 0) rfl (List.mem_cons_self ..)) (readT_ok hT rfl)⟩, ⟨_, _, rfl, rfl, rfl⟩, rfl⟩, zsb, rfl, E, hE2, .inr ⟨rfl, hx, hx2⟩⟩

structure CpS where
  j : Nat
  a : Option Addr
  c : Nat
  B : List (Nat × Blk)

/-! ### trees of a part -/
/-! ### counts -/
theorem CountVal.some {T : Nat → Nat} {c : Int} (h : CountVal T c) (hc : c ≠ 0) : ∃ d, 1 ≤ T d := by
  rcases h with ⟨n, ⟨D, hD⟩, h2⟩ | ⟨h, _⟩
  · refine ⟨D, ?_⟩
    rw [hD D (Nat.le_refl _)]
    rcases Nat.eq_zero_or_pos n with e | e
    · subst e; exact absurd h2 (by simpa using hc)
    · exact e
  · exact h 1

/-! ### a grammar with a new start symbol -/
end Go.Proofs.D

set_option linter.unusedVariables false
set_option maxRecDepth 20000
set_option maxHeartbeats 0
open Go Go.Abs Go.Proofs Go.Proofs.D
namespace Go.Abs
section
variable {C : Ctx} {T : RT} {n : Nat} {k : Kno} {F : Frz} {own : Own} {ops rest : List Oper} {o : Oper} {Q : Kno → Frz → Own → List Rec → Prop} {args' : List Value}
end
end Go.Abs
namespace Go.Proofs.D

/-! ### the order of nodes -/
/-! ### Index and Contains of truth values -/
def tBool : Ty Bool where
  size := 1
  rel := fun _ l x => l = [.bool x]
  len := fun _ _ _ h => by subst h; rfl
  one := fun _ _ _ h => by subst h; rfl
  mono := fun _ _ _ _ _ h => h

/-! ### the shape of a forest -/
/-- Keys that follow each other. -/
def Chain (to : Nat) : List Sym → Nat → List Key → Prop
  | [], i, ks => ks = [] ∧ i = to
  | s :: l, i, ks => ∃ q ks', ks = q :: ks' ∧ q.sym = s ∧ q.frm = i ∧ Chain to l q.to ks'

/-- What the law looks at in a node's pack. -/
structure PackOk (g : Gram) (S : List Key) (k : Key) (p : NPack) (kp : KPack) : Prop where
  num : p = numPack S kp
  rule : ∃ r, g.rules[kp.rule]? = some r ∧ r.left = k.sym.n ∧ Chain k.to r.right k.frm kp.kids
  ins : ∀ q ∈ kp.kids, q ∈ S

structure NodeOk (g : Gram) (w : List Nat) (S : List Key) (k : Key) (x : Node) : Prop where
  key : x.key = k
  term : k.sym.term = true → k.to = k.frm + 1 ∧ k.to ≤ w.length ∧ w[k.frm]? = some k.sym.n ∧ x.packs = []
  non : k.sym.term = false → x.packs ≠ []
  pack : ∀ p ∈ x.packs, ∃ kp, PackOk g S k p kp
  sorted : x.packs.Pairwise fun x y => cmpNPack x y < 0

/-! ### the tables of ends that the laws make by themselves -/
/-- A row that is filled up to place i, and there up to end j. -/
structure RowTo (g : Gram) (w : List Nat) (n i j : Nat) (row : List Nat) : Prop where
  len : row.length = w.length + 1
  bit : ∀ p x, row[p]? = some x → ∀ q, x.testBit q = true ↔ ((p < i ∨ (p = i ∧ q < j)) ∧ Der g w ⟨false, n⟩ p q)

theorem RowTo.skip {g : Gram} {w : List Nat} {n i j : Nat} {row : List Nat} (h : RowTo g w n i j row) (hd : ¬ Der g w ⟨false, n⟩ i j) : RowTo g w n i (j + 1) row where
  len := h.len
  bit := fun p x hx q => by
    rw [h.bit p x hx q]
    constructor
    · rintro ⟨h1, h2⟩
      exact ⟨by omega, h2⟩
    · rintro ⟨h1 | ⟨rfl, h1⟩, h2⟩
      · exact ⟨.inl h1, h2⟩
      · rcases Nat.lt_or_ge q j with h3 | h3
        · exact ⟨.inr ⟨rfl, h3⟩, h2⟩
        · obtain rfl : q = j := by omega
          exact absurd h2 hd

structure PtS where
  a : Option Addr
  m : Nat
  c : Nat
  B : List (Nat × Blk)
  vs : List Value
  bs : List (Nat × Blk)
  E : List (List Nat)


/-! ### forest.Same, where both are the same -/
theorem packEqF_spec (F : Frz) {a b : Option Addr} {m c d : Nat} {xs : List NPack} (hx : Arr tNPack F a m c xs) (hy : Arr tNPack F b m d xs) (hm : m ≤ 1000000)
    (hcmp : ∀ G lx ly (x : NPack), x ∈ xs → tNPack.rel G lx x → tNPack.rel G ly x → Abs.Spec CC 61 [.agg ⟨lx⟩, .agg ⟨ly⟩] G [] fun _ v o => o = [] ∧ v = .bool true) :
    Abs.Spec CC 60 [.slice a m c, .slice b m d, .func (.func 61) ⟨[]⟩ ⟨[]⟩] F [] fun _ v o => o = [] ∧ v = .bool true := by
  refine Abs.Spec.fn (n := 32) Tryz.func60 rfl rfl fun own => ?_
  have hxlen := hx.len
  refine zA ?_
  refine AW.cond rfl (fun h => (by exfalso; simp at h)) (fun _ => ?_)
  refine zA ?_
  refine AW.range (S := Unit) (fun _ => []) (fun _ => own) (fun j _ G => True) m () zr zr zr zr zr zr zr zr zr zo rfl rfl (fun _ => rfl) (fun _ => rfl) (SubK.of_map rfl) (OwnLe.refl _) trivial ?_ ?_
  · intro j _ F1 hF1 hj hP
    have hx1 := hx.mono hF1
    have hy1 := hy.mono hF1
    refine zA ?_
    refine WT.idxL hT hx1 zr zr zr zr zr zr zr zr zr zo (fun x hxj b1 off ro cs lx hb hp1 hrel => ?_)
    have hrelx := hrel
    obtain ⟨xa, xn, xc, rfl, _⟩ := hrel
    refine zi (fo := 0) hT (by assumption) (by assumption) zr zr zr zr zr zr ?_
    refine WT.allocT hT zr zr zr zr zr zr (fun i8 hi8 => ?_)
    refine zA ?_; refine zs hT 0 0 zr zr zr zr zr zr zr zr zr zr zr zr ?_; refine zA ?_
    refine WT.idxL hT hy1 zr zr zr zr zr zr zr zr zr zo (fun y hyj b2 off2 ro2 cs2 ly hb2 hp2 hrel => ?_)
    obtain rfl : y = x := by rw [hxj] at hyj; exact (Option.some.inj hyj).symm
    have hrely := hrel
    obtain ⟨ya, yn, yc, rfl, _⟩ := hrel
    refine zi (fo := 0) hT (by assumption) (by assumption) zr zr zr zr zr zr ?_
    refine WT.allocT hT zr zr zr zr zr zr (fun i9 hi9 => ?_)
    refine zs hT 0 0 zr zr zr zr zr zr zr zr zr zr zr zr ?_; refine zA ?_; refine zl hT 1 zr zr zr zr zr zr me zr ?_; refine zl hT 0 zr zr zr zr zr zr me zr ?_
    refine WT.callC Tryz.func61 zr zr zr zr zr zr zr zr (hcmp _ _ _ y (List.mem_of_getElem? hxj) hrelx hrely) (fun v hv => ?_)
    subst hv
    refine zA ?_
    refine AW.cond rfl (fun h => (by cases h)) (fun _ => ?_)
    refine AW.skip ?_
    exact ⟨(), SubK.of_map rfl, OwnLe.skip _ (OwnLe.skip _ (OwnLe.refl _)), trivial⟩
  · intro _ F1 hF1 hP
    refine zA ?_
    exact AW.ret ⟨_, [], ⟨_, _, rfl, rfl, rfl⟩, zsb, rfl, rfl⟩

theorem nodeEqF_spec (F : Frz) {a b : Option Addr} {m c d : Nat} {xs : List Node} (hx : Arr tNode F a m c xs) (hy : Arr tNode F b m d xs) (hm : m ≤ 1000000)
    (hcmp : ∀ G lx ly (x : Node), x ∈ xs → tNode.rel G lx x → tNode.rel G ly x → Abs.Spec CC 59 [.agg ⟨lx⟩, .agg ⟨ly⟩] G [] fun _ v o => o = [] ∧ v = .bool true) :
    Abs.Spec CC 58 [.slice a m c, .slice b m d, .func (.func 59) ⟨[]⟩ ⟨[]⟩] F [] fun _ v o => o = [] ∧ v = .bool true := by
  refine Abs.Spec.fn (n := 32) Tryz.func58 rfl rfl fun own => ?_
  have hxlen := hx.len
  refine zA ?_
  refine AW.cond rfl (fun h => (by exfalso; simp at h)) (fun _ => ?_)
  refine zA ?_
  refine AW.range (S := Unit) (fun _ => []) (fun _ => own) (fun j _ G => True) m () zr zr zr zr zr zr zr zr zr zo rfl rfl (fun _ => rfl) (fun _ => rfl) (SubK.of_map rfl) (OwnLe.refl _) trivial ?_ ?_
  · intro j _ F1 hF1 hj hP
    have hx1 := hx.mono hF1
    have hy1 := hy.mono hF1
    refine zA ?_
    refine WT.idxL hT hx1 zr zr zr zr zr zr zr zr zr zo (fun x hxj b1 off ro cs lx hb hp1 hrel => ?_)
    have hrelx := hrel
    obtain ⟨xa, xn, xc, rfl, _⟩ := hrel
    refine zi (fo := 0) hT (by assumption) (by assumption) zr zr zr zr zr zr ?_
    refine WT.allocT hT zr zr zr zr zr zr (fun i8 hi8 => ?_)
    refine zA ?_; refine zs hT 0 0 zr zr zr zr zr zr zr zr zr zr zr zr ?_; refine zA ?_
    refine WT.idxL hT hy1 zr zr zr zr zr zr zr zr zr zo (fun y hyj b2 off2 ro2 cs2 ly hb2 hp2 hrel => ?_)
    obtain rfl : y = x := by rw [hxj] at hyj; exact (Option.some.inj hyj).symm
    have hrely := hrel
    obtain ⟨ya, yn, yc, rfl, _⟩ := hrel
    refine zi (fo := 0) hT (by assumption) (by assumption) zr zr zr zr zr zr ?_
    refine WT.allocT hT zr zr zr zr zr zr (fun i9 hi9 => ?_)
    refine zs hT 0 0 zr zr zr zr zr zr zr zr zr zr zr zr ?_; refine zA ?_; refine zl hT 1 zr zr zr zr zr zr me zr ?_; refine zl hT 0 zr zr zr zr zr zr me zr ?_
    refine WT.callC Tryz.func59 zr zr zr zr zr zr zr zr (hcmp _ _ _ y (List.mem_of_getElem? hxj) hrelx hrely) (fun v hv => ?_)
    subst hv
    refine zA ?_
    refine AW.cond rfl (fun h => (by cases h)) (fun _ => ?_)
    refine AW.skip ?_
    exact ⟨(), SubK.of_map rfl, OwnLe.skip _ (OwnLe.skip _ (OwnLe.refl _)), trivial⟩
  · intro _ F1 hF1 hP
    refine zA ?_
    exact AW.ret ⟨_, [], ⟨_, _, rfl, rfl, rfl⟩, zsb, rfl, rfl⟩


theorem samePack_spec (F : Frz) {lx ly : List Value} (x : NPack) (hx : tNPack.rel F lx x) (hy : tNPack.rel F ly x) : Abs.Spec CC 61 [.agg ⟨lx⟩, .agg ⟨ly⟩] F [] fun _ v o => o = [] ∧ v = .bool true := by
  obtain ⟨xa, xn, xc, rfl, hxa, hxb⟩ := hx
  obtain ⟨ya, yn, yc, rfl, hya, hyb⟩ := hy
  have hxl := hxa.len
  have hyl := hya.len
  refine Abs.Spec.fn (n := 17) Tryz.func61 rfl rfl fun own => ?_
  refine AW.seq (AW.reg ?_)
  refine WT.boxT zr zr zr zr zr zr (fun i2 hi2 => ?_)
  refine WT.boxT zr zr zr zr zr zr (fun i3 hi3 => ?_)
  refine zA ?_; refine zl hT 1 zr zr zr zr zr zr me zr ?_; refine zA ?_; refine zl hT 0 zr zr zr zr zr zr me zr ?_; refine zA ?_
  refine WT.know (v' := .bool true) 10 rfl (by congr 1; simp) ?_
  refine zA ?_; refine zl hT 1 zr zr zr zr zr zr me zr ?_; refine zA ?_; refine zl hT 0 zr zr zr zr zr zr me zr ?_
  refine WT.callV Tryz.func14 zr zr zr zr zr zr (equal_spec _ hxa hya zo) (fun v hv => ?_)
  subst hv
  rw [decide_eq_true rfl]
  refine zA ?_
  exact AW.ret ⟨_, [], ⟨_, _, rfl, rfl, rfl⟩, zsb, rfl, rfl⟩

theorem sameNode_spec (F : Frz) {lx ly : List Value} (x : Node) (hf : x.packs.length ≤ 1000000) (hx : tNode.rel F lx x) (hy : tNode.rel F ly x) : Abs.Spec CC 59 [.agg ⟨lx⟩, .agg ⟨ly⟩] F [] fun _ v o => o = [] ∧ v = .bool true := by
  obtain ⟨xa, xn, xc, rfl, hxa⟩ := hx
  obtain ⟨ya, yn, yc, rfl, hya⟩ := hy
  obtain rfl : yn = xn := by rw [hxa.len, hya.len]
  have hxl := hxa.len
  refine Abs.Spec.fn (n := 31) Tryz.func59 rfl rfl fun own => ?_
  refine AW.seq (AW.reg ?_)
  refine WT.boxT zr zr zr zr zr zr (fun i2 hi2 => ?_)
  refine WT.boxT zr zr zr zr zr zr (fun i3 hi3 => ?_)
  refine zA ?_; refine zl hT 1 zr zr zr zr zr zr me zr ?_; refine zA ?_; refine zl hT 0 zr zr zr zr zr zr me zr ?_; refine zq hT zr zr zr zr zr zr zr ?_; refine zA ?_
  refine WT.know (v' := .bool true) 10 rfl (by congr 1; simp) ?_
  refine zA ?_; refine zl hT 1 zr zr zr zr zr zr me zr ?_; refine zA ?_; refine zl hT 0 zr zr zr zr zr zr me zr ?_; refine zA ?_
  refine WT.know (v' := .bool true) 17 rfl (by congr 1; simp) ?_
  refine zA ?_; refine zl hT 1 zr zr zr zr zr zr me zr ?_; refine zA ?_; refine zl hT 0 zr zr zr zr zr zr me zr ?_; refine zA ?_
  refine WT.know (v' := .bool true) 24 rfl (by congr 1; simp) ?_
  refine zA ?_; refine zl hT 1 zr zr zr zr zr zr me zr ?_; refine zA ?_; refine zl hT 0 zr zr zr zr zr zr me zr ?_
  refine WT.callV Tryz.func60 zr zr zr zr zr zr (packEqF_spec _ hxa hya zo (fun G lx ly x _ h1 h2 => samePack_spec G x h1 h2)) (fun v hv => ?_)
  subst hv
  refine zA ?_
  exact AW.ret ⟨_, [], ⟨_, _, rfl, rfl, rfl⟩, zsb, rfl, rfl⟩

theorem same_spec (F : Frz) {a b : Option Addr} {m c d : Nat} {r : Int} {Ns : List Node} (hf : ∀ x ∈ Ns, x.packs.length ≤ 1000000) (hm : m ≤ 1000000) (hx : Arr tNode F a m c Ns) (hy : Arr tNode F b m d Ns) :
    Abs.Spec CC 19 [.agg ⟨[.slice a m c, .int .i64 r]⟩, .agg ⟨[.slice b m d, .int .i64 r]⟩] F [] fun _ v o => o = [] ∧ v = .bool true := by
  refine Abs.Spec.fn (n := 17) Tryz.func19 rfl rfl fun own => ?_
  refine AW.seq (AW.reg ?_)
  refine WT.boxT zr zr zr zr zr zr (fun i2 hi2 => ?_)
  refine WT.boxT zr zr zr zr zr zr (fun i3 hi3 => ?_)
  refine zA ?_; refine zl hT 1 zr zr zr zr zr zr me zr ?_; refine zA ?_; refine zl hT 0 zr zr zr zr zr zr me zr ?_; refine zA ?_
  refine WT.know (v' := .bool true) 10 rfl (by congr 1; simp) ?_
  refine zA ?_; refine zl hT 1 zr zr zr zr zr zr me zr ?_; refine zA ?_; refine zl hT 0 zr zr zr zr zr zr me zr ?_
  refine WT.callV Tryz.func58 zr zr zr zr zr zr (nodeEqF_spec _ hx hy hm (fun G lx ly x hx2 h1 h2 => sameNode_spec G x (hf x hx2) h1 h2)) (fun v hv => ?_)
  subst hv
  refine zA ?_
  exact AW.ret ⟨_, [], ⟨_, _, rfl, rfl, rfl⟩, zsb, rfl, rfl⟩

/-! ### the least sets of a word -/
theorem Sets.cut {g : Gram} {w : List Nat} {L : Nat → List Item} (h : Sets g w L) (j : Nat) : Sets g (w.take j) L where
  ok := fun k hk => h.ok k (by rw [List.length_take] at hk; omega)
  start := h.start
  closed := fun k hk => h.closed k (by rw [List.length_take] at hk; omega)
  scan := fun k t hk => h.scan k t (by
    rw [List.getElem?_take] at hk
    split at hk
    · exact hk
    · cases hk)

/-- An item that lies in all closed sets of the word's beginning. -/
def QP (g : Gram) (w : List Nat) : Nat → Item → Prop := fun k x => ItemOk g.rules k x ∧ (k ≤ w.length → ∀ L, Sets g (w.take k) L → x ∈ L k)

theorem QP_inv (g : Gram) (w : List Nat) : QInv g (QP g w) where
  ok := fun _ _ h => h.1
  predict := fun k x n i r hx hn hr hl => ⟨⟨r, hr, Nat.zero_le _, Nat.le_refl _⟩, fun hk L hL => (hL.closed k (by rw [List.length_take]; omega) x (hx.2 hk L hL)).1 n i r hn hr hl⟩
  complete := fun k x y r hx hr hd hy hn => by
    refine ⟨(QI_inv g).complete k x y r hx.1 hr hd hy.1 hn, fun hk L hL => ?_⟩
    obtain ⟨_, _, _, hf⟩ := hx.1
    refine (hL.closed k (by rw [List.length_take]; omega) x (hx.2 hk L hL)).2 r hr hd y ?_ hn
    refine hy.2 zo L ?_
    have := hL.cut x.frm
    rw [List.take_take, show min x.frm k = x.frm by omega] at this
    exact this

theorem QP_more {g : Gram} {w : List Nat} {m : Nat} (hm : m = w.length) (t : Nat) : ∀ k x, k ≤ m → QP g w k x → QP g (w ++ [t]) k x := fun k x hk hx =>
  ⟨hx.1, fun _ L hL => hx.2 zo L (by rw [List.take_append_of_le_length zo] at hL; exact hL)⟩

theorem QP_scan {g : Gram} {w : List Nat} {m : Nat} (hm : m = w.length) (t : Nat) : ∀ x, QP g (w ++ [t]) m x → nextOf g.rules x = some ⟨true, t⟩ → QP g (w ++ [t]) (m + 1) (stepItem x) := fun x hx hn => by
  subst hm
  refine ⟨QI_scan g _ t x hx.1 hn, fun hk L hL => ?_⟩
  rw [List.take_of_length_le (by simp)] at hL
  refine hL.scan w.length t (by simp) x (hx.2 (by simp) L ?_) hn
  exact hL.cut _

/-! ### parsers at rest -/
structure FZ where
  fi : Nat
  ga : Option Addr
  gm : Nat
  gc : Nat
  q : ChP
  s : SSt
  wa : Option Addr
  wn : Nat
  wc : Nat
  BW : List (Nat × Blk)
  w : List Nat
  E : List Bool

def zCells (g : Gram) (f : FZ) : List Value := [.int .i64 g.terms, .int .i64 g.nons, .int .i64 g.start, .slice f.ga f.gm f.gc, .pointer (some ⟨f.q.ic, 0, none⟩), .slice f.wa f.wn f.wc]
def zB (g : Gram) (f : FZ) : List (Nat × Blk) := (f.fi, .cells false (zCells g f)) :: (f.BW ++ shB (trimmed f.E g) f.q f.s)

structure ZOk (g : Gram) (F : Frz) (f : FZ) : Prop where
  rules : Arr tRule F f.ga f.gm f.gc g.rules
  ends : EndsIn g f.E
  chart : SOk (trimmed f.E g) (QP (trimmed f.E g) f.w) f.q F f.s
  k : f.s.k = f.w.length
  sets : Sets (trimmed f.E g) f.w (LZ f.s)
  word : GB tNat F f.wa f.wn f.wc f.BW f.w
  ok : ∀ t ∈ f.w, t < g.terms

theorem ZOk.mono {g : Gram} {F G : Frz} {f : FZ} (h : ZOk g F f) (hF : Frz.le F G) : ZOk g G f := ⟨h.rules.mono hF, h.ends, h.chart.mono hF, h.k, h.sets, h.word.mono hF, h.ok⟩

structure NextZ (g : Gram) (f : FZ) (xs : List Bool) : Prop where
  len : xs.length = g.terms + 1
  term : ∀ t, t < g.terms → (xs[t]? = some true ↔ ∃ x ∈ LZ f.s f.s.k, nextOf (trimmed f.E g).rules x = some ⟨true, t⟩)
  done : xs[g.terms]? = some (derives g f.w g.start 0 f.w.length)

theorem zsubW {g : Gram} {f : FZ} : ∀ z, z ∈ f.BW → z ∈ zB g f := fun z hz => by unfold zB; simp [hz]
theorem zsubC {g : Gram} {f : FZ} : ∀ z, z ∈ shB (trimmed f.E g) f.q f.s → z ∈ zB g f := fun z hz => by unfold zB; simp [hz]
theorem own_zeed (a : Nat × Blk) (BW C : List (Nat × Blk)) (own : Own) : OwnLe ([a] :: BW :: C :: own) ((a :: (BW ++ C)) :: own) := OwnLe.flat (List.Perm.of_eq (by simp))
theorem own_zeed' (a : Nat × Blk) (BW C : List (Nat × Blk)) (own : Own) : OwnLe ((a :: (BW ++ C)) :: own) ([a] :: BW :: C :: own) := OwnLe.flat (List.Perm.of_eq (by simp))

/-! ### New -/
/-! ### Next -/
theorem znextC_spec' (G : Frz) (g : Gram) (hg : Valid g) {f : FZ} (h : ZOk g G f) (hB : ∀ i b, (i, b) ∈ shB (trimmed f.E g) f.q f.s → G i = some b) :
    Abs.Spec CC 53 [.pointer (some ⟨f.q.ic, 0, none⟩)] G [] fun F' v o =>
      ∃ B', o = [B'] ∧ ∃ a' c' xs, v = .slice a' g.terms c' ∧ Vec tBool F' a' g.terms c' B' xs ∧ ∀ t, t < g.terms → (xs[t]? = some true ↔ ∃ x ∈ LZ f.s f.s.k, nextOf (trimmed f.E g).rules x = some ⟨true, t⟩) := by
  have hgt := hg.range.terms
  have hc := h.chart
  have hll := hc.len
  obtain ⟨last, hlast⟩ : ∃ l, f.s.lists[f.s.k]? = some l := ⟨_, List.getElem?_eq_getElem zo⟩
  obtain ⟨xa, xn, xc, huk, hxa⟩ := hc.olds _ _ hlast
  have e : LZ f.s f.s.k = last := by unfold LZ; rw [List.getD_eq_getElem?_getD, hlast]; rfl
  rw [e]
  exact cnextA_spec G (trimmed f.E g) (trim_right hg _) (by show g.terms ≤ 1000; omega) (trim_sym hg _) (hB _ _ (List.mem_cons_self ..)) hc.rules (hc.list.arr (Frz.le.refl G) (fun i b hb => hB i b (List.mem_cons_of_mem _ (List.mem_append_right _ hb)))) huk hxa (fun x hx => (hc.all _ _ hlast x hx).1) (hc.olen _ _ hlast) hc.small

theorem znextC_spec (G : Frz) (g : Gram) (hg : Valid g) {f : FZ} (h : ZOk g G f) (hB : ∀ i b, (i, b) ∈ zB g f → G i = some b) :
    Abs.Spec CC 53 [.pointer (some ⟨f.q.ic, 0, none⟩)] G [] fun F' v o =>
      ∃ B', o = [B'] ∧ ∃ a' c' xs, v = .slice a' g.terms c' ∧ Vec tBool F' a' g.terms c' B' xs ∧ ∀ t, t < g.terms → (xs[t]? = some true ↔ ∃ x ∈ LZ f.s f.s.k, nextOf (trimmed f.E g).rules x = some ⟨true, t⟩) :=
  znextC_spec' G g hg h fun i b hb => hB i b (zsubC _ hb)

theorem zNext_spec (G : Frz) (hL : Laid G) (g : Gram) (hg : Valid g) {f : FZ} (h : ZOk g G f) (hw : f.w.length ≤ 12) (hB : ∀ i b, (i, b) ∈ zB g f → G i = some b) :
    Abs.Spec CC 17 [.pointer (some ⟨f.fi, 0, none⟩)] G [] fun F' v o => ∃ B', o = [B'] ∧ ∃ a' c' xs, v = .slice a' (g.terms + 1) c' ∧ Vec tBool F' a' (g.terms + 1) c' B' xs ∧ NextZ g f xs := by
  have hfi : G f.fi = some (.cells false [.int .i64 g.terms, .int .i64 g.nons, .int .i64 g.start, .slice f.ga f.gm f.gc, .pointer (some ⟨f.q.ic, 0, none⟩), .slice f.wa f.wn f.wc]) := hB _ _ (List.mem_cons_self ..)
  have hgt := hg.range.terms
  have hgn := hg.range.nons
  have hgs := hg.range.start
  have hwa := h.word.arr (Frz.le.refl G) (fun i b hb => hB i b (zsubW _ hb))
  have hwl := hwa.len
  refine Abs.Spec.fn (n := 36) Tryz.func17 rfl rfl fun own => ?_
  refine zA ?_
  refine AW.draw (ps := [(8, 4), (12, 4), (18, 4), (18, 13), (26, 4), (26, 13), (27, 4), (27, 13)]) rfl rfl ?_
  refine zA ?_; refine zf hT (by assumption) zr zr zr zr zr zr ?_
  refine WT.callN Tryz.func53 zr zr zr zr zr zr (znextC_spec G g hg h hB) (fun F1 v B1 hF1 hv => ?_)
  obtain ⟨na, nc, xs, rfl, hv, hxs⟩ := hv
  have hfi1 := hF1 _ _ hfi
  have hL1 := hL.mono hF1
  have hwa1 := hwa.mono hF1
  refine zA ?_; refine zf hT (by assumption) zr zr zr zr zr zr ?_; refine zA ?_; refine zf hT (by assumption) zr zr zr zr zr zr ?_
  refine WT.callF0 Tryz.func57 zr zr zr zr zr zr (ends_spec F1 hL1 g hg (h.rules.mono hF1) hwa1 zo) (fun F2 v hF2 hv2 => ?_)
  obtain ⟨ea, ec, E, rfl, hE, hE2⟩ := hv2
  have hfi2 := hF2 _ _ hfi1
  have hElen := hE2.ok.size
  refine zA ?_; refine zf hT (by assumption) zr zr zr zr zr zr ?_
  refine WT.idxL hT hE zr zr zr zr zr zr zr zr zr zo (fun row hrow b1 off ro cs lx hb1 hp1 hrel => ?_)
  obtain ⟨a2, n2, c2, rfl, hrow2⟩ := hrel
  have hrl := hE2.ok.row row (List.mem_of_getElem? hrow)
  refine zi (fo := 0) hT (by assumption) (by assumption) zr zr zr zr zr zr ?_
  refine WT.idxL (j := 0) hT hrow2 zr zr zr zr zr zr zr zr zr zo (fun x hx b3 off3 ro3 cs3 lx3 hb3 hp3 hrel3 => ?_)
  obtain rfl : lx3 = _ := hrel3
  have hxb := hE2.ok.bit row (List.mem_of_getElem? hrow) x (List.mem_of_getElem? hx)
  have pwl : 2 ^ (f.w.length + 1) ≤ 4294967296 := Nat.pow_le_pow_right (j := 32) (by decide) zo
  have e : derives g f.w g.start 0 f.w.length = x.testBit f.wn := by
    rw [Bool.eq_iff_iff, derives_iff, ← hE2.iff _ _ _ (Nat.zero_le _), ← hwl]
    constructor
    · rintro ⟨row', x', h3, h4, h5⟩
      rw [hrow] at h3; cases h3
      rw [hx] at h4; cases h4
      exact h5
    · intro hb; exact ⟨row, x, hrow, hx, hb⟩
  have e2 : (((x / 2 ^ f.wn &&& 1 : Nat) : Int) == 1) = derives g f.w g.start 0 f.w.length := by
    rw [shift_bit, e]; cases x.testBit f.wn <;> rfl
  refine zi (fo := 0) hT (by assumption) (by assumption) zr zr zr zr zr zr ?_; refine zA ?_; refine zf hT (by assumption) zr zr zr zr zr zr ?_; refine zA ?_
  refine WT.shr32 (x := x) (y := f.wn) zr zr zr zr zr zr zo ?_
  refine WT.and32 (x := x / 2 ^ f.wn) (y := 1) zr zr zr zr zr zr (Nat.lt_of_le_of_lt (Nat.div_le_self _ _) zo) (by decide) ?_
  have hxne : xs ≠ [] := by
    intro e; subst e
    have h1 := hv.len
    have h2 : (trimmed f.E g).terms = g.terms := rfl
    simp at h1; omega
  have hvb := (hv.mono hF2).bld hxne
  have hxl : xs.length = g.terms := hv.len.symm
  refine zA ?_
  refine WT.buildT hT zr zr zr zr zr zr zr zr zr zr zr zr zr zr (fun i9 hi9 => ?_)
  refine WT.appendT (ys := [((x / 2 ^ f.wn &&& 1 : Nat) : Int) == 1]) hT 1 hvb rfl (fun _ => rfl) zr zr zr zr zr zr zr zr zr zr zr (fun h0 s0 => news_own hT s0 0 zr zr zr zr) (Cells.single (R := tBool) (x := (((x / 2 ^ f.wn &&& 1 : Nat) : Int) == 1)) rfl) rfl (by decide) (by show (g.terms + 1) * 1 ≤ _; omega) (fun a3 c3 B3 hB3 => ?_)
  refine zA ?_
  refine ⟨zrC, ?_⟩
  skip
  refine AW.ret ⟨_, [_], ⟨_, _, rfl, rfl, rfl⟩, zsb, _, rfl, a3, c3, _, rfl, hB3.vec, ⟨?_, fun t ht => ?_, ?_⟩⟩
  · simp [hxl]
  · rw [List.getElem?_append_left zo]
    exact hxs t ht
  · rw [List.getElem?_append_right zo, hxl, Nat.sub_self]
    exact congrArg some e2


/-! ### Put -/
theorem sets_putZ {g : Gram} {w : List Nat} {t : Nat} {s s' : SSt} {last new : List Item} (h : Sets g w (LZ s)) (hw : s.k = w.length) (hk : s'.k = s.k + 1) (hlen : s.lists.length = s.k + 1) (hlast : s.lists[s.k]? = some last) (ho : s'.lists = s.lists ++ [new])
    (hok : ∀ x ∈ new, ItemOk g.rules (s.k + 1) x) (hsc : ∀ x ∈ last, nextOf g.rules x = some ⟨true, t⟩ → stepItem x ∈ new) (hcl : ∀ x ∈ new, ItemClosed g.rules (LZ s') s'.k x) : Sets g (w ++ [t]) (LZ s') := by
  have hL : ∀ j, j ≤ s.k → LZ s' j = LZ s j := fun j hj => by
    unfold LZ
    rw [ho, List.getD_eq_getElem?_getD, List.getD_eq_getElem?_getD, List.getElem?_append_left zo]
  have hN : LZ s' (s.k + 1) = new := by
    unfold LZ
    rw [ho, List.getD_eq_getElem?_getD, List.getElem?_append_right zo, show s.k + 1 - s.lists.length = 0 by omega]; rfl
  have hS : LZ s s.k = last := by unfold LZ; rw [List.getD_eq_getElem?_getD, hlast]; rfl
  refine ⟨fun k hk1 x hx => ?_, fun i r hr hl => ?_, fun k hk1 x hx => ?_, fun k t' ht x hx hn => ?_⟩
  · simp only [List.length_append, List.length_singleton] at hk1
    rcases Nat.lt_or_ge k (s.k + 1) with h1 | h1
    · rw [hL k zo] at hx; exact h.ok k zo x hx
    · obtain rfl : k = s.k + 1 := by omega
      rw [hN] at hx; exact hok x hx
  · rw [hL 0 (Nat.zero_le _)]; exact h.start i r hr hl
  · simp only [List.length_append, List.length_singleton] at hk1
    rcases Nat.lt_or_ge k (s.k + 1) with h1 | h1
    · rw [hL k zo] at hx
      obtain ⟨c1, c2⟩ := h.closed k zo x hx
      obtain ⟨_, _, _, hf⟩ := h.ok k zo x hx
      refine ⟨fun n i r hn hr hl => ?_, fun r hr hd y hy hn => ?_⟩
      · rw [hL k zo]; exact c1 n i r hn hr hl
      · rw [hL x.frm zo] at hy
        rw [hL k zo]; exact c2 r hr hd y hy hn
    · obtain rfl : k = s.k + 1 := by omega
      rw [hN] at hx
      have := hcl x hx
      rw [hk] at this; exact this
  · rcases Nat.lt_or_ge k w.length with h1 | h1
    · rw [List.getElem?_append_left h1] at ht
      rw [hL k zo] at hx
      have h2 := h.scan k t' ht x hx hn
      rw [hL (k + 1) zo]; exact h2
    · rw [List.getElem?_append_right h1] at ht
      have := (List.getElem?_eq_some_iff.1 ht).1
      simp at this
      have e : k = s.k := by omega
      subst e
      rw [hw, Nat.sub_self] at ht
      obtain rfl : t = t' := by simpa using ht
      rw [hL _ (Nat.le_refl _), hS] at hx
      rw [hN]; exact hsc x hx hn

theorem zPut_spec (F : Frz) (g : Gram) (hg : Valid g) {f : FZ} (h : ZOk g F f) (hw : f.w.length < 12) (t : Nat) (ht : t < g.terms) :
    Abs.Spec CC 12 [.pointer (some ⟨f.fi, 0, none⟩), .int .i64 t] F [zB g f] fun F' v o => ∃ B', o = [B'] ∧ ∃ f', B' = zB g f' ∧ ZOk g F' f' ∧ f'.fi = f.fi ∧ f'.E = f.E ∧
      (((∃ x ∈ LZ f.s f.s.k, nextOf (trimmed f.E g).rules x = some ⟨true, t⟩) ∧ v = .int .i64 0 ∧ f'.w = f.w ++ [t]) ∨ ((¬ ∃ x ∈ LZ f.s f.s.k, nextOf (trimmed f.E g).rules x = some ⟨true, t⟩) ∧ v = .int .i64 10 ∧ f'.w = f.w)) := by
  have hgt := hg.range.terms
  have hwl := h.word.len
  have hk := h.k
  refine Abs.Spec.fn (n := 47) Tryz.func12 rfl rfl fun own => ?_
  refine AW.le (own_zeed _ _ _ _) ?_
  refine zA ?_; refine zl hT 0 zr zr zr zr zr zr me zr ?_; refine zA ?_
  refine AW.cond rfl (fun h => (by simp at h; omega)) (fun _ => ?_)
  refine zA ?_; refine zl hT 0 zr zr zr zr zr zr me zr ?_; refine zA ?_
  refine AW.cond rfl (fun h => (by simp at h; omega)) (fun _ => ?_)
  refine zA ?_; refine zl hT 0 zr zr zr zr zr zr me zr ?_
  refine WT.callLendN (P := fun v B' => ∃ a' c' xs, v = .slice a' g.terms c' ∧ Vec tBool F a' g.terms c' B' xs ∧ ∀ t, t < g.terms → (xs[t]? = some true ↔ ∃ x ∈ LZ f.s f.s.k, nextOf (trimmed f.E g).rules x = some ⟨true, t⟩)) 2 Tryz.func53 zr zr zr zr zr zr zr (fun G hG hBG => Spec.mono (znextC_spec' G g hg (h.mono hG) hBG) (fun F' v o _ hv => by
    obtain ⟨B', e, a2, c2, xs, e2, hv, hx⟩ := hv
    exact ⟨B', e, a2, c2, xs, e2, Vec.boolAny hv, hx⟩)) (fun v BN hv => ?_)
  obtain ⟨na, nc, xs, rfl, hv, hxs⟩ := hv
  have hxl : xs.length = g.terms := hv.len.symm
  obtain ⟨z, hz⟩ : ∃ z, xs[t]? = some z := ⟨_, List.getElem?_eq_getElem zo⟩
  refine zA ?_
  refine WT.vidx hT hv zr zr zr zr zr zr zr zr zr ht (fun b5 hb5 => ?_)
  refine WT.vld1 hT 0 hv hb5 hz zr zr zr zr zr zr zr zr zr (fun l h => h) ?_
  refine zA ?_
  refine AW.cond rfl (fun hc => ?_) (fun hc => ?_)
  · have hc : z = false := by simpa using hc
    have hno : ¬ ∃ x ∈ LZ f.s f.s.k, nextOf (trimmed f.E g).rules x = some ⟨true, t⟩ := by
      rw [← hxs t ht, hz, hc]; simp
    refine zA ?_
    refine AW.le (OwnLe.skip _ (own_zeed' _ _ _ _)) ?_
    exact AW.ret ⟨_, [_], ⟨_, _, rfl, rfl, rfl⟩, zsb, _, rfl, f, rfl, h, rfl, rfl, .inr ⟨hno, rfl, rfl⟩⟩
  · have hc : z = true := by simpa using hc
    have hyes : ∃ x ∈ LZ f.s f.s.k, nextOf (trimmed f.E g).rules x = some ⟨true, t⟩ := by
      rw [← hxs t ht, hz, hc]
    refine zA ?_; refine zl hT 1 zr zr zr zr zr zr me zr ?_; refine zA ?_
    refine WT.call1F 3 Tryz.func54 zr zr zr zr zr zr zr (fun _ => rfl) (cputS_spec F (trimmed f.E g) (trim_right hg _) (trim_len hg _) (QP_inv _ (f.w ++ [t])) (h.chart.weaken (QP_more hk t)) zo t (QP_scan hk t)) (fun F1 v B1 hF1 hv1 => ?_)
    obtain ⟨s', rfl, hs', hk', last, new, hlast, hold, hsc, hcl⟩ := hv1
    refine zA ?_; refine zl hT 1 zr zr zr zr zr zr me zr ?_; refine zA ?_
    refine WT.buildT hT zr zr zr zr zr zr zr zr zr zr zr zr zr zr (fun i43 hi43 => ?_)
    refine WT.appendG (ys := [t]) hT 3 (h.word.mono hF1) rfl (fun _ => rfl) zr zr zr zr zr zr zr zr zr zr zr (fun h0 s0 => news_own hT s0 0 zr zr zr zr) (Cells.single (R := tNat) (x := t) rfl) rfl (by decide) zom (fun wa' wc' BW' hBW' => ?_)
    refine zA ?_; refine zs hT 2 0 zr zr zr zr zr zr zr zr zr zr zr zr ?_; refine zA ?_
    refine AW.le (OwnLe.skip _ (OwnLe.skip _ (own_zeed' _ _ _ _))) ?_
    refine AW.ret ⟨_, [_], ⟨_, _, rfl, rfl, rfl⟩, zsb, _, rfl, { f with s := s', wa := wa', wn := f.wn + 1, wc := wc', BW := BW', w := f.w ++ [t] }, rfl, ⟨h.rules.mono hF1, h.ends, hs', ?_, ?_, hBW'.gb, ?_⟩, rfl, rfl, .inl ⟨hyes, rfl, rfl⟩⟩
    · show s'.k = (f.w ++ [t]).length
      rw [hk', hk]; simp
    · exact sets_putZ h.sets hk hk' h.chart.len hlast hold (fun x hx => (hs'.all _ _ (by rw [hold, List.getElem?_append_right (by have := h.chart.len; omega), show f.s.k + 1 - f.s.lists.length = 0 by have := h.chart.len; omega]; rfl) x hx).1) hsc hcl
    · intro t' ht'
      rcases List.mem_append.1 ht' with h1 | h1
      · exact h.ok t' h1
      · simp at h1; subst h1; exact ht

theorem endsOf_uniq {g : Gram} {w : List Nat} {E E' : List (List Nat)} (h : EndsOf g w E) (h' : EndsOf g w E') : E = E' := by
  refine List.ext_getElem (by rw [h.ok.size, h'.ok.size]) fun n h1 h2 => ?_
  have l1 := h.ok.row _ (List.getElem_mem h1)
  have l2 := h'.ok.row _ (List.getElem_mem h2)
  refine List.ext_getElem (by rw [l1, l2]) fun i h3 h4 => ?_
  refine Nat.eq_of_testBit_eq fun q => ?_
  rw [Bool.eq_iff_iff]
  have e1 : (E[n][i]).testBit q = true ↔ Der g w ⟨false, n⟩ i q := by
    rw [← h.iff n i q zo]
    constructor
    · intro hb; exact ⟨_, _, List.getElem?_eq_getElem h1, List.getElem?_eq_getElem h3, hb⟩
    · rintro ⟨row, x, r1, r2, r3⟩
      rw [List.getElem?_eq_getElem h1] at r1; cases r1
      rw [List.getElem?_eq_getElem h3] at r2; cases r2
      exact r3
  have e2 : (E'[n][i]).testBit q = true ↔ Der g w ⟨false, n⟩ i q := by
    rw [← h'.iff n i q zo]
    constructor
    · intro hb; exact ⟨_, _, List.getElem?_eq_getElem h2, List.getElem?_eq_getElem h4, hb⟩
    · rintro ⟨row, x, r1, r2, r3⟩
      rw [List.getElem?_eq_getElem h2] at r1; cases r1
      rw [List.getElem?_eq_getElem h4] at r2; cases r2
      exact r3
  rw [e1, e2]

theorem sum_sub {α : Type} [DecidableEq α] (f : α → Nat) : ∀ (L S : List α), L.Nodup → (∀ x ∈ L, x ∈ S) → (L.map f).sum ≤ (S.map f).sum
  | [], S, _, _ => Nat.zero_le _
  | x :: L, S, hn, hs => by
    obtain ⟨h1, h2⟩ := List.nodup_cons.1 hn
    have hp := List.perm_cons_erase (hs x (List.mem_cons_self ..))
    have := (hp.map f).sum_nat
    rw [this, List.map_cons, List.map_cons, List.sum_cons, List.sum_cons]
    refine Nat.add_le_add_left (sum_sub f L (S.erase x) h2 fun y hy => ?_) _
    rw [List.mem_erase_of_ne (by rintro rfl; exact h1 hy)]
    exact hs y (List.mem_cons_of_mem _ hy)

theorem makeRes_form {g : Gram} {w : List Nat} {E : List (List Nat)} {F : Frz} {v : Value} (h : MakeRes g w E F v) : ∃ a n c r e, v = .tuple ⟨[.agg ⟨[.slice a n c, .int .i64 r]⟩, .int .i64 e]⟩ := by
  rcases h with ⟨s, a, n, c, r, rfl, rfl, _⟩ | ⟨rfl, _⟩
  · exact ⟨_, _, _, _, _, rfl⟩
  · exact ⟨_, _, _, _, _, rfl⟩

theorem makeRes_cases {g : Gram} {w : List Nat} {E : List (List Nat)} {F : Frz} {a : Option Addr} {n c : Nat} {r e : Int} (h : MakeRes g w E F (.tuple ⟨[.agg ⟨[.slice a n c, .int .i64 r]⟩, .int .i64 e]⟩)) :
    (e = 0 ∧ ((stepB w E ⟨false, g.start⟩ 0 w.length = false ∧ a = none ∧ n = 0 ∧ c = 0 ∧ r = -1) ∨
      (stepB w E ⟨false, g.start⟩ 0 w.length = true ∧ ∃ S, r = (place S (rootKey g w) : Nat) ∧ Keys g w E (rootKey g w) S ∧ Arr tNode F a n c (S.map (mkNode g w E S)) ∧ packSum g w E S ≤ 20000))) ∨
    (e = 2 ∧ a = none ∧ n = 0 ∧ c = 0 ∧ r = 0 ∧ stepB w E ⟨false, g.start⟩ 0 w.length = true ∧ ∃ L : List Key, L.Nodup ∧ (∀ k ∈ L, Reachable g w E (rootKey g w) k) ∧ 20000 < packSum g w E L) := by
  rcases h with ⟨s, a', n', c', r', hs, he, hx, hx2⟩ | ⟨he, hx, hx2⟩
  · subst hs
    cases he
    refine .inl ⟨rfl, ?_⟩
    rcases hx with ⟨h1, h2⟩ | ⟨h1, S, a2, n2, c2, h2, hK, hA⟩
    · cases h2
      exact .inl ⟨h1, rfl, rfl, rfl, rfl⟩
    · cases h2
      exact .inr ⟨h1, S, rfl, hK, hA, hx2 S hK h1⟩
  · cases he
    exact .inr ⟨rfl, rfl, rfl, rfl, rfl, hx, hx2⟩

theorem makeRes_pair {g : Gram} (hg : Valid g) {w : List Nat} (hw12 : w.length ≤ 12) {E : List (List Nat)} {F F' : Frz} {a a' : Option Addr} {n n' c c' : Nat} {r r' e e' : Int} (h : MakeRes g w E F (.tuple ⟨[.agg ⟨[.slice a n c, .int .i64 r]⟩, .int .i64 e]⟩)) (h' : MakeRes g w E F' (.tuple ⟨[.agg ⟨[.slice a' n' c', .int .i64 r']⟩, .int .i64 e']⟩)) :
    n' = n ∧ r' = r ∧ e' = e ∧ n ≤ 1000000 ∧ ∃ Ns, (∀ x ∈ Ns, x.packs.length ≤ 1000000) ∧ Arr tNode F a n c Ns ∧ Arr tNode F' a' n c' Ns := by
  have big : ∀ {S L : List Key}, Keys g w E (rootKey g w) S → packSum g w E S ≤ 20000 → L.Nodup → (∀ k ∈ L, Reachable g w E (rootKey g w) k) → 20000 < packSum g w E L → False := fun {S L} hK h1 h2 h3 h4 => by
    have : packSum g w E L ≤ packSum g w E S := sum_sub _ L S h2 fun x hx => hK.all (h3 x hx)
    omega
  rcases makeRes_cases h with ⟨he, h1⟩ | ⟨he, ha, hn, hc, hr, hst, L, hL1, hL2, hL3⟩
  · rcases makeRes_cases h' with ⟨he', h1'⟩ | ⟨he', ha', hn', hc', hr', hst', L, hL1, hL2, hL3⟩
    · rcases h1 with ⟨h2, ha, hn, hc, hr⟩ | ⟨h2, S, hr, hK, hA, hS⟩
      · rcases h1' with ⟨h2', ha', hn', hc', hr'⟩ | ⟨h2', _⟩
        · subst ha hn hc hr ha' hn' hc' hr'
          exact ⟨rfl, rfl, by rw [he, he'], by omega, [], fun x hx => (by cases hx), Arr.nil_ _ _, Arr.nil_ _ _⟩
        · rw [h2] at h2'; cases h2'
      · rcases h1' with ⟨h2', _⟩ | ⟨h2', S', hr', hK', hA', hS'⟩
        · rw [h2] at h2'; cases h2'
        · obtain rfl := keys_uniq hK hK'
          have hnn : n' = n := by rw [hA.len, hA'.len]
          subst hnn
          have hok := nodes_ok hg hw12 hK (root_good hg w)
          exact ⟨rfl, by rw [hr, hr'], by rw [he, he'], by have := hok.few; rw [← hA.len] at this; exact this, _, hok.packs, hA, hA'⟩
    · exfalso
      rcases h1 with ⟨h2, _⟩ | ⟨h2, S, hr, hK, hA, hS⟩
      · rw [hst'] at h2; cases h2
      · exact big hK hS hL1 hL2 hL3
  · rcases makeRes_cases h' with ⟨he', h1'⟩ | ⟨he', ha', hn', hc', hr', _⟩
    · exfalso
      rcases h1' with ⟨h2, _⟩ | ⟨h2, S, hr, hK, hA, hS⟩
      · rw [hst] at h2; cases h2
      · exact big hK hS hL1 hL2 hL3
    · subst ha hn hc hr ha' hn' hc' hr'
      exact ⟨rfl, rfl, by rw [he, he'], by omega, [], fun x hx => (by cases hx), Arr.nil_ _ _, Arr.nil_ _ _⟩

/-! ### parsers that have read the same accept the same -/
/-! ### going back -/
theorem zWord_spec (G : Frz) {g : Gram} {f : FZ} (h : ZOk g G f) (hw : f.w.length ≤ 12) (hB : ∀ i b, (i, b) ∈ zB g f → G i = some b) :
    Abs.Spec CC 15 [.pointer (some ⟨f.fi, 0, none⟩)] G [] fun F' v o => ∃ B', o = [B'] ∧ ∃ a' c', v = .slice a' f.wn c' ∧ Vec tNat F' a' f.wn c' B' f.w := by
  have hfi : G f.fi = some (.cells false [.int .i64 g.terms, .int .i64 g.nons, .int .i64 g.start, .slice f.ga f.gm f.gc, .pointer (some ⟨f.q.ic, 0, none⟩), .slice f.wa f.wn f.wc]) := hB _ _ (List.mem_cons_self ..)
  have hwa := h.word.arr (Frz.le.refl G) (fun i b hb => hB i b (zsubW _ hb))
  have hwl := hwa.len
  refine Abs.Spec.fn (n := 8) Tryz.func15 rfl rfl fun own => ?_
  refine zA ?_; refine zf hT (by assumption) zr zr zr zr zr zr ?_
  refine WT.callN Tryz.func56 zr zr zr zr zr zr (numClone_spec G hwa zo) (fun F1 v B1 hF1 hv => ?_)
  obtain ⟨ca, cc, rfl, hv⟩ := hv
  refine zA ?_
  exact AW.ret ⟨_, [_], ⟨_, _, rfl, rfl, rfl⟩, zsb, _, rfl, ca, cc, rfl, hv⟩

theorem Vec.natAny {F G : Frz} {a : Option Addr} {n c : Nat} {B : List (Nat × Blk)} {xs : List Nat} (h : Vec tNat F a n c B xs) : Vec tNat G a n c B xs := by
  have cells : ∀ {cs : List Value} {xs : List Nat}, Cells tNat F cs xs → Cells tNat G cs xs := by
    intro cs xs h
    induction h with
    | nil => exact .nil
    | cons h1 _ ih => exact .cons h1 ih
  exact ⟨h.len, h.cap, h.zero, h.nil, h.spot, h.el.imp id fun ⟨i, cs, h1, h2, h3, h4⟩ => ⟨i, cs, h1, h2, cells h3, h4⟩⟩

theorem zForest_spec (G : Frz) (hL : Laid G) (g : Gram) (hg : Valid g) {f : FZ} (h : ZOk g G f) (hw : f.w.length ≤ 12) (hB : ∀ i b, (i, b) ∈ zB g f → G i = some b) :
    Abs.Spec CC 18 [.pointer (some ⟨f.fi, 0, none⟩)] G [] fun F' v o => o = [] ∧ ∃ E, EndsOf g f.w E ∧ MakeRes g f.w E F' v := by
  have hfi : G f.fi = some (.cells false [.int .i64 g.terms, .int .i64 g.nons, .int .i64 g.start, .slice f.ga f.gm f.gc, .pointer (some ⟨f.q.ic, 0, none⟩), .slice f.wa f.wn f.wc]) := hB _ _ (List.mem_cons_self ..)
  have hwa := h.word.arr (Frz.le.refl G) (fun i b hb => hB i b (zsubW _ hb))
  refine Abs.Spec.fn (n := 15) Tryz.func18 rfl rfl fun own => ?_
  refine AW.seq (AW.reg ?_)
  refine WT.allocT hT zr zr zr zr zr zr (fun i2 hi2 => ?_)
  refine zA ?_; refine AW.draw (ps := []) zr zr ?_; refine zA ?_; refine zf hT (by assumption) zr zr zr zr zr zr ?_; refine zA ?_; refine zf hT (by assumption) zr zr zr zr zr zr ?_
  skip
  refine WT.callF0 Tryz.func21 zr zr zr zr zr zr (forestOf_spec _ hL g hg h.rules hwa hw h.ok) (fun F2 v hF2 hv => ?_)
  obtain ⟨E, hE, hv⟩ := hv
  obtain ⟨fa, fn, fc, fr, fe, rfl⟩ := makeRes_form hv
  refine zA ?_; refine zs hT 0 0 zr zr zr zr zr zr zr zr zr zr zr zr ?_; refine zA ?_; refine And.intro trivial ?_
  exact AW.ret ⟨_, [], ⟨_, _, ⟨_, rfl, fun G h0 s0 => loadA_cells (s0.has (p := 0) rfl (List.mem_cons_self ..)) (readT_ok hT rfl)⟩, ⟨_, _, rfl, rfl, rfl⟩, rfl⟩, zsb, rfl, E, hE, hv⟩

end Go.Proofs.D

set_option linter.unusedVariables false
set_option maxRecDepth 20000
set_option maxHeartbeats 0
open Go Go.Abs Go.Proofs Go.Proofs.D
namespace Go.Abs
end Go.Abs
namespace Go.Proofs.D

/-- What a table of ends is made of. -/
def BV (v : Value) : Prop := (∃ x : Int, v = .int .u32 x) ∨ ∃ a n c, v = .slice a n c
def BLike (b : Blk) : Prop := ∃ cs, b = .cells false cs ∧ ∀ v ∈ cs, BV v

/-- A frame without the blocks of a table. -/
def Less (F' F2 : Frz) : Prop := ∀ i b, F' i = some b → F2 i = some b ∨ BLike b

/-! ### smaller tables -/
/-- The bits of the one are bits of the other. -/
structure Sub (E' E : List (List Nat)) : Prop where
  size : E'.length = E.length
  row : ∀ (n : Nat) (r' : List Nat), E'[n]? = some r' → ∃ r, E[n]? = some r ∧ r'.length = r.length ∧ ∀ (i x' : Nat), r'[i]? = some x' → ∃ x, r[i]? = some x ∧ ∀ q, x'.testBit q = true → x.testBit q = true

theorem Sub.refl (E : List (List Nat)) : Sub E E := ⟨rfl, fun n r h => ⟨r, h, rfl, fun i x h => ⟨x, h, fun _ h => h⟩⟩⟩

theorem Sub.ok {n len : Nat} {E' E : List (List Nat)} (h : Sub E' E) (hE : EndsOk n len E) : EndsOk n len E' where
  size := by rw [h.size, hE.size]
  row := fun r' hr' => by
    obtain ⟨k, hk, rfl⟩ := List.getElem_of_mem hr'
    obtain ⟨r, h1, h2, _⟩ := h.row k _ (List.getElem?_eq_getElem hk)
    rw [h2, hE.row r (List.mem_of_getElem? h1)]
  bit := fun r' hr' x' hx' => by
    obtain ⟨k, hk, rfl⟩ := List.getElem_of_mem hr'
    obtain ⟨i, hi, rfl⟩ := List.getElem_of_mem hx'
    obtain ⟨r, h1, _, h2⟩ := h.row k _ (List.getElem?_eq_getElem hk)
    obtain ⟨x, h3, h4⟩ := h2 i _ (List.getElem?_eq_getElem hi)
    have hb := hE.bit r (List.mem_of_getElem? h1) x (List.mem_of_getElem? h3)
    refine Nat.lt_pow_two_of_testBit _ fun q hq => ?_
    cases hbq : (E'[k][i]).testBit q with
    | false => rfl
    | true =>
      have := testBit_lt hb (h4 q hbq)
      omega

/-! ### a copy of a grammar, all of it own -/
/-- A rule as its cells: the left side, the right side's slice. -/
def tRuleC : Ty (Nat × Value) where
  size := 2
  rel := fun _ l x => l = [.int .i64 x.1, x.2] ∧ Go.Abs.one x.2 = true
  len := fun _ _ _ h => by rw [h.1]; rfl
  one := fun _ _ _ h => by rw [h.1]; simp only [List.all_cons, List.all_nil, h.2]; rfl
  mono := fun _ _ _ _ _ h => h

inductive Rights (F : Frz) : List (Nat × Value) → List (Nat × Blk) → List Rule → Prop
  | nil : Rights F [] [] []
  | cons {a : Option Addr} {n c : Nat} {Br bs : List (Nat × Blk)} {r : Rule} {xs : List (Nat × Value)} {rs : List Rule} : Vec tSym F a n c Br r.right → Rights F xs bs rs → Rights F ((r.left, .slice a n c) :: xs) (Br ++ bs) (r :: rs)

theorem Rights.mono {F G : Frz} (hF : Frz.le F G) {xs : List (Nat × Value)} {bs : List (Nat × Blk)} {rs : List Rule} (h : Rights F xs bs rs) : Rights G xs bs rs := by
  induction h with
  | nil => exact .nil
  | cons h _ ih => exact .cons (h.mono hF) ih

theorem Rights.snoc {F : Frz} {a : Option Addr} {n c : Nat} {Br : List (Nat × Blk)} {r : Rule} (hv : Vec tSym F a n c Br r.right) {xs : List (Nat × Value)} {bs : List (Nat × Blk)} {rs : List Rule} (h : Rights F xs bs rs) : Rights F (xs ++ [(r.left, .slice a n c)]) (bs ++ Br) (rs ++ [r]) := by
  induction h with
  | nil => simpa using Rights.cons hv .nil
  | cons h _ ih =>
    rw [List.append_assoc]
    exact .cons h ih

theorem Rights.len {F : Frz} {xs : List (Nat × Value)} {bs : List (Nat × Blk)} {rs : List Rule} (h : Rights F xs bs rs) : xs.length = rs.length := by
  induction h with
  | nil => rfl
  | cons _ _ ih => simp [ih]

structure CoS where
  j : Nat
  a : Option Addr
  c : Nat
  B : List (Nat × Blk)
  xs : List (Nat × Value)
  bs : List (Nat × Blk)

theorem perm_cp5 {α : Type} (x a b c l : List α) : (x ++ (a ++ (b ++ (c ++ l)))).Perm (a ++ (b ++ (c ++ (x ++ l)))) := by
  have h := (List.perm_append_comm (l₁ := x) (l₂ := a ++ (b ++ c))).append_right l
  simpa [List.append_assoc] using h

theorem copyOwn_spec (F : Frz) (g : Gram) {a : Option Addr} {m c : Nat} (hr : Arr tRule F a m c g.rules) (hm : m ≤ 1000000) (hrr : ∀ r ∈ g.rules, r.right.length ≤ 1000000) :
    Abs.Spec CC 20 [.agg ⟨gramCells g a m c⟩] F [] fun F' v o => ∃ B', o = [B'] ∧ ∃ B bs a' c' xs, B' = B ++ bs ∧ v = .agg ⟨gramCells g a' m c'⟩ ∧ Bld tRuleC F' a' m c' B xs ∧ Rights F' xs bs g.rules := by
  unfold gramCells
  have hrl := hr.len
  refine Abs.Spec.fn (n := 28) Tryz.func20 rfl rfl fun own => ?_
  refine AW.seq (AW.reg ?_)
  refine WT.boxT zr zr zr zr zr zr (fun i1 hi1 => ?_)
  refine WT.allocT hT zr zr zr zr zr zr (fun i2 hi2 => ?_)
  refine zA ?_; refine zl hT 1 zr zr zr zr zr zr me zr ?_
  refine WT.allocT hT zr zr zr zr zr zr (fun i3 hi3 => ?_)
  refine zs hT 0 0 zr zr zr zr zr zr zr zr zr zr zr zr ?_; refine zA ?_; refine zs hT 0 0 zr zr zr zr zr zr zr zr zr zr zr zr ?_; refine zA ?_; refine zl hT 2 zr zr zr zr zr zr me zr ?_; refine zA ?_
  refine AW.range (S := CoS) (fun _ => []) (fun s => s.B :: [(i3, .cells false [.int .i64 g.terms, .int .i64 g.nons, .int .i64 g.start, .slice s.a s.j s.c])] :: s.bs :: [(i2, .cells false [.int .i64 0, .int .i64 0, .int .i64 0, .slice none 0 0])] :: [(i1, .cells false [.int .i64 g.terms, .int .i64 g.nons, .int .i64 g.start, .slice a m c])] :: own)
    (fun j s G => s.j = j ∧ Bld tRuleC G s.a s.j s.c s.B s.xs ∧ Rights G s.xs s.bs (g.rules.take j)) m ⟨0, none, 0, [], [], []⟩
    zr zr zr zr zr zr zr zr zr zo rfl rfl (fun _ => rfl) (fun _ => rfl) (SubK.of_map rfl) (OwnLe.flat (List.Perm.refl _)) ⟨rfl, Bld.nil_ _ _, Rights.nil⟩ ?_ ?_
  · intro j s F1 hF1 hj hP
    obtain ⟨rfl, hb, hR⟩ := hP
    have hr1 := hr.mono hF1
    refine zA ?_
    refine WT.idxL hT hr1 zr zr zr zr zr zr zr zr zr zo (fun r hrj b off ro cs lx hb1 hp1 hrel => ?_)
    obtain ⟨ra, rn, rc, rfl, hra⟩ := hrel
    have hral := hra.len
    have hrn := hrr r (List.mem_of_getElem? hrj)
    refine zi (fo := 0) hT (by assumption) (by assumption) zr zr zr zr zr zr ?_
    refine WT.allocT hT zr zr zr zr zr zr (fun i5 hi5 => ?_)
    refine zs hT 0 0 zr zr zr zr zr zr zr zr zr zr zr zr ?_; refine WT.nil ?_
    refine AW.draw (ps := [(1, 6), (1, 8), (3, 6)]) rfl rfl ?_
    refine zA ?_; refine zl hT 2 zr zr zr zr zr zr me zr ?_; refine zA ?_; refine zl hT 0 zr zr zr zr zr zr me zr ?_; refine zA ?_; refine zl hT 0 zr zr zr zr zr zr me zr ?_
    refine WT.callN Tryz.func62 zr zr zr zr zr zr (symClone_spec _ hra zo) (fun F2 v B2 hF2 hv => ?_)
    obtain ⟨ca, cc, rfl, hcv⟩ := hv
    refine zA ?_
    refine WT.buildT hT zr zr zr zr zr zr zr zr zr zr zr zr zr zr (fun i9 hi9 => ?_)
    refine WT.appendT (R := tRuleC) (ys := [(r.left, .slice ca rn cc)]) hT 3 (hb.mono hF2) rfl (fun _ => rfl) zr zr zr zr zr zr zr zr zr zr zr (fun h0 s0 => news_own hT s0 0 zr zr zr zr) (Cells.single (R := tRuleC) ⟨rfl, rfl⟩) rfl (by decide) zom (fun a3 c3 B3 hB3 => ?_)
    refine zA ?_; refine zs hT 4 0 zr zr zr zr zr zr zr zr zr zr zr zr ?_; refine WT.nil ?_
    refine ⟨zrC, ?_⟩
    refine ⟨⟨s.j + 1, a3, c3, B3, s.xs ++ [(r.left, .slice ca rn cc)], s.bs ++ B2⟩, SubK.of_map rfl, ?_, rfl, hB3, ?_⟩
    · refine OwnLe.skip _ (OwnLe.trans (OwnLe.flat ?_) (OwnLe.cons _ (OwnLe.skip _ (OwnLe.refl _))))
      simp only [List.flatten_cons, List.append_assoc]
      exact perm_cp5 _ _ _ _ _
    · have := Rights.snoc (r := r) hcv (hR.mono hF2)
      rw [List.take_add_one, hrj]
      exact this
  · intro s F1 hF1 hP
    obtain ⟨hj, hb, hR⟩ := hP
    rw [List.take_of_length_le zo] at hR
    rw [hj] at hb ⊢
    refine zA ?_; refine zl hT 1 zr zr zr zr zr zr me zr ?_; refine zs hT 3 0 zr zr zr zr zr zr zr zr zr zr zr zr ?_; refine WT.nil ?_
    refine AW.le (own2 := [(i2, .cells false [.int .i64 g.terms, .int .i64 g.nons, .int .i64 g.start, .slice s.a m s.c])] :: (s.B ++ s.bs) :: own) (OwnLe.trans (OwnLe.flat ?_) (OwnLe.cons _ (OwnLe.skip _ (OwnLe.cons _ (OwnLe.cons _ (OwnLe.skip _ (OwnLe.refl _))))))) ?_
    · have := List.perm_middle (a := (i2, Blk.cells false [.int .i64 g.terms, .int .i64 g.nons, .int .i64 g.start, .slice s.a m s.c])) (l₁ := s.B ++ s.bs) (l₂ := own.flatten)
      simpa [List.append_assoc] using this
    refine AW.ret ⟨_, [_], ⟨_, _, ⟨_, rfl, fun G h0 s0 => loadA_cells (s0.has (p := 0) rfl (List.mem_cons_self ..)) (readT_ok hT rfl)⟩, rfl, rfl⟩, zsb, _, rfl, _, _, _, _, _, rfl, rfl, hb, hR⟩

/-! ### nonterminals numbered in another way -/
/-- A numbering of the first nonterminals. -/
structure Ren (n : Nat) (σ : Nat → Nat) : Prop where
  lt : ∀ i, i < n → σ i < n
  inj : ∀ i j, i < n → j < n → σ i = σ j → i = j

/-! ### an own grammar's cells -/
def flatR (xs : List (Nat × Value)) : List Value := xs.flatMap fun x => [.int .i64 x.1, x.2]
def flatS (l : List Sym) : List Value := l.flatMap fun y => [.bool y.term, .int .i64 y.n]

theorem cells_flatR {F : Frz} {cs : List Value} {xs : List (Nat × Value)} (h : Cells tRuleC F cs xs) : cs = flatR xs := by
  induction h with
  | nil => rfl
  | cons h1 _ ih => rw [h1.1, ih]; rfl

theorem cells_flatS {F : Frz} {cs : List Value} {l : List Sym} (h : Cells tSym F cs l) : cs = flatS l := by
  induction h with
  | nil => rfl
  | cons h1 _ ih =>
    have h1 : _ = _ := h1
    rw [h1, ih]; rfl

theorem flatS_cells {F : Frz} : ∀ l : List Sym, Cells tSym F (flatS l) l
  | [] => .nil
  | y :: l => Cells.cons (l := [_, _]) rfl (flatS_cells l)

theorem flatR_get : ∀ {xs : List (Nat × Value)} {i : Nat} {x : Nat × Value}, xs[i]? = some x → (flatR xs)[i * 2]? = some (.int .i64 x.1) ∧ (flatR xs)[i * 2 + 1]? = some x.2
  | [], i, x, h => by simp at h
  | y :: xs, 0, x, h => by
    obtain rfl : y = x := by simpa using h
    exact ⟨rfl, rfl⟩
  | y :: xs, i + 1, x, h => by
    have h2 : xs[i]? = some x := by simpa using h
    obtain ⟨h3, h4⟩ := flatR_get h2
    have e : flatR (y :: xs) = .int .i64 y.1 :: y.2 :: flatR xs := rfl
    rw [e, show (i + 1) * 2 = i * 2 + 1 + 1 by omega]
    simp only [List.getElem?_cons_succ]
    exact ⟨h3, h4⟩

theorem flatS_set : ∀ {l : List Sym} {i : Nat} {y : Sym} (z : Nat), l[i]? = some y → (flatS l).set (i * 2 + 1) (.int .i64 z) = flatS (l.set i ⟨y.term, z⟩)
  | [], i, x, z, h => by simp at h
  | y :: l, 0, x, z, h => by
    obtain rfl : y = x := by simpa using h
    rfl
  | y :: l, i + 1, x, z, h => by
    have h2 : l[i]? = some x := by simpa using h
    have h3 := flatS_set z h2
    have e : flatS (y :: l) = .bool y.term :: .int .i64 y.n :: flatS l := rfl
    rw [e, show (i + 1) * 2 + 1 = i * 2 + 1 + 1 + 1 by omega]
    simp only [List.set_cons_succ]
    rw [h3]; rfl

/-- One rule's right side apart, and another put in its place. -/
theorem Rights.split {F : Frz} {xs : List (Nat × Value)} {bs : List (Nat × Blk)} {rs : List Rule} (h : Rights F xs bs rs) : ∀ {i : Nat} {r : Rule}, rs[i]? = some r →
    ∃ a n c Br b1 b2, xs[i]? = some (r.left, .slice a n c) ∧ bs = b1 ++ (Br ++ b2) ∧ Vec tSym F a n c Br r.right ∧
      ∀ (Br' : List (Nat × Blk)) (r' : Rule), Vec tSym F a n c Br' r'.right → Rights F (xs.set i (r'.left, .slice a n c)) (b1 ++ (Br' ++ b2)) (rs.set i r') := by
  induction h with
  | nil => intro i r hr; simp at hr
  | @cons a n c Br bs r0 xs rs hv hR ih =>
    intro i r hr
    cases i with
    | zero =>
      obtain rfl : r0 = r := by simpa using hr
      exact ⟨a, n, c, Br, [], bs, rfl, rfl, hv, fun Br' r' h' => (show Rights F ((r'.left, .slice a n c) :: xs) (Br' ++ bs) (r' :: rs) from .cons h' hR)⟩
    | succ i =>
      obtain ⟨a', n', c', Br', b1, b2, h1, h2, h3, h4⟩ := ih (i := i) (r := r) (by simpa using hr)
      refine ⟨a', n', c', Br', Br ++ b1, b2, by simpa using h1, by rw [h2, List.append_assoc], h3, fun Bn rn hn => ?_⟩
      have := Rights.cons hv (h4 Bn rn hn)
      simpa [List.append_assoc] using this

/-- All of it frozen: the grammar's rules. -/
theorem Rights.arr {F G : Frz} (hG : Frz.le F G) {xs : List (Nat × Value)} {bs : List (Nat × Blk)} {rs : List Rule} (h : Rights F xs bs rs) (hB : ∀ i b, (i, b) ∈ bs → G i = some b) : Cells tRule G (flatR xs) rs := by
  induction h with
  | nil => exact .nil
  | @cons a n c Br bs r xs rs hv hR ih =>
    have h1 := hv.arr hG fun i b hm => hB i b (List.mem_append_left _ hm)
    exact Cells.cons (l := [_, _]) ⟨_, _, _, rfl, h1⟩ (ih fun i b hm => hB i b (List.mem_append_right _ hm))


/-! ### right sides reversed -/
/-! ### slices.Reverse -/
structure RevTo {α : Type} (l : List α) (i : Nat) (cur : List α) : Prop where
  len : cur.length = l.length
  half : 2 * i ≤ l.length
  get : ∀ p, p < l.length → cur[p]? = if p < i ∨ l.length - i ≤ p then l[l.length - 1 - p]? else l[p]?

structure RvS (α : Type) where
  i : Nat
  j : Int
  cur : List α
  B : List (Nat × Blk)

/-! ### mirrored -/
theorem bld_c {F G : Frz} {a : Option Addr} {m c : Nat} {B : List (Nat × Blk)} {zs : List (Nat × Value)} (hb : Bld tRuleC F a m c B zs) : Bld tRuleC G a m c B zs := by
  refine ⟨hb.len, hb.at_.imp id ?_⟩
  rintro ⟨i, cs, h1, h2, h3, h4, h5⟩
  refine ⟨i, cs, h1, h2, h3, ?_, h5⟩
  clear h3 hb
  induction h4 with
  | nil => exact .nil
  | cons h _ ih => exact .cons h ih

theorem vec_s {F G : Frz} {a : Option Addr} {m c : Nat} {B : List (Nat × Blk)} {l : List Sym} (h : Vec tSym F a m c B l) : Vec tSym G a m c B l :=
  ⟨h.len, h.cap, h.zero, h.nil, h.spot, h.el.imp id fun ⟨i, cs, h1, h2, h3, h4⟩ => ⟨i, cs, h1, h2, by rw [cells_flatS h3]; exact flatS_cells _, h4⟩⟩

theorem rights_c {F G : Frz} {xs : List (Nat × Value)} {bs : List (Nat × Blk)} {rs : List Rule} (h : Rights F xs bs rs) : Rights G xs bs rs := by
  induction h with
  | nil => exact .nil
  | cons h _ ih => exact .cons (vec_s h) ih

end Go.Proofs.D

set_option linter.unusedVariables false
set_option maxRecDepth 20000
set_option maxHeartbeats 0
open Go Go.Abs Go.Proofs Go.Proofs.D
namespace Go.Abs

/-! ### what a call froze anew may be one's own -/
theorem Frz.le.none {F G : Frz} (h : Frz.le F G) {i : Nat} (hi : G i = none) : F i = none := by
  cases hf : F i with
  | none => rfl
  | some b => rw [h _ _ hf] at hi; cases hi

/-- Blocks that were not frozen before, each once. -/
def Fresh (F G : Frz) (L : List (Nat × Blk)) : Prop := (∀ i b, (i, b) ∈ L → F i = none) ∧ (∀ i b, (i, b) ∈ L → G i = some b) ∧ (L.map (·.1)).Nodup

theorem Fresh.nil {F G : Frz} : Fresh F G [] := ⟨fun _ _ h => (by cases h), fun _ _ h => (by cases h), List.nodup_nil⟩

theorem Fresh.mono {F G G' : Frz} {L : List (Nat × Blk)} (h : Fresh F G L) (hG : Frz.le G G') : Fresh F G' L := ⟨h.1, fun i b hm => hG _ _ (h.2.1 i b hm), h.2.2⟩

theorem Fresh.app {F G : Frz} {L B : List (Nat × Blk)} (h : Fresh F G L) (hB : ∀ i b, (i, b) ∈ B → F i = none ∧ G i = some b) (hD : (B.map (·.1)).Nodup) (hd : ∀ i b c, (i, b) ∈ L → (i, c) ∈ B → False) : Fresh F G (L ++ B) := by
  refine ⟨fun i b hm => ?_, fun i b hm => ?_, ?_⟩
  · rcases List.mem_append.1 hm with hm | hm
    · exact h.1 i b hm
    · exact (hB i b hm).1
  · rcases List.mem_append.1 hm with hm | hm
    · exact h.2.1 i b hm
    · exact (hB i b hm).2
  · rw [List.map_append, List.nodup_append]
    refine ⟨h.2.2, hD, fun x hx y hy e => ?_⟩
    obtain ⟨⟨i, b⟩, h1, rfl⟩ := List.mem_map.1 hx
    obtain ⟨⟨j, c⟩, h2, rfl⟩ := List.mem_map.1 hy
    have e : i = j := e
    subst e
    exact hd i b c h1 h2

theorem Fresh.appL {F G : Frz} {L B : List (Nat × Blk)} (h : Fresh F G L) (hB : ∀ i b, (i, b) ∈ B → F i = none ∧ G i = some b) (hD : (B.map (·.1)).Nodup) (hd : ∀ i b c, (i, b) ∈ L → (i, c) ∈ B → False) : Fresh F G (B ++ L) := by
  have h2 := h.app hB hD hd
  refine ⟨fun i b hm => h2.1 i b ?_, fun i b hm => h2.2.1 i b ?_, ((List.perm_append_comm (l₁ := B) (l₂ := L)).map _).nodup_iff.2 h2.2.2⟩
  · exact List.perm_append_comm.mem_iff.1 hm
  · exact List.perm_append_comm.mem_iff.1 hm

theorem AW.freezeAllN {C : Ctx} {n : Nat} {k : Kno} {F : Frz} {own : Own} {c : Code} {A : Ex → Kno → Frz → Own → Prop} (p : Nat) {B : List (Nat × Blk)} {own' : Own} (hp : own[p]? = some B) (ho : setO own p [] = some own')
    (h : ∀ G, Frz.le F G → (∀ i b, (i, b) ∈ B → G i = some b) → (∀ i b, (i, b) ∈ B → F i = none) → (B.map (·.1)).Nodup → AW C n c k G own' A) : AW C n c k F own A := by
  intro e h0 hk hs
  have s1 : St F (B :: own.eraseIdx p) h0 := hs.perm (perm_pick hp)
  have s0 : StF F (B ++ (own.eraseIdx p).flatten) h0 := by simpa [St] using s1
  have hnd := s0.nodup
  rw [List.map_append, List.nodup_append] at hnd
  exact AW.freezeAll p hp ho (fun G hG hB => h G hG hB (fun i b hm => s0.apart _ (List.mem_append_left _ hm)) hnd.1) e h0 hk hs

theorem Spec.thaw {C : Ctx} {f : FuncId} {args : List Value} {F : Frz} {Q : Frz → Value → List (Nat × Blk) → Prop} (spec : Spec C f args F [] fun F' v o => o = [] ∧ ∃ L, Fresh F F' L ∧ Q F' v L) :
    Spec C f args F [] fun G v o => ∃ L F', o = [L] ∧ (∀ i b, F' i = some b → (∃ c, (i, c) ∈ L) ∨ G i = some b) ∧ Q F' v L := by
  intro own h hs
  obtain ⟨v, h', F', oout, h1, h2, h3, rfl, L, hL, hQ⟩ := spec own h hs
  have h3 : StF F' own.flatten h' := h3
  classical
  refine ⟨v, h', fun i => if ∃ c, (i, c) ∈ L then none else F' i, [L], h1, fun i b q => ?_, ?_, L, F', rfl, fun i b q => ?_, hQ⟩
  · show (if ∃ c, (i, c) ∈ L then none else F' i) = some b
    rw [if_neg fun ⟨c, hc⟩ => by rw [hL.1 i c hc] at q; cases q]
    exact h2 _ _ q
  · show StF _ (L ++ own.flatten) h'
    refine ⟨fun i b q => ?_, fun p hp => ?_, fun p hp => ?_, ?_, h3.wf⟩
    · split at q
      · cases q
      · exact h3.frz i b q
    · rcases List.mem_append.1 hp with hp | hp
      · exact h3.frz _ _ (hL.2.1 p.1 p.2 hp)
      · exact h3.has p hp
    · rcases List.mem_append.1 hp with hp | hp
      · rw [if_pos ⟨p.2, hp⟩]
      · split
        · rfl
        · exact h3.apart p hp
    · rw [List.map_append, List.nodup_append]
      refine ⟨hL.2.2, h3.nodup, fun x hx y hy e => ?_⟩
      obtain ⟨p, hp, rfl⟩ := List.mem_map.1 hx
      obtain ⟨q, hq, rfl⟩ := List.mem_map.1 hy
      have h4 := hL.2.1 p.1 p.2 hp
      rw [e, h3.apart q hq] at h4; cases h4
  · by_cases hc : ∃ c, (i, c) ∈ L
    · exact .inl hc
    · exact .inr (by show (if ∃ c, (i, c) ∈ L then none else F' i) = some b; rw [if_neg hc]; exact q)
end Go.Abs
namespace Go.Proofs.D

/-! ### parlmake.Grammar, its result one's own -/
theorem bld_rules {F G : Frz} (hG : Frz.le F G) {a : Option Addr} {m c : Nat} {B bs : List (Nat × Blk)} {zs : List (Nat × Value)} {rs : List Rule} (hb : Bld tRuleC F a m c B zs) (hR : Rights F zs bs rs) (hB : ∀ i b, (i, b) ∈ bs → G i = some b) : Bld tRule G a m c B rs := by
  have hl := hb.len
  have hl2 := hR.len
  rcases hb.at_ with ⟨rfl, rfl, rfl, rfl⟩ | ⟨i, cs, rfl, rfl, rfl, h4, h5⟩
  · have : rs = [] := List.eq_nil_of_length_eq_zero hl2.symm
    subst this
    exact ⟨hl, .inl ⟨rfl, rfl, rfl, rfl⟩⟩
  · have h6 := cells_flatR h4
    subst h6
    exact ⟨by rw [hl, hl2], .inr ⟨i, _, rfl, rfl, rfl, hR.arr hG hB, by decide⟩⟩

structure GSo where
  xs : List Rule
  a : Option Addr
  m : Nat
  c : Nat
  B : List (Nat × Blk)
  Bs : List (Nat × Blk)
  zs : List (Nat × Value)
  bs : List (Nat × Blk)

theorem grammarOwn_spec0 (F : Frz) {a : Option Addr} {n c : Nat} {l : List Int} (hl : Arr tInt F a n c l) :
    Abs.Spec CC 44 [.slice a n c] F [] fun F' v o => o = [] ∧ ∃ L, Fresh F F' L ∧ ∃ g a m c B bs zs, L = B ++ bs ∧ v = .agg ⟨gramCells g a m c⟩ ∧ Bld tRuleC F' a m c B zs ∧ Rights F' zs bs g.rules ∧ Small g := by
  refine Abs.Spec.fn (n := 72) Tryz.func44 rfl rfl fun own => ?_
  refine AW.seq (AW.reg ?_)
  refine WT.allocT hT zr zr zr zr zr zr (fun i2 hi2 => ?_)
  refine zA ?_
  refine WT.boxT zr zr zr zr zr zr (fun i8 hi8 => ?_)
  refine zA ?_
  refine WT.call1 (B := [(i8, .cells false [.slice a n c])]) 0 Tryz.func84 zr zr zr zr zr zr zr (fun _ => rfl) (next_spec F i8 ⟨a, n, c, rfl, hl⟩ 3 (by decide) (by decide)) (fun v B1 hv => ?_)
  obtain ⟨r1, l1, rfl, hr1, hs1⟩ := hv
  refine za zr zr zr zr zr zr zo ?_; refine zA ?_
  refine WT.call1 0 Tryz.func84 zr zr zr zr zr zr zr (fun _ => rfl) (next_spec F i8 hs1 4 (by decide) (by decide)) (fun v B2 hv => ?_)
  obtain ⟨r2, l2, rfl, hr2, hs2⟩ := hv
  refine za zr zr zr zr zr zr zo ?_; refine zA ?_
  refine WT.allocT hT zr zr zr zr zr zr (fun i4 hi4 => ?_)
  refine zs hT 0 0 zr zr zr zr zr zr zr zr zr zr zr zr ?_; refine zA ?_; refine zl hT 0 zr zr zr zr zr zr me zr ?_
  refine WT.call1 1 Tryz.func84 zr zr zr zr zr zr zr (fun _ => rfl) (next_spec F i8 hs2 (1 + r2) zo zo) (fun v B3 hv => ?_)
  obtain ⟨r3, l3, rfl, hr3, hs3⟩ := hv
  refine zA ?_; refine zs hT 0 0 zr zr zr zr zr zr zr zr zr zr zr zr ?_; refine zA ?_
  refine WT.call1 1 Tryz.func84 zr zr zr zr zr zr zr (fun _ => rfl) (next_spec F i8 hs3 8 (by decide) (by decide)) (fun v B4 hv => ?_)
  obtain ⟨r4, l4, rfl, hr4, hs4⟩ := hv
  refine za zr zr zr zr zr zr zo ?_; refine zA ?_
  refine AW.range (S := GSo) (fun _ => []) (fun s => [(i4, .cells false [.int .i64 (1 + r1 : Nat), .int .i64 (1 + r2 : Nat), .int .i64 r3, .slice s.a s.m s.c])] :: s.B :: s.Bs :: [(i2, .cells false [.int .i64 0, .int .i64 0, .int .i64 0, .slice none 0 0])] :: own)
    (fun j s G => Bld tRuleC G s.a s.m s.c s.B s.zs ∧ Rights G s.zs s.bs s.xs ∧ Fresh F G s.bs ∧ (∃ l, StreamB G i8 s.Bs l) ∧ (∀ r ∈ s.xs, RuleOk (1 + r1) (1 + r2) r) ∧ s.xs.Nodup ∧ s.xs.length ≤ j ∧ (0 < j → 1 ≤ s.xs.length)) (1 + r4) ⟨[], none, 0, 0, [], B4, [], []⟩
    zr zr zr zr zr zr zr zr zr zo rfl rfl (fun _ => rfl) (fun _ => rfl) (SubK.of_map rfl) (OwnLe.flat (List.Perm.refl _)) ⟨Bld.nil_ _ _, Rights.nil, Fresh.nil, ⟨_, hs4⟩, by simp, by simp, by simp, by simp⟩ ?_ ?_
  · intro j s F1 hF1 hj hP
    obtain ⟨hb, hR, hFr, ⟨ls, hst⟩, hok, hnd, hlen, hpos⟩ := hP
    have hFr0 := hFr
    have hm1 : s.m = s.xs.length := by rw [hb.len, hR.len]
    refine zA ?_; refine zl hT 0 zr zr zr zr zr zr me zr ?_
    refine WT.call1 2 Tryz.func84 zr zr zr zr zr zr zr (fun _ => rfl) (next_spec F1 i8 hst (1 + r2) zo zo) (fun v B5 hv => ?_)
    obtain ⟨r5, l5, rfl, hr5, hs5⟩ := hv
    refine zA ?_
    refine WT.allocT hT zr zr zr zr zr zr (fun i5 hi5 => ?_)
    refine zs hT 0 0 zr zr zr zr zr zr zr zr zr zr zr zr ?_; refine zA ?_
    refine WT.call1 3 Tryz.func84 zr zr zr zr zr zr zr (fun _ => rfl) (next_spec F1 i8 hs5 4 (by decide) (by decide)) (fun v B6 hv => ?_)
    obtain ⟨r6, l6, rfl, hr6, hs6⟩ := hv
    refine zA ?_
    refine AW.range (S := GI) (fun _ => []) (fun s2 => [(i5, .cells false [.int .i64 r5, .slice s2.a s2.m s2.c])] :: s2.B :: [(i4, .cells false [.int .i64 (1 + r1 : Nat), .int .i64 (1 + r2 : Nat), .int .i64 r3, .slice s.a s.m s.c])] :: s.B :: s2.Bs :: [(i2, .cells false [.int .i64 0, .int .i64 0, .int .i64 0, .slice none 0 0])] :: own)
      (fun j s G => Bld tSym G s.a s.m s.c s.B s.ys ∧ (∃ l, StreamB G i8 s.Bs l) ∧ (∀ y ∈ s.ys, SymOk (1 + r1) (1 + r2) y) ∧ s.ys.length = j) r6 ⟨[], none, 0, 0, [], B6⟩
      zr zr zr zr zr zr zr zr zr zo rfl rfl (fun _ => rfl) (fun _ => rfl) (SubK.of_map rfl) (OwnLe.flat (List.Perm.refl _)) ⟨Bld.nil_ _ _, ⟨_, hs6⟩, by simp, by simp⟩ ?_ ?_
    · intro q s2 F2 hF2 hq hP2
      obtain ⟨hb2, ⟨ls2, hst2⟩, hok2, hlen2⟩ := hP2
      have hm2 := hb2.len
      refine zA ?_
      refine WT.call1 4 Tryz.func84 zr zr zr zr zr zr zr (fun _ => rfl) (next_spec F2 i8 hst2 2 (by decide) (by decide)) (fun v B7 hv => ?_)
      obtain ⟨r7, l7, rfl, hr7, hs7⟩ := hv
      refine zA ?_
      refine AW.cond rfl (fun hc => ?_) (fun hc => ?_)
      · refine AW.draw (ps := [(1, 5), (1, 7)]) rfl rfl ?_
        refine zA ?_; refine zl hT 0 zr zr zr zr zr zr me zr ?_; refine zA ?_; refine zl hT 2 zr zr zr zr zr zr me zr ?_
        refine WT.call1 4 Tryz.func84 zr zr zr zr zr zr zr (fun _ => rfl) (next_spec F2 i8 hs7 (1 + r1) zo zo) (fun v B8 hv => ?_)
        obtain ⟨r8, l8, rfl, hr8, hs8⟩ := hv
        refine zA ?_
        refine WT.buildT hT zr zr zr zr zr zr zr zr zr zr zr zr zr zr (fun i9 hi9 => ?_)
        refine WT.appendT (ys := [⟨true, r8⟩]) hT 2 hb2 rfl (fun _ => rfl) zr zr zr zr zr zr zr zr zr zr zr (fun h0 s0 => news_own hT s0 0 zr zr zr zr) (Cells.single (x := (⟨true, r8⟩ : Sym)) rfl) rfl (by decide) zom (fun a3 c3 B3 hB3 => ?_)
        refine zA ?_; refine zs hT 1 0 zr zr zr zr zr zr zr zr zr zr zr zr ?_; refine WT.nil ?_
        refine ⟨zrC, ?_⟩
        refine ⟨⟨s2.ys ++ [⟨true, r8⟩], a3, s2.m + 1, c3, B3, B8⟩, SubK.of_map rfl, zow, hB3, ⟨_, hs8⟩, ?_, by simp [hlen2]⟩
        intro y hy
        rcases List.mem_append.1 hy with hy | hy
        · exact hok2 y hy
        · obtain rfl := List.mem_singleton.1 hy; exact hr8
      · refine AW.draw (ps := [(1, 5), (1, 7)]) rfl rfl ?_
        refine zA ?_; refine zl hT 0 zr zr zr zr zr zr me zr ?_; refine zA ?_; refine zl hT 2 zr zr zr zr zr zr me zr ?_
        refine WT.call1 4 Tryz.func84 zr zr zr zr zr zr zr (fun _ => rfl) (next_spec F2 i8 hs7 (1 + r2) zo zo) (fun v B8 hv => ?_)
        obtain ⟨r8, l8, rfl, hr8, hs8⟩ := hv
        refine zA ?_
        refine WT.buildT hT zr zr zr zr zr zr zr zr zr zr zr zr zr zr (fun i9 hi9 => ?_)
        refine WT.appendT (ys := [⟨false, r8⟩]) hT 2 hb2 rfl (fun _ => rfl) zr zr zr zr zr zr zr zr zr zr zr (fun h0 s0 => news_own hT s0 0 zr zr zr zr) (Cells.single (x := (⟨false, r8⟩ : Sym)) rfl) rfl (by decide) zom (fun a3 c3 B3 hB3 => ?_)
        refine zA ?_; refine zs hT 1 0 zr zr zr zr zr zr zr zr zr zr zr zr ?_; refine WT.nil ?_
        refine ⟨zrC, ?_⟩
        refine ⟨⟨s2.ys ++ [⟨false, r8⟩], a3, s2.m + 1, c3, B3, B8⟩, SubK.of_map rfl, zow, hB3, ⟨_, hs8⟩, ?_, by simp [hlen2]⟩
        intro y hy
        rcases List.mem_append.1 hy with hy | hy
        · exact hok2 y hy
        · obtain rfl := List.mem_singleton.1 hy; exact hr8
    · intro s2 F2 hF2 hP2
      obtain ⟨hb2, ⟨ls2, hst2⟩, hok2, hlen2⟩ := hP2
      have hm2 := hb2.len
      refine AW.freezeAllN 1 rfl rfl (fun F3 hF3 hB3 hN3 hD3 => ?_)
      have hy := hb2.frozen hF3 hB3
      have hb := (hb.mono hF2).mono hF3
      have hR := (hR.mono hF2).mono hF3
      have hFr := hFr.mono (hF2.trans hF3)
      have hFr3 : Fresh F F3 (s.bs ++ s2.B) := hFr.app (fun i b hm => ⟨(hF1.trans hF2).none (hN3 i b hm), hB3 i b hm⟩) hD3 fun i b c h1 h2 => by
        have h3 := (Fresh.mono hFr0 hF2).2.1 i b h1
        rw [hN3 i c h2] at h3; cases h3
      have hst2 := hst2.mono hF3
      refine zA ?_; refine zl hT 2 zr zr zr zr zr zr me zr ?_; refine zl hT 0 zr zr zr zr zr zr me zr ?_
      refine WT.callLend 3 Tryz.func85 zr zr zr zr zr zr zr (fun G hG hBG => has_spec G (left := r5) ((bld_rules (Frz.le.refl _) (hb.mono hG) (hR.mono hG) (fun i b hm => hG _ _ (hFr.2.1 i b hm))).frozen (Frz.le.refl _) hBG) zom (hy.mono hG) zom) (fun v hv => ?_)
      subst hv
      refine zA ?_

      refine AW.cond rfl (fun hc => ?_) (fun hc => ?_)
      · refine zA ?_; refine zl hT 2 zr zr zr zr zr zr me zr ?_; refine zl hT 0 zr zr zr zr zr zr me zr ?_
        refine WT.buildT hT zr zr zr zr zr zr zr zr zr zr zr zr zr zr (fun i9 hi9 => ?_)
        refine WT.appendT (R := tRuleC) (ys := [(r5, .slice s2.a s2.m s2.c)]) hT 4 hb rfl (fun _ => rfl) zr zr zr zr zr zr zr zr zr zr zr (fun h0 s0 => news_own hT s0 0 zr zr zr zr) (Cells.single (R := tRuleC) ⟨rfl, rfl⟩) rfl (by decide) zom (fun a3 c3 B3 hB3 => ?_)
        refine zA ?_; refine zs hT 3 0 zr zr zr zr zr zr zr zr zr zr zr zr ?_; refine WT.nil ?_
        refine ⟨⟨s.xs ++ [⟨r5, s2.ys⟩], a3, s.m + 1, c3, B3, s2.Bs, s.zs ++ [(r5, .slice s2.a s2.m s2.c)], s.bs ++ s2.B⟩, SubK.of_map rfl, zow, hB3, Rights.snoc (r := ⟨r5, s2.ys⟩) ((hb2.mono hF3).vec) hR, hFr3, ⟨_, hst2⟩, ?_, ?_, ?_, ?_⟩
        · intro r hr
          rcases List.mem_append.1 hr with hr | hr
          · exact hok r hr
          · obtain rfl := List.mem_singleton.1 hr
            exact ⟨by simp; omega, by simp; omega, hok2⟩
        · rw [List.nodup_append]
          refine ⟨hnd, by simp, fun x hx y hy => ?_⟩
          obtain rfl := List.mem_singleton.1 hy
          rintro rfl
          simp [hx] at hc
        · simp; omega
        · simp
      · refine AW.skip ?_
        have hin : (⟨r5, s2.ys⟩ : Rule) ∈ s.xs := by simpa using hc
        refine ⟨{ s with Bs := s2.Bs }, SubK.of_map rfl, zow, hb, hR, hFr, ⟨_, hst2⟩, hok, hnd, by dsimp only; omega, fun _ => List.length_pos_of_mem hin⟩
  · intro s F1 hF1 hP
    obtain ⟨hb, hR, hFr, ⟨ls, hst⟩, hok, hnd, hlen, hpos⟩ := hP
    refine AW.freezeAllN 1 rfl rfl (fun F3 hF3 hB3 hN3 hD3 => ?_)
    have hFr3 : Fresh F F3 (s.B ++ s.bs) := (hFr.mono hF3).appL (fun i b hm => ⟨hF1.none (hN3 i b hm), hB3 i b hm⟩) hD3 fun i b c h1 h2 => by
      have h3 := hFr.2.1 i b h1
      rw [hN3 i c h2] at h3; cases h3
    refine zA ?_; refine zl hT 0 zr zr zr zr zr zr me zr ?_; refine zs hT 3 0 zr zr zr zr zr zr zr zr zr zr zr zr ?_; refine WT.nil ?_
    have hx3 : s.m = s.xs.length := by rw [hb.len, hR.len]
    refine AW.ret ⟨_, [], ⟨_, _, ⟨_, rfl, fun G h0 s0 => loadA_cells (s0.has (p := 3) rfl (List.mem_cons_self ..)) (readT_ok hT rfl)⟩, rfl, rfl⟩, zsb, rfl, s.B ++ s.bs, hFr3, ⟨1 + r1, 1 + r2, r3, s.xs⟩, s.a, s.m, s.c, s.B, s.bs, s.zs, rfl, rfl, hb.mono hF3, hR.mono hF3, ?_⟩
    exact ⟨by dsimp only; omega, by dsimp only; omega, hr3, by dsimp only; omega, hnd, hok⟩

theorem grammarOwn_spec (F : Frz) {a : Option Addr} {n c : Nat} {l : List Int} (hl : Arr tInt F a n c l) :
    Abs.Spec CC 44 [.slice a n c] F [] fun G v o => ∃ g a m c B bs zs, o = [B ++ bs] ∧ v = .agg ⟨gramCells g a m c⟩ ∧ Bld tRuleC G a m c B zs ∧ Rights G zs bs g.rules ∧ Small g :=
  (Spec.thaw (grammarOwn_spec0 F hl)).mono fun G v o _ ⟨L, F', ho, _, g, a, m, c, B, bs, zs, h1, h2, h3, h4, h5⟩ => ⟨g, a, m, c, B, bs, zs, by rw [ho, h1], h2, bld_c h3, rights_c h4, h5⟩

/-! ### another rule -/
structure NewRule (g : Gram) (r : Rule) : Prop where
  left : r.left < g.nons
  len : r.right.length ≤ 4
  ok : ∀ y ∈ r.right, SymOk g.terms g.nons y

/-! ### a grammar that is not taken -/
/-! ### contracts in the form that MeanMore takes -/
/-! ### first.union -/
def orRow (xs ys : List Bool) : List Bool := List.zipWith (fun a b => a || b) xs ys

structure US where
  cur : List Bool
  ch : Bool

/-! ### Sets.Of -/
/-- What a list of symbols begins with, and whether it becomes empty. -/
def ofRow (E : List Bool) (Fi : List (List Bool)) : List Bool → List Sym → List Bool × Bool
  | out, [] => (out, true)
  | out, s :: l => if s.term = true then (out.set s.n true, false) else
    if E.getD s.n false = true then ofRow E Fi (orRow out (Fi.getD s.n [])) l else (orRow out (Fi.getD s.n []), false)

/-! ### first.Make -/
/-- Nothing more is found. -/
def FirstClosed (g : Gram) (E : List Bool) (Fi : List (List Bool)) : Prop := ∀ r ∈ g.rules, orRow (Fi.getD r.left []) (ofRow E Fi (List.replicate g.terms false) r.right).1 = Fi.getD r.left [] ∧
  ((ofRow E Fi (List.replicate g.terms false) r.right).2 = true → E.getD r.left false = true)

/-- What first.Make makes, frozen. -/
structure SetsF (F : Frz) (is : Nat) (g : Gram) (ra : Option Addr) (rm rc : Nat) (E : List Bool) (Fi : List (List Bool)) : Prop where
  blk : ∃ ie io ce co ro, F is = some (.cells ro [.int .i64 g.terms, .int .i64 g.nons, .int .i64 g.start, .slice ra rm rc, .slice (some ⟨ie, 0, none⟩) g.nons ce, .slice (some ⟨io, 0, none⟩) g.nons co]) ∧
    Arr tBool F (some ⟨ie, 0, none⟩) g.nons ce E ∧ Arr (tList tBool) F (some ⟨io, 0, none⟩) g.nons co Fi
  row : ∀ r ∈ Fi, r.length = g.terms
  rules : Arr tRule F ra rm rc g.rules
  closed : FirstClosed g E Fi

structure FS where
  a : Option Addr
  m : Nat
  c : Nat
  B : List (Nat × Blk)
  vs : List Value
  bs : List (Nat × Blk)

structure FM where
  E : List Bool
  Fi : List (List Bool)
  bs : List (Nat × Blk)
  again : Bool

def ones : List Bool → Nat
  | [] => 0
  | b :: l => (if b = true then 1 else 0) + ones l
/-! ### Warshall's closure -/
structure TM where
  M : List (List Bool)
  bs : List (Nat × Blk)

structure LfS where
  ys : List (List Nat)
  a : Option Addr
  m : Nat
  c : Nat
  B : List (Nat × Blk)

end Go.Proofs.D

