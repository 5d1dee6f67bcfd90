/-
  Walks: what functions of the program do, over the abstract machine.
-/
import Derived.Test.YtbfmpklhcbfnaaaGreatDoorWk2
set_option linter.unusedVariables false
set_option maxRecDepth 20000
set_option maxHeartbeats 0
open Go Go.Abs Go.Proofs Go.Proofs.D
namespace Go.Proofs.D

/-! ### trees -/
inductive Tree where
  | mk (rule : Int) (term : Nat) (kids : List Tree)

theorem Arr.imp {α : Type} {R S : Ty α} (hs : R.size = S.size) {F : Frz} {a : Option Addr} {n c : Nat} {xs : List α} (h : Arr R F a n c xs) (hi : ∀ l x, x ∈ xs → R.rel F l x → S.rel F l x) : Arr S F a n c xs :=
  ⟨h.len, by rw [← hs]; exact h.cap, h.zero, h.nil, h.spot, fun j x hj =>
    let ⟨b, off, ro, cs, l, h1, h2, h3, h4⟩ := h.el j x hj
    ⟨b, off, ro, cs, l, h1, h2, by rw [← hs]; exact h3, hi _ _ (List.mem_of_getElem? hj) h4⟩⟩

structure TkS where
  j : Nat
  a : Option Addr
  c : Nat
  B : List (Nat × Blk)

/-! ### a parser whose blocks are all its own -/
theorem gcopyOwn_spec (F : Frz) (g : Gram) {a : Option Addr} {m c : Nat} (hr : Arr tRule F a m c g.rules) (hm : m ≤ 1000000) (hrr : ∀ r ∈ g.rules, r.right.length ≤ 1000000) :
    Abs.Spec CC 46 [.agg ⟨gramCells g a m c⟩] F [] fun F' v o => ∃ B', o = [B'] ∧ ∃ B bs a' c' xs, B' = B ++ bs ∧ v = .agg ⟨gramCells g a' m c'⟩ ∧ Bld tRuleC F' a' m c' B xs ∧ Rights F' xs bs g.rules := by
  unfold gramCells
  have hrl := hr.len
  refine Abs.Spec.fn (n := 28) Tryz.func46 rfl rfl fun own => ?_
  refine AW.seq (AW.reg ?_)
  refine WT.boxT zr zr zr zr zr zr (fun i1 hi1 => ?_)
  refine WT.allocT hT zr zr zr zr zr zr (fun i2 hi2 => ?_)
  refine zA ?_; refine zl hT 1 zr zr zr zr zr zr me zr ?_
  refine WT.allocT hT zr zr zr zr zr zr (fun i3 hi3 => ?_)
  refine zs hT 0 0 zr zr zr zr zr zr zr zr zr zr zr zr ?_; refine zA ?_; refine zs hT 0 0 zr zr zr zr zr zr zr zr zr zr zr zr ?_; refine zA ?_; refine zl hT 2 zr zr zr zr zr zr me zr ?_; refine zA ?_
  refine AW.range (S := CoS) (fun _ => []) (fun s => s.B :: [(i3, .cells false [.int .i64 g.terms, .int .i64 g.nons, .int .i64 g.start, .slice s.a s.j s.c])] :: s.bs :: [(i2, .cells false [.int .i64 0, .int .i64 0, .int .i64 0, .slice none 0 0])] :: [(i1, .cells false [.int .i64 g.terms, .int .i64 g.nons, .int .i64 g.start, .slice a m c])] :: own)
    (fun j s G => s.j = j ∧ Bld tRuleC G s.a s.j s.c s.B s.xs ∧ Rights G s.xs s.bs (g.rules.take j)) m ⟨0, none, 0, [], [], []⟩
    zr zr zr zr zr zr zr zr zr zo rfl rfl (fun _ => rfl) (fun _ => rfl) (SubK.of_map rfl) (OwnLe.flat (List.Perm.refl _)) ⟨rfl, Bld.nil_ _ _, Rights.nil⟩ ?_ ?_
  · intro j s F1 hF1 hj hP
    obtain ⟨rfl, hb, hR⟩ := hP
    have hr1 := hr.mono hF1
    refine zA ?_
    refine WT.idxL hT hr1 zr zr zr zr zr zr zr zr zr zo (fun r hrj b off ro cs lx hb1 hp1 hrel => ?_)
    obtain ⟨ra, rn, rc, rfl, hra⟩ := hrel
    have hral := hra.len
    have hrn := hrr r (List.mem_of_getElem? hrj)
    refine zi (fo := 0) hT (by assumption) (by assumption) zr zr zr zr zr zr ?_
    refine WT.allocT hT zr zr zr zr zr zr (fun i5 hi5 => ?_)
    refine zs hT 0 0 zr zr zr zr zr zr zr zr zr zr zr zr ?_; refine WT.nil ?_
    refine AW.draw (ps := [(1, 6), (1, 8), (3, 6)]) rfl rfl ?_
    refine zA ?_; refine zl hT 2 zr zr zr zr zr zr me zr ?_; refine zA ?_; refine zl hT 0 zr zr zr zr zr zr me zr ?_; refine zA ?_; refine zl hT 0 zr zr zr zr zr zr me zr ?_
    refine WT.callN Tryz.func62 zr zr zr zr zr zr (symClone_spec _ hra zo) (fun F2 v B2 hF2 hv => ?_)
    obtain ⟨ca, cc, rfl, hcv⟩ := hv
    refine zA ?_
    refine WT.buildT hT zr zr zr zr zr zr zr zr zr zr zr zr zr zr (fun i9 hi9 => ?_)
    refine WT.appendT (R := tRuleC) (ys := [(r.left, .slice ca rn cc)]) hT 3 (hb.mono hF2) rfl (fun _ => rfl) zr zr zr zr zr zr zr zr zr zr zr (fun h0 s0 => news_own hT s0 0 zr zr zr zr) (Cells.single (R := tRuleC) ⟨rfl, rfl⟩) rfl (by decide) zom (fun a3 c3 B3 hB3 => ?_)
    refine zA ?_; refine zs hT 4 0 zr zr zr zr zr zr zr zr zr zr zr zr ?_; refine WT.nil ?_
    refine ⟨zrC, ?_⟩
    refine ⟨⟨s.j + 1, a3, c3, B3, s.xs ++ [(r.left, .slice ca rn cc)], s.bs ++ B2⟩, SubK.of_map rfl, ?_, rfl, hB3, ?_⟩
    · refine OwnLe.skip _ (OwnLe.trans (OwnLe.flat ?_) (OwnLe.cons _ (OwnLe.skip _ (OwnLe.refl _))))
      simp only [List.flatten_cons, List.append_assoc]
      exact perm_cp5 _ _ _ _ _
    · have := Rights.snoc (r := r) hcv (hR.mono hF2)
      rw [List.take_add_one, hrj]
      exact this
  · intro s F1 hF1 hP
    obtain ⟨hj, hb, hR⟩ := hP
    rw [List.take_of_length_le zo] at hR
    rw [hj] at hb ⊢
    refine zA ?_; refine zl hT 1 zr zr zr zr zr zr me zr ?_; refine zs hT 3 0 zr zr zr zr zr zr zr zr zr zr zr zr ?_; refine WT.nil ?_
    refine AW.le (own2 := [(i2, .cells false [.int .i64 g.terms, .int .i64 g.nons, .int .i64 g.start, .slice s.a m s.c])] :: (s.B ++ s.bs) :: own) (OwnLe.trans (OwnLe.flat ?_) (OwnLe.cons _ (OwnLe.skip _ (OwnLe.cons _ (OwnLe.cons _ (OwnLe.skip _ (OwnLe.refl _))))))) ?_
    · have := List.perm_middle (a := (i2, Blk.cells false [.int .i64 g.terms, .int .i64 g.nons, .int .i64 g.start, .slice s.a m s.c])) (l₁ := s.B ++ s.bs) (l₂ := own.flatten)
      simpa [List.append_assoc] using this
    refine AW.ret ⟨_, [_], ⟨_, _, ⟨_, rfl, fun G h0 s0 => loadA_cells (s0.has (p := 0) rfl (List.mem_cons_self ..)) (readT_ok hT rfl)⟩, rfl, rfl⟩, zsb, _, rfl, _, _, _, _, _, rfl, rfl, hb, hR⟩

/-! ### rules over a frame of their own -/
def tRuleH (H : Frz) : Ty Rule where
  size := 2
  rel := fun _ l x => tRule.rel H l x
  len := fun _ _ _ h => tRule.len _ _ _ h
  one := fun _ _ _ h => tRule.one _ _ _ h
  mono := fun _ _ _ _ _ h => h

theorem sub_frz {F : Frz} {bs : List (Nat × Blk)} (hB : ∀ i b, (i, b) ∈ bs → F i = some b) : ∃ H : Frz, Frz.le H F ∧ (∀ i b, (i, b) ∈ bs → H i = some b) ∧ ∀ G : Frz, (∀ i b, (i, b) ∈ bs → G i = some b) → Frz.le H G := by
  classical
  refine ⟨fun i => if ∃ b, (i, b) ∈ bs then F i else none, fun i b q => ?_, fun i b hm => ?_, fun G hG i b q => ?_⟩
  · dsimp only at q
    split at q
    · exact q
    · cases q
  · show (if ∃ b, (i, b) ∈ bs then F i else none) = some b
    rw [if_pos ⟨b, hm⟩]; exact hB i b hm
  · dsimp only at q
    split at q
    · rename_i hm
      obtain ⟨b', hm⟩ := hm
      rw [hB i b' hm] at q
      cases q
      exact hG i _ hm
    · cases q

theorem cellsH {H F : Frz} {cs : List Value} {rs : List Rule} (h : Cells tRule H cs rs) : Cells (tRuleH H) F cs rs := by
  induction h with
  | nil => exact .nil
  | cons h _ ih => exact .cons h ih

theorem bldH {H F : Frz} {a : Option Addr} {m c : Nat} {B bs : List (Nat × Blk)} {zs : List (Nat × Value)} {rs : List Rule} (hb : Bld tRuleC F a m c B zs) (hR : Rights F zs bs rs) (hB : ∀ i b, (i, b) ∈ bs → H i = some b) : Bld (tRuleH H) F a m c B rs := by
  have hR' : Rights H zs bs rs := rights_c hR
  have := bld_rules (F := H) (Frz.le.refl H) (bld_c hb) hR' hB
  exact ⟨this.len, this.at_.imp id fun ⟨i, cs, h1, h2, h3, h4, h5⟩ => ⟨i, cs, h1, h2, h3, cellsH h4, Nat.zero_lt_succ 1⟩⟩

theorem arrH {H G : Frz} (hH : Frz.le H G) {a : Option Addr} {m c : Nat} {rs : List Rule} (h : Arr (tRuleH H) G a m c rs) : Arr tRule G a m c rs :=
  Go.Proofs.D.Arr.imp (R := tRuleH H) (S := tRule) rfl h fun l x _ hx => tRule.mono _ _ _ _ hH hx

theorem vecGB {α : Type} {R : Ty α} {F : Frz} {a : Option Addr} {n c : Nat} {B : List (Nat × Blk)} {xs : List α} (h : Vec R F a n c B xs) (hne : xs ≠ []) : GB R F a n c B xs := (h.bld hne).gb

theorem deleteOwn_spec (F H : Frz) (hH : Frz.le H F) {a : Option Addr} {m c : Nat} {B : List (Nat × Blk)} {xs : List Rule} (hv : Bld (tRuleH H) F a m c B xs) (hm : m ≤ 1000000) (p : Rule → Bool) {g : Nat} {fn : Func} {first capt : List Value} (hg : CC.func g = some fn) (hgb : fn.body.isSome = true)
    (hp : ∀ G, Frz.le F G → ∀ x ∈ xs, ∀ b n d, Arr tSym G b n d x.right → Abs.Spec CC g (first ++ [.agg ⟨[.int .i64 x.left, .slice b n d]⟩] ++ capt) G [] fun _ v o => o = [] ∧ v = .bool (p x)) :
    Abs.Spec CC 47 [.slice a m c, .func (.func g) ⟨first⟩ ⟨capt⟩] F [B] fun F' v o => ∃ B', o = [B'] ∧ ∃ a' n' c', v = .slice a' n' c' ∧ GB (tRuleH H) F' a' n' c' B' (xs.filter fun x => !p x) := by
  have hlen := hv.len
  refine Abs.Spec.fn (n := 42) Tryz.func47 rfl rfl fun own => ?_
  refine zA ?_
  refine WT.callLend 0 Tryz.func87 zr zr zr zr zr zr zr (fun G hG hBG => ruleIndex_spec G (arrH (hH.trans hG) (hv.frozen hG hBG)) hm p hg hgb (fun x hx b n d hr => hp G hG x hx b n d hr)) (fun v hv' => ?_)
  subst hv'
  rcases idxOf_spec (p := p) (l := xs) with ⟨h1, h2⟩ | ⟨i, x, h1, hx, hpx, h2⟩
  · rw [h1]
    refine zA ?_
    refine AW.cond rfl (fun _ => ?_) (fun h => (by cases h))
    refine zA ?_
    refine AW.ret ⟨_, [_], ⟨_, _, rfl, rfl, rfl⟩, zsb, _, rfl, a, m, c, rfl, ?_⟩
    rw [List.filter_eq_self.2 (fun y hy => by rw [h2 y hy]; rfl)]
    exact hv.gb
  · rw [h1]
    have hi := (List.getElem?_eq_some_iff.1 hx).1
    obtain ⟨ib, cs0, rfl, rfl, rfl, hcs0⟩ : ∃ ib cs0, a = some ⟨ib, 0, none⟩ ∧ c = 2 ∧ B = [(ib, .cells false cs0)] ∧ Cells (tRuleH H) F cs0 xs := by
      rcases hv.at_ with ⟨e, _⟩ | ⟨ib, cs0, e1, e2, e3, e4, _⟩
      · subst e; simp at hi
      · exact ⟨ib, cs0, e1, e2, e3, e4⟩
    have hvv := hv.vec
    refine zA ?_
    refine AW.cond rfl (fun h => (by simp at h)) (fun _ => ?_)
    refine zA ?_; refine za zr zr zr zr zr zr zo ?_; refine zA ?_
    refine AW.block ?_
    refine AW.loopR (S := DS) (fun s => [(5, .int .i64 s.i), (6, .int .i64 s.j)]) (fun s => s.B :: own)
      (fun s G => Vec (tRuleH H) G (some ⟨ib, 0, none⟩) m 2 s.B s.ys ∧ s.i < s.j ∧ s.j ≤ m ∧ s.ys.take s.i = (xs.take s.j).filter (fun x => !p x) ∧ s.ys.drop s.j = xs.drop s.j) (fun s => m - s.j) ⟨i, i + 1, xs, _⟩
      (SubK.of_map rfl) (OwnLe.refl _) ⟨hvv, Nat.lt_succ_self _, by dsimp only; omega, ?_, rfl⟩ ?_
    · rw [List.take_add_one, hx, List.filter_append, List.filter_eq_self.2 (fun y hy => by rw [h2 y hy]; rfl)]
      simp [hpx]
    intro s F1 hF1 hP
    obtain ⟨hv1, hij, hjm, htake, hdrop⟩ := hP
    have hv1l := hv1.len
    refine zA ?_
    refine AW.cond rfl (fun h => ?_) (fun h => ?_)
    · have h : s.j < m := by simpa using h
      obtain ⟨y, hy⟩ : ∃ y, xs[s.j]? = some y := ⟨_, List.getElem?_eq_getElem zo⟩
      have hy1 : s.ys[s.j]? = some y := by
        have e1 : (s.ys.drop s.j)[0]? = s.ys[s.j]? := by simp
        have e2 : (xs.drop s.j)[0]? = xs[s.j]? := by simp
        rw [← e1, hdrop, e2, hy]
      obtain ⟨z, hz⟩ : ∃ z, s.ys[s.i]? = some z := ⟨_, List.getElem?_eq_getElem zo⟩
      have hil : s.i < s.ys.length := by omega
      refine zA ?_
      refine AW.block ?_
      refine zA ?_
      refine WT.vidx hT hv1 zr zr zr zr zr zr zr zr zr h (fun b5 hb5 => ?_)
      refine WT.vldS hT 0 hv1 hb5 hy1 zr zr zr zr zr zr zr zr zr (fun l hl => ?_)
      obtain ⟨ya, yn, yc, rfl, hya⟩ := hl
      skip
      refine WT.allocT hT zr zr zr zr zr zr (fun i7 hi7 => ?_)
      refine zs hT 0 0 zr zr zr zr zr zr zr zr zr zr zr zr ?_; refine zA ?_; refine zl hT 0 zr zr zr zr zr zr me zr ?_
      refine WT.callC hg hgb zr zr zr zr zr zr zr (hp _ hF1 y (List.mem_of_getElem? hy) _ _ _ (hya.mono (hH.trans hF1))) (fun v hv' => ?_)
      subst hv'
      refine zA ?_
      have hdr : s.ys.drop (s.j + 1) = xs.drop (s.j + 1) := by
        have := congrArg (List.drop 1) hdrop
        rw [List.drop_drop, List.drop_drop] at this; exact this
      refine AW.cond rfl (fun h3 => ?_) (fun h3 => ?_)
      · have h3 : p y = false := by simpa using h3
        refine zA ?_; refine zl hT 0 zr zr zr zr zr zr me zr ?_
        refine WT.vidx hT hv1 zr zr zr zr zr zr zr zr zr zo (fun b6 hb6 => ?_)
        refine WT.vst (y := y) hT 1 hv1 hb6 hz zr zr zr zr zr ⟨_, _, _, rfl, hya⟩ rfl (fun _ => rfl) rfl (fun B6 hB6 => ?_)
        refine zA ?_; refine za zr zr zr zr zr zr zo ?_; refine zA ?_; refine za zr zr zr zr zr zr zo ?_; refine zA ?_
        refine ⟨⟨s.i + 1, s.j + 1, s.ys.set s.i y, B6⟩, by dsimp only; omega, SubK.of_map rfl, zow, hB6, by dsimp only; omega, by dsimp only; omega, ?_, ?_⟩
        · show (s.ys.set s.i y).take (s.i + 1) = (xs.take (s.j + 1)).filter _
          rw [List.take_add_one, List.getElem?_set_self hil, List.take_set_of_le (Nat.le_refl _), htake, List.take_add_one, hy, List.filter_append]
          simp [h3]
        · show (s.ys.set s.i y).drop (s.j + 1) = xs.drop (s.j + 1)
          rw [List.drop_set_of_lt zo, hdr]
      · have h3 : p y = true := by simpa using h3
        refine zA ?_; refine za zr zr zr zr zr zr zo ?_; refine zA ?_
        refine ⟨⟨s.i, s.j + 1, s.ys, s.B⟩, by dsimp only; omega, SubK.of_map rfl, zow, hv1, by dsimp only; omega, by dsimp only; omega, ?_, hdr⟩
        show s.ys.take s.i = (xs.take (s.j + 1)).filter _
        rw [htake, List.take_add_one, hy, List.filter_append]
        simp [h3]
    · have h : s.j = m := by simp at h; omega
      rw [h, show xs.take m = xs from List.take_of_length_le zo] at htake
      skip
      refine AW.exit ?_
      refine zA ?_
      refine WT.slice zr zr zr zr zr zr zr zr (fun h0 => sliceA_some (lo := s.i) (hi := m) hT zr zr zr zr zr zo (Nat.le_refl _) (.inr rfl) h0) ?_
      refine WT.vclear (x0 := (⟨0, []⟩ : Rule)) (i := s.i) (l := m - s.i) hT 0 hv1 zr zr zr zr zr zr zr zr ⟨none, 0, 0, rfl, Arr.nil_ _ _⟩ zo zo rfl (fun _ => rfl) (fun B6 hB6 => ?_)
      have hgb := vecGB hB6 (fun e => by
        have := congrArg List.length e
        simp at this; omega)
      refine zA ?_
      refine WT.sliceG hT hgb zr zr zr zr zr zr zr zr zr (show s.i ≤ m by omega) ?_
      refine zA ?_
      refine AW.ret ⟨_, [_], ⟨_, _, rfl, rfl, rfl⟩, zsb, _, rfl, _, _, _, rfl, ?_⟩
      have e : List.take s.i (List.take s.i s.ys ++ List.replicate (m - s.i) ⟨0, []⟩) = xs.filter fun x => !p x := by
        rw [List.take_left' (by rw [List.length_take]; omega), htake]
      have := hgb.take (k := s.i) zo
      rw [e] at this
      exact this
end Go.Proofs.D

set_option linter.unusedVariables false
set_option maxRecDepth 20000
set_option maxHeartbeats 0
open Go Go.Abs Go.Proofs Go.Proofs.D
namespace Go.Abs

theorem WT.freezeAllN {C : Ctx} {n : Nat} {k : Kno} {F : Frz} {own : Own} {ops rest : List Oper} {Q : Kno → Frz → Own → List Rec → Prop} (p : Nat) {B : List (Nat × Blk)} {own' : Own} (hp : own[p]? = some B) (ho : setO own p [] = some own')
    (h : ∀ G, Frz.le F G → (∀ i b, (i, b) ∈ B → G i = some b) → (∀ i b, (i, b) ∈ B → F i = none) → (B.map (·.1)).Nodup → WT C n ops rest k G own' Q) : WT C n ops rest k F own Q := by
  intro e h0 hk hs
  have s1 : St F (B :: own.eraseIdx p) h0 := hs.perm (perm_pick hp)
  have s0 : StF F (B ++ (own.eraseIdx p).flatten) h0 := by simpa [St] using s1
  have hnd := s0.nodup
  rw [List.map_append, List.nodup_append] at hnd
  exact WT.freezeAll p hp ho (fun G hG hB => h G hG hB (fun i b hm => s0.apart _ (List.mem_append_left _ hm)) hnd.1) e h0 hk hs

/-- What was frozen on the way is given back with the result. -/
theorem Spec.thaw2 {C : Ctx} {f : FuncId} {args : List Value} {F : Frz} {Q : Value → List (Nat × Blk) → Prop} (spec : Spec C f args F [] fun F' v o => ∃ B', o = [B'] ∧ ∃ L, Fresh F F' L ∧ Q v (B' ++ L)) :
    Spec C f args F [] fun G v o => ∃ B, o = [B] ∧ Q v B := by
  intro own h hs
  obtain ⟨v, h', F', oout, h1, h2, h3, B', rfl, L, hL, hQ⟩ := spec own h hs
  have h3 : StF F' (B' ++ own.flatten) h' := h3
  classical
  refine ⟨v, h', fun i => if ∃ c, (i, c) ∈ L then none else F' i, [B' ++ L], h1, fun i b q => ?_, ?_, _, rfl, hQ⟩
  · show (if ∃ c, (i, c) ∈ L then none else F' i) = some b
    rw [if_neg fun ⟨c, hc⟩ => by rw [hL.1 i c hc] at q; cases q]
    exact h2 _ _ q
  · show StF _ ((B' ++ L) ++ own.flatten) h'
    have hnd := h3.nodup
    rw [List.map_append, List.nodup_append] at hnd
    refine ⟨fun i b q => ?_, fun p hp => ?_, fun p hp => ?_, ?_, h3.wf⟩
    · split at q
      · cases q
      · exact h3.frz i b q
    · rcases List.mem_append.1 hp with hp | hp
      · rcases List.mem_append.1 hp with hp | hp
        · exact h3.has p (List.mem_append_left _ hp)
        · exact h3.frz _ _ (hL.2.1 p.1 p.2 hp)
      · exact h3.has p (List.mem_append_right _ hp)
    · rcases List.mem_append.1 hp with hp | hp
      · rcases List.mem_append.1 hp with hp | hp
        · split
          · rfl
          · exact h3.apart p (List.mem_append_left _ hp)
        · rw [if_pos ⟨p.2, hp⟩]
      · split
        · rfl
        · exact h3.apart p (List.mem_append_right _ hp)
    · have hdis : ∀ x ∈ L.map (·.1), ∀ y ∈ (B' ++ own.flatten).map (·.1), x ≠ y := fun x hx y hy e => by
        obtain ⟨p, hp, rfl⟩ := List.mem_map.1 hx
        obtain ⟨q, hq, rfl⟩ := List.mem_map.1 hy
        have h4 := hL.2.1 p.1 p.2 hp
        rw [e, h3.apart q hq] at h4; cases h4
      rw [List.map_append, List.map_append, List.nodup_append, List.nodup_append]
      refine ⟨⟨hnd.1, hL.2.2, fun x hx y hy e => hdis y hy x (by rw [List.map_append]; exact List.mem_append_left _ hx) e.symm⟩, hnd.2.1, fun x hx y hy e => ?_⟩
      rcases List.mem_append.1 hx with hx | hx
      · exact hnd.2.2 x hx y hy e
      · exact hdis x hx y (by rw [List.map_append]; exact List.mem_append_right _ hy) e
end Go.Abs
namespace Go.Proofs.D

theorem rawAny {F G : Frz} {a : Option Addr} {n c : Nat} {B : List (Nat × Blk)} {vs : List Value} (h : Bld tRaw F a n c B vs) : Bld tRaw G a n c B vs := by
  have aux : ∀ {cs : List Value} {vs : List Value}, Cells tRaw F cs vs → Cells tRaw G cs vs := by
    intro cs vs h
    induction h with
    | nil => exact .nil
    | cons h _ ih => exact .cons h ih
  exact ⟨h.len, h.at_.imp id fun ⟨i, cs, h1, h2, h3, h4, h5⟩ => ⟨i, cs, h1, h2, h3, aux h4, h5⟩⟩

theorem itemAny {F G : Frz} {a : Option Addr} {n c : Nat} {B : List (Nat × Blk)} {vs : List Item} (h : Bld tItem F a n c B vs) : Bld tItem G a n c B vs := by
  have aux : ∀ {cs : List Value} {vs : List Item}, Cells tItem F cs vs → Cells tItem G cs vs := by
    intro cs vs h
    induction h with
    | nil => exact .nil
    | cons h _ ih => exact .cons h ih
  exact ⟨h.len, h.at_.imp id fun ⟨i, cs, h1, h2, h3, h4, h5⟩ => ⟨i, cs, h1, h2, h3, aux h4, h5⟩⟩

/-- A chart without old sets stands on its rules alone. -/
theorem COk.refit {g : Gram} {Q : Nat → Item → Prop} {q : ChP} {F G : Frz} {s : CSt} (h : COk g Q q F s) (hk : s.k = 0) (hr : Arr tRule G q.ra q.rm q.rc g.rules) : COk g Q q G s :=
  ⟨hr, rawAny h.sets, rawAny h.list, h.usl, h.oldl, fun j l hj => by
    have := (List.getElem?_eq_some_iff.1 hj).1
    have := h.oldl
    omega, h.map, itemAny h.last, h.nodup, h.qold, h.qlast, h.small, h.olen, h.ndold⟩

theorem GB.refrz {H F G : Frz} {a : Option Addr} {n c : Nat} {B : List (Nat × Blk)} {xs : List Rule} (h : GB (tRuleH H) F a n c B xs) : GB (tRuleH H) G a n c B xs := by
  have aux : ∀ {cs : List Value} {vs : List Rule}, Cells (tRuleH H) F cs vs → Cells (tRuleH H) G cs vs := by
    intro cs vs h
    induction h with
    | nil => exact .nil
    | cons h _ ih => exact .cons h ih
  exact ⟨h.len, h.at_.imp id fun ⟨i, cs, rest, h1, h2, h3, h4, h5⟩ => ⟨i, cs, rest, h1, h2, h3, aux h4, h5⟩⟩

/-- A new parser, over blocks that are one's own. -/
def NewQ (g : Gram) (v : Value) (B : List (Nat × Blk)) : Prop :=
  ∃ f BF, v = .tuple ⟨[.pointer (some ⟨f.fi, 0, none⟩), .int .i64 0]⟩ ∧ B = zB g f ++ BF ∧ f.w = [] ∧ ∀ G : Frz, (∀ i b, (i, b) ∈ BF → G i = some b) → ZOk g G f

theorem zNewOwn0_spec (F : Frz) (g : Gram) (hg : Valid g) {a : Option Addr} {m c : Nat} (hr : Arr tRule F a m c g.rules) :
    Abs.Spec CC 10 [.agg ⟨gramCells g a m c⟩] F [] fun F' v o => ∃ B', o = [B'] ∧ ∃ L, Fresh F F' L ∧ NewQ g v (B' ++ L) := by
  have hrl := hr.len
  have hgr := hg.range.rules
  have hr4 : ∀ r ∈ g.rules, r.right.length ≤ 1000000 := fun r h => by have := (hg.right r h).2.1; omega
  unfold gramCells
  refine Abs.Spec.fn (n := 28) Tryz.func10 rfl rfl fun own => ?_
  refine AW.seq (AW.reg ?_)
  refine WT.boxT zr zr zr zr zr zr (fun i1 hi1 => ?_)
  refine zA ?_; refine zl hT 0 zr zr zr zr zr zr me zr ?_
  refine WT.callF0 Tryz.func45 zr zr zr zr zr zr (uends_spec _ g hg hr) (fun F1 v hF1 hv => ?_)
  obtain ⟨ea, ec, E, rfl, hE, hEi⟩ := hv
  have hr1 := hr.mono hF1
  refine zA ?_
  refine WT.allocT hT zr zr zr zr zr zr (fun i4 hi4 => ?_)
  refine zs hT 0 0 zr zr zr zr zr zr zr zr zr zr zr zr ?_; refine zA ?_
  refine AW.cond rfl (fun h => (by cases h)) (fun _ => ?_)
  refine zA ?_; refine zl hT 1 zr zr zr zr zr zr me zr ?_
  refine WT.callN Tryz.func46 zr zr zr zr zr zr (gcopyOwn_spec _ g hr1 zo hr4) (fun F2 v B2 hF2 hv => ?_)
  obtain ⟨Bc, bsc, ca, cc, zs2, rfl, rfl, hc, hcR⟩ := hv
  have hr2 := hr1.mono hF2
  have hE2 := hE.mono hF2
  unfold gramCells
  skip
  refine WT.allocT hT zr zr zr zr zr zr (fun i6 hi6 => ?_)
  refine zs hT 0 0 zr zr zr zr zr zr zr zr zr zr zr zr ?_; refine zA ?_; refine zl hT 0 zr zr zr zr zr zr me zr ?_; refine zA ?_
  refine WT.le (own2 := [(i6, .cells false [.int .i64 g.terms, .int .i64 g.nons, .int .i64 g.start, .slice ca m cc])] :: Bc :: bsc :: [(i4, .cells false [.slice ea g.nons ec])] :: [(i1, .cells false [.int .i64 g.terms, .int .i64 g.nons, .int .i64 g.start, .slice a m c])] :: own) (OwnLe.flat (List.Perm.of_eq (by simp))) ?_
  refine WT.freezeAll 3 rfl rfl (fun Fe hFe hBe => ?_)
  have hie := hBe i4 _ (List.mem_cons_self ..)
  refine WT.freezeAllN 2 rfl rfl (fun F3 hF3e hB3 hN3 hD3 => ?_)
  have hF3 := hFe.trans hF3e
  have hie := hF3e _ _ hie
  have hr3 := hr2.mono hF3
  have hE3 := hE2.mono hF3
  have hFr3 : Fresh F F3 bsc := ⟨fun i b hm => (hF1.trans (hF2.trans hFe)).none (hN3 i b hm), hB3, hD3⟩
  obtain ⟨H, hHF, hHb, hHG⟩ := sub_frz hB3
  have hcH : Bld (tRuleH H) F3 ca m cc Bc g.rules := bldH (hc.mono hF3) (hcR.mono hF3) hHb
  refine WT.callF (oin := [Bc]) Tryz.func47 zr zr zr zr zr zr (deleteOwn_spec F3 H hHF hcH zo (fun r => r.right.any fun y => !y.term && !(E.getD y.n false)) (first := []) (capt := [.pointer (some ⟨i4, 0, none⟩)]) Tryz.func48 rfl (fun G hG r hrg b n d hb => feed1_spec G (hG _ _ hie) (hE3.mono hG) r (fun y hy => ?_) hb (by have := hb.len; have := (hg.right r hrg).2.1; omega))) (List.Perm.swap _ _ _) (fun F4 v oout hF4 hv => ?_)
  · have := (hg.right r hrg).2.2 y hy
    unfold SymOk at this
    cases hty : y.term with
    | true => exact .inl rfl
    | false => rw [if_neg (by simp [hty])] at this; rw [hEi.len]; exact .inr this
  obtain ⟨B4, rfl, xa, xn, xc, rfl, hx⟩ := hv
  have hr4' := hr3.mono hF4
  refine zA ?_; refine zs hT 1 0 zr zr zr zr zr zr zr zr zr zr zr zr ?_; refine zA ?_
  refine AW.draw (ps := [(2, 1)]) rfl rfl ?_
  refine zl hT 4 zr zr zr zr zr zr me zr ?_
  refine WT.callN Tryz.func46 zr zr zr zr zr zr (gcopyOwn_spec _ g hr4' zo hr4) (fun F5 v B5 hF5 hv => ?_)
  obtain ⟨Bd, bsd, da, dc, zs5, rfl, rfl, hd, hdR⟩ := hv
  refine WT.freezeAllN 1 rfl rfl (fun F6 hF6 hB6 hN6 hD6 => ?_)
  have hFr6 : Fresh F F6 (bsc ++ B4) := (hFr3.mono (hF4.trans (hF5.trans hF6))).app (fun i b hm => ⟨(hF1.trans (hF2.trans (hF3.trans (hF4.trans hF5)))).none (hN6 i b hm), hB6 i b hm⟩) hD6 fun i b c h1 h2 => by
    have h3 := (hF4.trans hF5) _ _ (hB3 i b h1)
    rw [hN6 i c h2] at h3; cases h3
  have hxG : ∀ G : Frz, (∀ i b, (i, b) ∈ bsc → G i = some b) → (∀ i b, (i, b) ∈ B4 → G i = some b) → Arr tRule G xa xn xc (trimmed E g).rules := fun G h1 h2 => arrH (hHG G h1) ((GB.refrz hx).arr (Frz.le.refl G) h2)
  have hx6 := hxG F6 (fun i b hm => (hF4.trans (hF5.trans hF6)) _ _ (hB3 i b hm)) hB6
  unfold gramCells
  refine zl hT 2 zr zr zr zr zr zr me zr ?_
  refine WT.callN Tryz.func51 zr zr zr zr zr zr (cstartQ_spec F6 (trimmed E g) (trim_right hg E) (trim_len hg E) (QP_inv (trimmed E g) []) (fun i r hr' hl => ⟨⟨r, hr', Nat.zero_le _, Nat.le_refl _⟩, fun _ L hL => hL.start i r hr' hl⟩) hx6) (fun F7 v B7 hF7 hv => ?_)
  obtain ⟨q, s, rfl, rfl, hs, hk, hin, hcl, hq⟩ := hv
  refine zA ?_
  refine WT.boxT zr zr zr zr zr zr (fun fi hfi => ?_)
  refine zA ?_
  refine ⟨zrC, ?_⟩
  skip
  have hfew := hs.few (trim_right hg E) (trim_len hg E) (QP_inv (trimmed E g) [])
  refine AW.le (own2 := zB g ⟨fi, da, m, dc, q, restOf s, none, 0, 0, [], [], E⟩ :: s.BX :: (Bd ++ bsd) :: own) (OwnLe.trans (b := [(fi, .cells false (zCells g ⟨fi, da, m, dc, q, restOf s, none, 0, 0, [], [], E⟩))] :: cB (trimmed E g) q s :: (Bd ++ bsd) :: own) (OwnLe.trans (OwnLe.flat (List.Perm.of_eq (by simp [zB]))) (OwnLe.cons _ (own_rest (g := trimmed E g) (q := q) (s := s) _))) (OwnLe.cons _ (OwnLe.cons _ (OwnLe.cons _ zow)))) ?_
  refine AW.freezeAllN 1 rfl rfl (fun F8 hF8 hB8 hN8 hD8 => ?_)
  have hFr8 : Fresh F F8 (bsc ++ B4 ++ s.BX) := (hFr6.mono (hF7.trans hF8)).app (fun i b hm => ⟨(hF1.trans (hF2.trans (hF3.trans (hF4.trans (hF5.trans (hF6.trans hF7)))))).none (hN8 i b hm), hB8 i b hm⟩) hD8 fun i b c h1 h2 => by
    have h3 := hF7 _ _ (hFr6.2.1 i b h1)
    rw [hN8 i c h2] at h3; cases h3
  refine AW.le (own2 := (zB g ⟨fi, da, m, dc, q, restOf s, none, 0, 0, [], [], E⟩ ++ (Bd ++ bsd)) :: own) (OwnLe.flat (List.Perm.of_eq (by simp))) ?_
  have hls : LZ (restOf s) 0 = s.last := by rw [LZ_rest hs.oldl]; unfold LS; rw [if_pos hk.symm]
  refine AW.ret ⟨_, [_], ⟨_, _, rfl, ⟨_, _, rfl, rfl, rfl⟩, rfl⟩, zsb, _, rfl, _, hFr8, ⟨fi, da, m, dc, q, restOf s, none, 0, 0, [], [], E⟩, (Bd ++ bsd) ++ (bsc ++ B4 ++ s.BX), rfl, by simp [List.append_assoc], rfl, fun G hG => ?_⟩
  have g1 : ∀ i b, (i, b) ∈ bsd → G i = some b := fun i b hm => hG i b (by simp [hm])
  have g2 : ∀ i b, (i, b) ∈ Bd → G i = some b := fun i b hm => hG i b (by simp [hm])
  have g3 : ∀ i b, (i, b) ∈ bsc → G i = some b := fun i b hm => hG i b (by simp [hm])
  have g4 : ∀ i b, (i, b) ∈ B4 → G i = some b := fun i b hm => hG i b (by simp [hm])
  have g5 : ∀ i b, (i, b) ∈ s.BX → G i = some b := fun i b hm => hG i b (by simp [hm])
  have hdG : Arr tRule G da m dc g.rules := (bld_rules (Frz.le.refl G) (bld_c hd) (rights_c hdR) g1).frozen (Frz.le.refl G) g2
  have hsG : COk (trimmed E g) (QP (trimmed E g) []) q G s := hs.refit hk (by rw [hq]; exact hxG G g3 g4)
  refine ⟨hdG, hEi, hsG.rest zo (Frz.le.refl G) g5, hk, ⟨?_, ?_, ?_, ?_⟩, (Bld.nil_ _ _).gb, fun t h => by cases h⟩
  · intro k hk0 x hx
    obtain rfl : k = 0 := Nat.le_zero.1 hk0
    rw [hls] at hx
    have := (hs.qlast x hx).1
    rw [hk] at this; exact this
  · intro i r hr' hl
    rw [hls]; exact hin i r hr' hl
  · intro k hk0 x hx
    obtain rfl : k = 0 := Nat.le_zero.1 hk0
    rw [hls] at hx
    have := hcl x hx
    rw [hk, ← LZ_rest hs.oldl] at this; exact this
  · intro k t h; simp at h

theorem zNewOwn_spec (F : Frz) (g : Gram) (hg : Valid g) {a : Option Addr} {m c : Nat} (hr : Arr tRule F a m c g.rules) :
    Abs.Spec CC 10 [.agg ⟨gramCells g a m c⟩] F [] fun F' v o => ∃ B, o = [B] ∧ NewQ g v B := Spec.thaw2 (zNewOwn0_spec F g hg hr)

/-- made, the grammar's blocks one's own. -/
theorem madeOwn_spec (F : Frz) {a b : Option Addr} {m n c d : Nat} {l w0 : List Int} (hl : Arr tInt F a m c l) (hw : Arr tInt F b n d w0) (hm : n ≤ 9223372036854775807) (most : Nat) (hmost : most ≤ 1000000) :
    Abs.Spec CC 8 [.slice a m c, .slice b n d, .int .i64 most] F [] fun F' v o => ∃ B', o = [B'] ∧ ∃ g a m c b n d w B bs ys, B' = B ++ bs ∧ v = .tuple ⟨[.agg ⟨gramCells g a m c⟩, .slice b n d]⟩ ∧ Small g ∧ Bld tRuleC F' a m c B ys ∧ Rights F' ys bs g.rules ∧ Arr tNat F' b n d w ∧ w.length ≤ most ∧ ∀ t ∈ w, t < g.terms := by
  refine Abs.Spec.fn (n := 17) Tryz.func8 rfl rfl fun own => ?_
  refine AW.seq (AW.reg ?_)
  refine WT.allocT hT zr zr zr zr zr zr (fun i6 hi6 => ?_)
  refine zA ?_
  refine WT.callN (P := fun F' v B' => ∃ g a m c B bs ys, B' = B ++ bs ∧ v = .agg ⟨gramCells g a m c⟩ ∧ Bld tRuleC F' a m c B ys ∧ Rights F' ys bs g.rules ∧ Small g) Tryz.func44 zr zr zr zr zr zr ((grammarOwn_spec _ hl).mono fun F' v o _ ⟨g, a, m, c, B, bs, ys, h1, h2, h3, h4, h5⟩ => ⟨_, h1, g, a, m, c, B, bs, ys, rfl, h2, h3, h4, h5⟩) (fun F1 v B1 hF1 hv => ?_)
  obtain ⟨g, ga, gm, gc, B, bs, ys, rfl, rfl, hb, hR, hg⟩ := hv
  unfold gramCells
  skip
  refine WT.allocT hT zr zr zr zr zr zr (fun i8 hi8 => ?_)
  refine zs hT 0 0 zr zr zr zr zr zr zr zr zr zr zr zr ?_; refine zA ?_
  refine AW.draw (ps := [(0, 5)]) rfl rfl ?_
  refine zl hT 0 zr zr zr zr zr zr me zr ?_; refine zA ?_; refine zl hT 0 zr zr zr zr zr zr me zr ?_; refine zA ?_
  have := hg.terms
  refine WT.callF0 Tryz.func9 zr zr zr zr zr zr (word_spec _ g.terms most zo hmost (hw.mono hF1) hm) (fun F2 v hF2 hv => ?_)
  obtain ⟨wa, wm, wc, w, rfl, hwr, hw1, hw2⟩ := hv
  refine zs hT 2 0 zr zr zr zr zr zr zr zr zr zr zr zr ?_; refine zA ?_
  refine ⟨zrC, ?_⟩
  refine AW.le (own2 := [(i6, .cells false [.int .i64 g.terms, .int .i64 g.nons, .int .i64 g.start, .slice ga gm gc])] :: (B ++ bs) :: own) (OwnLe.trans (b := (B ++ bs) :: [(i6, .cells false [.int .i64 g.terms, .int .i64 g.nons, .int .i64 g.start, .slice ga gm gc])] :: own) (OwnLe.flat ?_) (OwnLe.skip _ (OwnLe.refl _))) ?_
  · have := List.perm_middle (a := (i6, Blk.cells false [.int .i64 g.terms, .int .i64 g.nons, .int .i64 g.start, .slice ga gm gc])) (l₁ := B ++ bs) (l₂ := own.flatten)
    simpa [List.append_assoc] using this
  refine AW.ret ⟨_, [_], ⟨_, _, ⟨_, rfl, fun G h0 s0 => loadA_cells (s0.has (p := 0) rfl (List.mem_cons_self ..)) (readT_ok hT rfl)⟩, ⟨_, _, rfl, rfl, rfl⟩, rfl⟩, zsb, _, rfl, g, ga, gm, gc, wa, wm, wc, w, B, bs, ys, rfl, rfl, hg, hb.mono hF2, hR.mono hF2, hwr, hw1, hw2⟩

structure OwS where
  cs : List Value
  bs : List (Nat × Blk)
  rs : List Rule

structure OnS where
  cur : List Sym
  B : List (Nat × Blk)

structure RdS where
  f : FZ
  a : Option Addr
  c : Nat
  B : List (Nat × Blk)

/-- What is left of a grammar that is written over: where its right sides lie. -/
structure Left (F : Frz) (m : Nat) (xs : List (Nat × Value)) (s : OwS) : Prop where
  len : s.cs.length = m * 2
  at_ : ∀ (i : Nat) (x : Nat × Value), xs[i]? = some x → s.cs[i * 2 + 1]? = some x.2
  rights : Rights F xs s.bs s.rs
  few : ∀ r ∈ s.rs, r.right.length ≤ 1000

theorem perm_apart9 {α : Type} (x : α) (b1 Br b2 l : List α) : (x :: (b1 ++ (Br ++ (b2 ++ l)))).Perm (x :: (Br ++ (b1 ++ (b2 ++ l)))) := by
  refine List.Perm.cons x ?_
  have := (List.perm_append_comm (l₁ := b1) (l₂ := Br)).append_right (b2 ++ l)
  simpa [List.append_assoc] using this

theorem flatR_len : ∀ xs : List (Nat × Value), (flatR xs).length = xs.length * 2
  | [] => rfl
  | x :: xs => by
    have e : flatR (x :: xs) = .int .i64 x.1 :: x.2 :: flatR xs := rfl
    rw [e, List.length_cons, List.length_cons, flatR_len xs, List.length_cons]; omega

theorem feedOwn_law (F : Frz) (hL : Laid F) {a b : Option Addr} {m n c d : Nat} {l w0 : List Int} (hl : Arr tInt F a m c l) (hw0 : Arr tInt F b n d w0) (hm : n ≤ 9223372036854775807) :
    Abs.Spec CC 4 [.slice a m c, .slice b n d] F [] fun _ v o => o = [] ∧ v = .bool true := by
  refine Abs.Spec.fn (n := 137) Tryz.func4 rfl rfl fun own => ?_
  refine zA ?_
  refine WT.callN Tryz.func8 zr zr zr zr zr zr (madeOwn_spec _ hl hw0 hm 7 (by decide)) (fun F1 v B1 hF1 hv => ?_)
  obtain ⟨g, ga, gm, gc, wa, wn, wc, w, B, bs, xs, rfl, rfl, hg, hb, hR, hw, hw1, hw2⟩ := hv
  have hL1 := hL.mono hF1
  have hwlen := hw.len
  have hgt := hg.terms
  have hbl := hb.len
  have hRl := hR.len
  have hgr := hg.rules
  obtain ⟨io, cs0, rfl, hic, rfl, hcells, _⟩ := hb.at_.resolve_left (fun h => by rw [h.1] at hRl; simp at hRl; omega)
  have hic : gc = 2 := hic
  subst hic
  have hcs := cells_flatR hcells
  subst hcs
  have hgG : ∀ G : Frz, (∀ i b, (i, b) ∈ [(io, Blk.cells false (flatR xs))] ++ bs → G i = some b) → Arr tRule G (some ⟨io, 0, none⟩) gm 2 g.rules := fun G hG =>
    (bld_rules (Frz.le.refl G) (bld_c hb) (rights_c hR) fun i b hm => hG i b (List.mem_append_right _ hm)).frozen (Frz.le.refl G) fun i b hm => hG i b (List.mem_append_left _ hm)
  have hrr : ∀ r ∈ g.rules, r.right.length ≤ 1000000 := fun r hr => by have := (hg.ok r hr).2.1; omega
  unfold gramCells
  refine zA ?_
  refine WT.allocT hT zr zr zr zr zr zr (fun i5 hi5 => ?_)
  refine zs hT 0 0 zr zr zr zr zr zr zr zr zr zr zr zr ?_; refine zA ?_; refine zl hT 0 zr zr zr zr zr zr me zr ?_
  refine WT.callLendN (P := fun v Bh => ∃ B' bs' a' c' xs', Bh = B' ++ bs' ∧ v = .agg ⟨gramCells g a' gm c'⟩ ∧ Bld tRuleC F1 a' gm c' B' xs' ∧ Rights F1 xs' bs' g.rules) 1 Tryz.func20 zr zr zr zr zr zr zr (fun G hG hBG => (copyOwn_spec G g (hgG G hBG) zo hrr).mono fun F' v o _ hv => by
    obtain ⟨B', e, B'', bs', a', c', xs', e2, e3, h4, h5⟩ := hv
    exact ⟨B', e, B'', bs', a', c', xs', e2, e3, bld_c h4, rights_c h5⟩) (fun v Bh hv => ?_)
  obtain ⟨Bh, bsh, ha, hc, xsh, rfl, rfl, hhb, hhR⟩ := hv
  unfold gramCells
  skip
  refine WT.allocT hT zr zr zr zr zr zr (fun i6 hi6 => ?_)
  refine WT.freezeAll 1 rfl rfl (fun F2 hF2 hB2 => ?_)
  have hh2 : Arr tRule F2 ha gm hc g.rules := (bld_rules (Frz.le.refl F2) (bld_c hhb) (rights_c hhR) fun i b hm => hB2 i b (List.mem_append_right _ hm)).frozen (Frz.le.refl F2) fun i b hm => hB2 i b (List.mem_append_left _ hm)
  refine zs hT 0 0 zr zr zr zr zr zr zr zr zr zr zr zr ?_; refine zA ?_; refine zl hT 2 zr zr zr zr zr zr me zr ?_
  refine WT.callLendN (P := fun v Bn => NewQ g v Bn) 3 Tryz.func10 zr zr zr zr zr zr zr (fun G hG hBG => zNewOwn_spec G g hg.valid (hgG G hBG)) (fun v Bn hv => ?_)
  obtain ⟨f0, BF, rfl, rfl, hfw0, hz⟩ := hv
  refine WT.le (own2 := zB g f0 :: BF :: [(i6, .cells false [.int .i64 g.terms, .int .i64 g.nons, .int .i64 g.start, .slice ha gm hc])] :: [] :: [(i5, .cells false [.int .i64 g.terms, .int .i64 g.nons, .int .i64 g.start, .slice (some ⟨io, 0, none⟩) gm 2])] :: ([(io, .cells false (flatR xs))] ++ bs) :: own) (OwnLe.flat (List.Perm.of_eq (by simp))) ?_
  refine WT.freezeAll 1 rfl rfl (fun F3 hF3 hB3 => ?_)
  have hf0 := hz F3 hB3
  have hh3 := hh2.mono hF3
  have hL3 := (hL1.mono hF2).mono hF3
  have hw3 := (hw.mono hF2).mono hF3
  refine zA ?_
  refine WT.callV Tryz.func11 zr zr zr zr zr zr (Abs.Spec.fact rfl hL3) (fun v hv => ?_)
  subst hv
  refine zA ?_
  refine WT.ptrEqNil hT zr zr zr zr zr zr zr zr ?_
  refine zA ?_
  refine AW.cond rfl (fun h => (by cases h)) (fun _ => ?_)
  refine zA ?_; refine zl hT 4 zr zr zr zr zr zr me zr ?_; refine zA ?_
  refine AW.range (S := OwS) (fun _ => []) (fun s => zB g f0 :: [] :: [(i6, .cells false [.int .i64 g.terms, .int .i64 g.nons, .int .i64 g.start, .slice ha gm hc])] :: [] :: [(i5, .cells false [.int .i64 g.terms, .int .i64 g.nons, .int .i64 g.start, .slice (some ⟨io, 0, none⟩) gm 2])] :: ([(io, .cells false s.cs)] ++ s.bs) :: own)
    (fun i s G => Left G gm xs s) gm ⟨flatR xs, bs, g.rules⟩
    zr zr zr zr zr zr zr zr zr zo rfl rfl (fun _ => rfl) (fun _ => rfl) (SubK.of_map rfl) (OwnLe.refl _) ⟨by rw [flatR_len, hbl], fun i x hx => (flatR_get hx).2, rights_c hR, fun r hr => by have := (hg.ok r hr).2.1; omega⟩ ?_ ?_
  · intro i s F5 hF5 hi hP
    obtain ⟨cs, sbs, rs⟩ := s
    obtain ⟨hlen, hat, hrg, hfew⟩ := hP
    dsimp only at hlen hat hrg hfew
    have hrsl := hrg.len
    obtain ⟨r, hri⟩ : ∃ r, rs[i]? = some r := ⟨_, List.getElem?_eq_getElem zo⟩
    have hrf := hfew r (List.mem_of_getElem? hri)
    obtain ⟨ra, rn, rc, Br, b1, b2, hx, hbs, hvec, hput⟩ := Rights.split hrg hri
    have hvl := hvec.len
    subst hbs
    have c1 := hat i _ hx
    refine AW.le (own2 := zB g f0 :: [] :: [(i6, .cells false [.int .i64 g.terms, .int .i64 g.nons, .int .i64 g.start, .slice ha gm hc])] :: [] :: [(i5, .cells false [.int .i64 g.terms, .int .i64 g.nons, .int .i64 g.start, .slice (some ⟨io, 0, none⟩) gm 2])] :: [(io, .cells false cs)] :: Br :: (b1 ++ b2) :: own) (OwnLe.cons _ (OwnLe.cons _ (OwnLe.cons _ (OwnLe.cons _ (OwnLe.cons _ (OwnLe.flat ?_)))))) ?_
    · simp only [List.flatten_cons, List.nil_append, List.append_assoc, List.cons_append]
      exact perm_apart9 _ _ _ _ _
    refine zA ?_; refine zl hT 4 zr zr zr zr zr zr me zr ?_; refine zA ?_
    refine WT.idxA (j := i) (s := 2) hT zr zr zr zr zr zr zr zr zr zo ?_
    refine ze hT zr zr zr zr zr ?_
    refine WT.storeAt hT 5 0 zr zr zr zr zr zr zr zr zr zr zo rfl rfl ?_
    have c2 : (cs.set (0 + i * 2 + 0) (.int .i64 (-5)))[0 + i * 2 + 1]? = some (.slice ra rn rc) := by
      rw [List.getElem?_set_ne zo, Nat.zero_add]; exact c1
    have hlen2 : (cs.set (0 + i * 2 + 0) (.int .i64 (-5))).length = gm * 2 := by rw [List.length_set]; exact hlen
    have hat2 : ∀ (i' : Nat) (x : Nat × Value), xs[i']? = some x → (cs.set (0 + i * 2 + 0) (.int .i64 (-5)))[i' * 2 + 1]? = some x.2 := fun i' x hx' => by
      rw [List.getElem?_set_ne zo]; exact hat i' x hx'
    generalize cs.set (0 + i * 2 + 0) (.int .i64 (-5)) = ys at *
    refine zA ?_; refine zl hT 4 zr zr zr zr zr zr me zr ?_; refine zA ?_
    refine WT.idxA (j := i) (s := 2) hT zr zr zr zr zr zr zr zr zr zo ?_
    refine ze hT zr zr zr zr zr ?_
    refine WT.loadAt hT 5 zr zr zr zr zr zr (List.mem_cons_self ..) rfl rfl c2 ?_
    refine zA ?_
    refine AW.range (S := OnS) (fun _ => []) (fun z => zB g f0 :: [] :: [(i6, .cells false [.int .i64 g.terms, .int .i64 g.nons, .int .i64 g.start, .slice ha gm hc])] :: [] :: [(i5, .cells false [.int .i64 g.terms, .int .i64 g.nons, .int .i64 g.start, .slice (some ⟨io, 0, none⟩) gm 2])] :: [(io, .cells false ys)] :: z.B :: (b1 ++ b2) :: own)
      (fun j z G => Vec tSym G ra rn rc z.B z.cur) rn ⟨r.right, Br⟩
      zr zr zr zr zr zr zr zr zr zo rfl rfl (fun _ => rfl) (fun _ => rfl) (SubK.of_map rfl) (OwnLe.refl _) hvec ?_ ?_
    · rintro j ⟨cur, Bc⟩ F6 hF6 hj hz1
      have hz1 : Vec tSym F6 ra rn rc Bc cur := hz1
      have hcl : cur.length = rn := hz1.len.symm
      obtain ⟨y, hyc⟩ : ∃ y, cur[j]? = some y := ⟨_, List.getElem?_eq_getElem zo⟩
      obtain ⟨ir, cs', e1, e2, e3, _⟩ := hz1.at_ hyc
      have e4 := cells_flatS e3
      subst e2 e4 e1
      refine zA ?_; refine zl hT 4 zr zr zr zr zr zr me zr ?_; refine zA ?_
      refine WT.idxA (j := i) (s := 2) hT zr zr zr zr zr zr zr zr zr zo ?_
      refine ze hT zr zr zr zr zr ?_
      refine WT.loadAt hT 5 zr zr zr zr zr zr (List.mem_cons_self ..) rfl rfl c2 ?_
      refine zA ?_
      refine WT.idxA (j := j) (s := 2) hT zr zr zr zr zr zr zr zr zr zo ?_
      refine ze hT zr zr zr zr zr ?_
      refine WT.storeAt hT 6 0 zr zr zr zr zr zr zr zr zr zr (by rw [e3.len, hcl]; show 0 + j * 2 + 1 < rn * 2; omega) rfl rfl ?_
      rw [show (flatS cur).set (0 + j * 2 + 1) (.int .i64 50) = flatS (cur.set j ⟨y.term, 50⟩) by rw [Nat.zero_add]; exact flatS_set 50 hyc]
      refine WT.nil ?_
      exact ⟨⟨cur.set j ⟨y.term, 50⟩, [(ir, .cells false (flatS (cur.set j ⟨y.term, 50⟩)))]⟩, SubK.of_map rfl, OwnLe.refl _, ⟨by rw [List.length_set]; exact hz1.len, hz1.cap, hz1.zero, hz1.nil, hz1.spot, .inr ⟨ir, _, rfl, rfl, flatS_cells _, by decide⟩⟩⟩
    · rintro ⟨cur, Bc⟩ F6 hF6 hz1
      have hz1 : Vec tSym F6 ra rn rc Bc cur := hz1
      have hcl := hz1.len
      have hz5 : Vec tSym F5 ra rn rc Bc cur := ⟨hz1.len, hz1.cap, hz1.zero, hz1.nil, hz1.spot, hz1.el.imp id fun ⟨i, cs, h1, h2, h3, h4⟩ => ⟨i, cs, h1, h2, by rw [cells_flatS h3]; exact flatS_cells _, h4⟩⟩
      have hnew := (hput Bc ⟨r.left, cur⟩ hz5).mono hF6
      have exs : xs.set i (r.left, Value.slice ra rn rc) = xs := by
        obtain ⟨h1, h2⟩ := List.getElem?_eq_some_iff.1 hx
        rw [← h2]; exact List.set_getElem_self h1
      have hnew : Rights F6 xs (b1 ++ (Bc ++ b2)) (rs.set i ⟨r.left, cur⟩) := by rw [← exs]; exact hnew
      skip
      refine ⟨⟨ys, b1 ++ (Bc ++ b2), rs.set i ⟨r.left, cur⟩⟩, SubK.of_map rfl, OwnLe.cons _ (OwnLe.cons _ (OwnLe.cons _ (OwnLe.cons _ (OwnLe.cons _ (OwnLe.flat ?_))))), hlen2, hat2, hnew, fun r' hr' => ?_⟩
      · simp only [List.flatten_cons, List.nil_append, List.append_assoc, List.cons_append]
        exact (perm_apart9 _ _ _ _ _).symm
      · rcases List.mem_or_eq_of_mem_set hr' with h | h
        · exact hfew r' h
        · rw [h]; show cur.length ≤ 1000; omega
  intro s F5 hF5 hP
  clear hP
  refine AW.le (own2 := zB g f0 :: [(i6, .cells false [.int .i64 g.terms, .int .i64 g.nons, .int .i64 g.start, .slice ha gm hc])] :: own) (OwnLe.cons _ (OwnLe.skip _ (OwnLe.cons _ (OwnLe.skip _ (OwnLe.skip _ (OwnLe.skip _ (OwnLe.refl _))))))) ?_
  have hf5 := hf0.mono hF5
  have hw5 := hw3.mono hF5
  have hL5 := hL3.mono hF5
  have hh5 := hh3.mono hF5
  refine zA ?_
  refine AW.range (S := RdS) (fun s => [(11, .slice s.a s.f.w.length s.c)]) (fun s => s.B :: zB g s.f :: [(i6, .cells false [.int .i64 g.terms, .int .i64 g.nons, .int .i64 g.start, .slice ha gm hc])] :: own)
    (fun j s G => ZOk g G s.f ∧ s.f.fi = f0.fi ∧ s.f.w.length ≤ j ∧ Bld tNat G s.a s.f.w.length s.c s.B s.f.w) wn ⟨f0, none, 0, []⟩
    zr zr zr zr zr zr zr zr zr zo rfl rfl (fun _ => rfl) (fun _ => rfl) (SubK.of_map (by dsimp only; rw [hfw0]; rfl)) (OwnLe.flat (List.Perm.refl _)) ⟨hf5, rfl, by rw [hfw0]; exact Nat.le_refl _, by rw [hfw0]; exact Bld.nil_ _ _⟩ ?_ ?_
  · intro j s F6 hF6 hj hP
    obtain ⟨hc6, hfi, hlen, hbd⟩ := hP
    have hw6 := hw5.mono hF6
    have hL6 := hL5.mono hF6
    refine zA ?_
    refine WT.idxL hT hw6 zr zr zr zr zr zr zr zr zr zo (fun y hy b5 off5 ro5 cs5 lx5 hb5 hp5 hrel5 => ?_)
    obtain rfl : lx5 = _ := hrel5
    have hyt := hw2 y (List.mem_of_getElem? hy)
    refine zi (fo := 0) hT (by assumption) (by assumption) zr zr zr zr zr zr ?_; refine zA ?_
    have sa := zPut_spec F6 g hg.valid hc6 zo y hyt
    rw [hfi] at sa
    refine WT.call1F 1 Tryz.func12 zr zr zr zr zr zr zr (fun _ => rfl) sa (fun F7 v B7 hF7 hv => ?_)
    obtain ⟨f', rfl, hf', hfi', _, hva⟩ := hv
    obtain ⟨e, rfl, hput⟩ : ∃ e : Int, v = .int .i64 e ∧ ((e = 0 ∧ f'.w = s.f.w ++ [y]) ∨ (e = 10 ∧ f'.w = s.f.w)) := by
      rcases hva with ⟨_, h1, h2⟩ | ⟨_, h1, h2⟩
      · exact ⟨0, h1, .inl ⟨rfl, h2⟩⟩
      · exact ⟨10, h1, .inr ⟨rfl, h2⟩⟩
    refine zA ?_
    refine AW.jnT (S := RdS) (fun s => [(11, .slice s.a s.f.w.length s.c)]) (fun s => s.B :: zB g s.f :: [(i6, .cells false [.int .i64 g.terms, .int .i64 g.nons, .int .i64 g.start, .slice ha gm hc])] :: own)
      (fun s G => ZOk g G s.f ∧ s.f.fi = f0.fi ∧ s.f.w.length ≤ j + 1 ∧ Bld tNat G s.a s.f.w.length s.c s.B s.f.w) ?_ (fun z F8 hF8 hP => ?_)
    · rcases hput with ⟨rfl, hw'⟩ | ⟨rfl, hw'⟩
      · refine AW.cond rfl (fun _ => ?_) (fun h => (by cases h))
        refine zA ?_
        refine WT.buildT hT zr zr zr zr zr zr zr zr zr zr zr zr zr zr (fun i87 hi87 => ?_)
        refine WT.appendT (ys := [y]) hT 1 (hbd.mono hF7) rfl (fun _ => rfl) zr zr zr zr zr zr zr zr zr zr zr (fun h0 s0 => news_own hT s0 0 zr zr zr zr) (Cells.single (R := tNat) (x := y) rfl) rfl (by decide) zom (fun a3 c3 B3 hB3 => ?_)
        have hl2 : f'.w.length = s.f.w.length + 1 := by rw [hw']; simp
        rw [← hw', ← hl2] at hB3
        rw [← hl2]
        refine zA ?_
        exact ⟨⟨f', a3, c3, B3⟩, SubK.of_map rfl, zow, hf', hfi', by dsimp only; omega, hB3⟩
      · refine AW.cond rfl (fun h => (by cases h)) (fun _ => ?_)
        refine AW.skip ?_
        refine ⟨⟨f', s.a, s.c, s.B⟩, SubK.of_map (by dsimp only; rw [hw']; rfl), zow, hf', hfi', by dsimp only; rw [hw']; omega, by dsimp only; rw [hw']; exact hbd.mono hF7⟩
    obtain ⟨hc8, hfi8, hlen8, hbd8⟩ := hP
    have hL8 := (hL6.mono hF7).mono hF8
    refine zA ?_
    have hwn := hc8.word.len
    refine WT.callLendN (P := fun v B' => ∃ a' c', v = .slice a' z.f.wn c' ∧ Vec tNat F8 a' z.f.wn c' B' z.f.w) 1 Tryz.func15 zr zr zr zr zr zr zr (fun G hG hBG => Spec.mono (hfi8 ▸ zWord_spec G (hc8.mono hG) zo hBG) (fun F' v o _ hv => by
      obtain ⟨B', e, a2, c2, e2, hv⟩ := hv
      exact ⟨B', e, a2, c2, e2, Vec.natAny hv⟩)) (fun v BN hv => ?_)
    obtain ⟨va, vc, rfl, hva⟩ := hv
    refine zA ?_
    refine AW.range (S := Unit) (fun _ => []) (fun _ => z.B :: zB g z.f :: [(i6, .cells false [.int .i64 g.terms, .int .i64 g.nons, .int .i64 g.start, .slice ha gm hc])] :: own)
      (fun q _ G => True) z.f.wn () zr zr zr zr zr zr zr zr zr zo rfl rfl (fun _ => rfl) (fun _ => rfl) (SubK.of_map rfl) zow trivial ?_ ?_
    · intro q _ F9 hF9 hq _
      have hc9 := hc8.mono hF9
      obtain ⟨y9, hy9⟩ : ∃ y, z.f.w[q]? = some y := ⟨_, List.getElem?_eq_getElem zo⟩
      refine zA ?_
      refine WT.callLendN (P := fun v B' => ∃ a' c', v = .slice a' z.f.wn c' ∧ Vec tNat F9 a' z.f.wn c' B' z.f.w) 1 Tryz.func15 zr zr zr zr zr zr zr (fun G hG hBG => Spec.mono (hfi8 ▸ zWord_spec G (hc9.mono hG) zo hBG) (fun F' v o _ hv => by
        obtain ⟨B', e, a2, c2, e2, hv⟩ := hv
        exact ⟨B', e, a2, c2, e2, Vec.natAny hv⟩)) (fun v BM hv => ?_)
      obtain ⟨ua, uc, rfl, hua⟩ := hv
      refine zA ?_
      refine WT.vidx (j := q) hT hua zr zr zr zr zr zr zr zr zr hq (fun b7 hb7 => ?_)
      refine WT.vst (y := 77) hT 0 hua hb7 hy9 zr zr zr zr zr zr zr (fun _ => rfl) rfl (fun B7 hB7 => ?_)
      refine WT.nil ?_
      exact ⟨(), SubK.of_map rfl, zow, trivial⟩
    intro _ F9 hF9 _
    have hc9 := hc8.mono hF9
    have hL9 := hL8.mono hF9
    refine zA ?_
    refine WT.callLendN (P := fun v B' => ∃ a' c' xs, v = .slice a' (g.terms + 1) c' ∧ Vec tBool F9 a' (g.terms + 1) c' B' xs) 1 Tryz.func17 zr zr zr zr zr zr zr (fun G hG hBG => Spec.mono (hfi8 ▸ zNext_spec G (hL9.mono hG) g hg.valid (hc9.mono hG) zo hBG) (fun F' v o _ hv => by
      obtain ⟨B', e, a2, c2, xs, e2, hv, hx⟩ := hv
      exact ⟨B', e, a2, c2, xs, e2, Vec.boolAny hv⟩)) (fun v BP hv => ?_)
    obtain ⟨na, nc, nxs, rfl, hna⟩ := hv
    refine zA ?_
    refine AW.range (S := Unit) (fun _ => []) (fun _ => z.B :: zB g z.f :: [(i6, .cells false [.int .i64 g.terms, .int .i64 g.nons, .int .i64 g.start, .slice ha gm hc])] :: own)
      (fun q _ G => True) (g.terms + 1) () zr zr zr zr zr zr zr zr zr zo rfl rfl (fun _ => rfl) (fun _ => rfl) (SubK.of_map rfl) zow trivial ?_ ?_
    · intro q _ F10 hF10 hq _
      have hc10 := hc9.mono hF10
      have hL10 := hL9.mono hF10
      refine zA ?_
      refine WT.callLendN (P := fun v B' => ∃ a' c' xs, v = .slice a' (g.terms + 1) c' ∧ Vec tBool F10 a' (g.terms + 1) c' B' xs) 1 Tryz.func17 zr zr zr zr zr zr zr (fun G hG hBG => Spec.mono (hfi8 ▸ zNext_spec G (hL10.mono hG) g hg.valid (hc10.mono hG) zo hBG) (fun F' v o _ hv => by
        obtain ⟨B', e, a2, c2, xs, e2, hv, hx⟩ := hv
        exact ⟨B', e, a2, c2, xs, e2, Vec.boolAny hv⟩)) (fun v BQ hv => ?_)
      obtain ⟨ma, mc, mxs, rfl, hma⟩ := hv
      have hml := hma.len
      obtain ⟨y10, hy10⟩ : ∃ y, mxs[q]? = some y := ⟨_, List.getElem?_eq_getElem zo⟩
      refine zA ?_
      refine WT.vidx (j := q) hT hma zr zr zr zr zr zr zr zr zr hq (fun b7 hb7 => ?_)
      refine WT.vst (y := true) hT 0 hma hb7 hy10 zr zr zr zr zr zr zr (fun _ => rfl) rfl (fun B7 hB7 => ?_)
      refine WT.nil ?_
      exact ⟨(), SubK.of_map rfl, zow, trivial⟩
    intro _ F10 hF10 _
    skip
    exact ⟨z, SubK.of_map rfl, zow, hc9.mono hF10, hfi8, hlen8, (hbd8.mono hF9).mono hF10⟩
  intro z F10 hF10 hP
  obtain ⟨hc10, hfi, hlen, hbd⟩ := hP
  have hL10 := hL5.mono hF10
  have hh10 := hh5.mono hF10
  refine AW.freezeAll 0 rfl rfl (fun F11 hF11 hB11 => ?_)
  refine AW.freezeAll 1 rfl rfl (fun F12 hF12 hB12 => ?_)
  have hrd : Arr tNat F12 z.a z.f.w.length z.c z.f.w := (hbd.frozen hF11 hB11).mono hF12
  have hc12 := (hc10.mono hF11).mono hF12
  have hL12 := (hL10.mono hF11).mono hF12
  have hh12 := (hh10.mono hF11).mono hF12
  refine zA ?_
  have fs := zForest_spec F12 hL12 g hg.valid hc12 zo hB12
  rw [hfi] at fs
  refine WT.callF0 Tryz.func18 zr zr zr zr zr zr fs (fun F13 v hF13 hv => ?_)
  obtain ⟨E1, hE1, hm1⟩ := hv
  obtain ⟨p1, p2, p3, p4, p5, rfl⟩ := makeRes_form hm1
  refine zA ?_
  refine WT.allocT hT zr zr zr zr zr zr (fun i16 hi16 => ?_)
  refine zs hT 0 0 zr zr zr zr zr zr zr zr zr zr zr zr ?_; refine zA ?_; refine zl hT 3 zr zr zr zr zr zr me zr ?_; refine zA ?_
  refine WT.callF0 Tryz.func21 zr zr zr zr zr zr (forestOf_spec _ (hL12.mono hF13) g hg.valid (hh12.mono hF13) (hrd.mono hF13) zo hc12.ok) (fun F14 v hF14 hv => ?_)
  obtain ⟨E2, hE2, hm2⟩ := hv
  obtain ⟨q1, q2, q3, q4, q5, rfl⟩ := makeRes_form hm2
  obtain rfl := endsOf_uniq hE1 hE2
  obtain ⟨rfl, rfl, rfl, hfew, Ns, hpk, hN1, hN2⟩ := makeRes_pair hg.valid zo hm1 hm2
  refine zA ?_
  refine WT.allocT hT zr zr zr zr zr zr (fun i18 hi18 => ?_)
  refine zs hT 0 0 zr zr zr zr zr zr zr zr zr zr zr zr ?_; refine zA ?_
  have ws := zWord_spec F14 ((hc12.mono hF13).mono hF14) zo (fun i b hb => hF14 _ _ (hF13 _ _ (hB12 i b hb)))
  rw [hfi] at ws
  refine WT.callN Tryz.func15 zr zr zr zr zr zr ws (fun F15 v B15 hF15 hv => ?_)
  obtain ⟨va, vc, rfl, hva⟩ := hv
  refine WT.freezeAll 0 rfl rfl (fun F16 hF16 hB16 => ?_)
  refine zA ?_
  have a1 := hva.arr hF16 hB16
  have hrd16 := (((hrd.mono hF13).mono hF14).mono hF15).mono hF16
  have hwn := a1.len
  refine WT.callV Tryz.func14 zr zr zr zr zr zr (equal_spec F16 a1 hrd16 zo) (fun v hv => ?_)
  rw [decide_eq_true rfl] at hv
  subst hv
  refine zA ?_
  refine WT.know (v' := .bool true) 132 rfl (by congr 1; simp) ?_
  refine zl hT 2 zr zr zr zr zr zr me zr ?_; refine zl hT 1 zr zr zr zr zr zr me zr ?_
  refine WT.callV Tryz.func19 zr zr zr zr zr zr (same_spec _ hpk hfew (((hN1.mono hF14).mono hF15).mono hF16) ((hN2.mono hF15).mono hF16)) (fun v hv => ?_)
  subst hv
  refine zA ?_
  exact AW.ret ⟨_, [], ⟨_, _, rfl, rfl, rfl⟩, zsb, rfl, rfl⟩
end Go.Proofs.D

