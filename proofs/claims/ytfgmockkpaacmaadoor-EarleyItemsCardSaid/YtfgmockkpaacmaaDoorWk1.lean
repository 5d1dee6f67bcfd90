/-
  Walks: what functions of the program do, over the abstract machine.
-/
import Derived.Test.YtfgmockkpaacmaaDoorWk0
import Derived.Sort.AssemblyPlain
import Derived.Sort.LotD5
import Derived.Sort.LotD4
import Derived.Sort.Walk13a
set_option linter.unusedVariables false
set_option maxRecDepth 20000
set_option maxHeartbeats 0
open Go Go.Abs Go.Proofs Go.Proofs.D
namespace Go.Proofs.D

theorem own_drop (a b : Nat × Blk) (BS BL BX : List (Nat × Blk)) (own : Own) : OwnLe ((a :: (BS ++ BL)) :: BX :: own) ((a :: (BS ++ (BL ++ (b :: BX)))) :: own) := by
  refine ⟨(a :: (BS ++ (BL ++ BX))) ++ own.flatten, ?_, List.Perm.of_eq (by simp)⟩
  simp only [List.flatten_cons]
  refine List.Sublist.append_right (List.Sublist.cons_cons _ (List.Sublist.append_left (List.Sublist.append_left (List.sublist_cons_self _ _) _) _)) _

/-! ### Start -/
theorem cstart_spec (F : Frz) (g : Gram) (hg : ∀ r ∈ g.rules, r.right.length ≤ 4) (hgl : g.rules.length ≤ 32) {Q : Nat → Item → Prop} (hQ : QInv g Q) (hst : ∀ i r, g.rules[i]? = some r → r.left = g.start → Q 0 ⟨i, 0, 0⟩)
    {a : Option Addr} {m c : Nat} (hr : Arr tRule F a m c g.rules) :
    Abs.Spec CC 60 [.agg ⟨gramCells g a m c⟩] F [] fun F' v o =>
      ∃ B', o = [B'] ∧ ∃ q s, v = .pointer (some ⟨q.ic, 0, none⟩) ∧ B' = cB g q s ∧ COk g Q q F' s ∧ s.k = 0 ∧ (∀ i r, g.rules[i]? = some r → r.left = g.start → (⟨i, 0, 0⟩ : Item) ∈ s.last) ∧ ∀ x ∈ s.last, ItemClosed g.rules (LS s) s.k x := by
  unfold gramCells
  refine Abs.Spec.fn (n := 17) Tryd.func60 rfl rfl fun own => ?_
  refine AW.seq (AW.reg ?_)
  refine WT.boxT zr zr zr zr zr zr (fun i1 hi1 => ?_)
  refine ze hT zr zr zr zr zr ?_; refine WT.nil ?_; refine AW.seq ?_; refine AW.reg ?_; refine zl hT 0 zr zr zr zr zr zr me zr ?_; refine ze hT zr zr zr zr zr ?_
  refine WT.boxT zr zr zr zr zr zr (fun ic hic => ?_)
  refine ze hT zr zr zr zr zr ?_; refine WT.nil ?_; refine AW.seq ?_; refine AW.reg ?_; refine ze hT zr zr zr zr zr ?_
  refine WT.call1F 0 Tryd.func107 zr zr zr zr zr zr zr (fun _ => rfl) (cset_spec F (ic := ic) (n := 0) (BS := []) (BL := []) (Bld.nil_ tRaw F) (Bld.nil_ tRaw F) (by decide) ⟨rfl, rfl, rfl, rfl⟩) (fun F1 v B1 hF1 hv => ?_)
  obtain ⟨sa, sc, la, lc, BS, BL, im, hs, hl, rfl⟩ := hv
  have h0 : COk g Q ⟨ic, a, m, c⟩ F1 ⟨0, [], [], sa, sc, BS, [], la, lc, BL, [], im, [], none, 0, 0, []⟩ :=
    ⟨hr.mono hF1, hs, hl, rfl, rfl, fun j l h => by simp at h, fun y => by simp [Abs.look], Bld.nil_ _ _, List.nodup_nil, fun j l h => by simp at h, fun x h => by simp at h, Nat.zero_le _, fun j l h => by simp at h, fun j l h => by simp at h⟩
  refine WT.nil ?_; refine AW.seq ?_; refine AW.reg ?_; (iterate 2 refine ze hT zr zr zr zr zr ?_); refine zl hT 1 zr zr zr zr zr zr me zr ?_
  refine WT.callV Tryd.func87 zr zr zr zr zr zr (gN_spec _ _) (fun v hv => ?_)
  subst hv
  refine WT.call1F 0 Tryd.func108 zr zr zr zr zr zr zr (fun _ => rfl) (cpredict_spec _ g hg hgl hQ h0 ⟨false, g.start⟩ (fun _ i r hr hl => hst i r hr hl)) (fun F2 v B2 hF2 hv => ?_)
  obtain ⟨s1, rfl, h1, hg1, hin⟩ := hv
  refine WT.nil ?_; refine AW.seq ?_; refine AW.reg ?_; refine ze hT zr zr zr zr zr ?_
  refine WT.call1F 0 Tryd.func109 zr zr zr zr zr zr zr (fun _ => rfl) (ccomplete_spec _ g hg hgl hQ h1) (fun F3 v B3 hF3 hv => ?_)
  obtain ⟨s2, rfl, h2, hg2, hcl⟩ := hv
  refine WT.nil ?_; refine AW.seq ?_; refine AW.reg ?_; (iterate 2 refine ze hT zr zr zr zr zr ?_); refine WT.nil ?_
  refine AW.perm (perm_to1 _ _ _) ?_
  exact AW.ret ⟨_, [_], ⟨_, _, rfl, rfl, rfl⟩, (by repeat (first | exact List.Sublist.refl _ | refine List.Sublist.cons _ ?_)), _, rfl, ⟨ic, a, m, c⟩, s2, rfl, rfl, h2, hg2.k.trans hg1.k, fun i r hr hl => hg2.mem (hin i r hr rfl hl), hcl⟩

/-! ### Put -/
theorem cput_spec (F : Frz) (g : Gram) (hg : ∀ r ∈ g.rules, r.right.length ≤ 4) (hgl : g.rules.length ≤ 32) {Q : Nat → Item → Prop} (hQ : QInv g Q) {q : ChP} {s : CSt} (h : COk g Q q F s) (hk : s.k < 20) (t : Nat)
    (hsc : ∀ x, Q s.k x → nextOf g.rules x = some ⟨true, t⟩ → Q (s.k + 1) (stepItem x)) :
    Abs.Spec CC 68 [.pointer (some ⟨q.ic, 0, none⟩), .int .i64 t] F [cB g q s] fun F' v o =>
      ∃ B', o = [B'] ∧ ∃ s', B' = cB g q s' ∧ COk g Q q F' s' ∧ s'.k = s.k + 1 ∧ s'.old = s.old ++ [s.last] ∧ (∀ x ∈ s.last, nextOf g.rules x = some ⟨true, t⟩ → stepItem x ∈ s'.last) ∧ ∀ x ∈ s'.last, ItemClosed g.rules (LS s') s'.k x := by
  have hfew := h.few hg hgl hQ
  have hxl := h.last.len
  have huk := h.uk
  have husl := h.usl
  have holdl := h.oldl
  refine Abs.Spec.fn (n := 55) Tryd.func68 rfl rfl fun own => ?_
  refine AW.seq (AW.draw (ps := []) rfl rfl ?_)
  (iterate 3 refine ze hT zr zr zr zr zr ?_); refine zl hT 0 zr zr zr zr zr zr me zr ?_; (iterate 3 refine ze hT zr zr zr zr zr ?_); refine zl hT 0 zr zr zr zr zr zr me zr ?_; refine ze hT zr zr zr zr zr ?_; refine zb zr zr zr zr zr zr (by omega) ?_
  refine WT.know (v' := .int .i64 (s.k : Nat)) 18 rfl (by congr 1; omega) ?_
  refine WT.vidx hT h.list.vec zr zr zr zr zr zr zr zr zr (by omega) (fun b1 hb1 => ?_)
  refine WT.wld1 (v := .slice s.xa s.xn s.xc) hT 0 h.list.vec hb1 huk zr zr zr zr zr zr subL zr zr zr (fun l h => h.1) ?_
  refine ze hT zr zr zr zr zr ?_; refine WT.nil ?_; refine And.intro trivial ?_; refine AW.seq ?_; refine AW.reg ?_; refine ze hT zr zr zr zr zr ?_
  refine WT.le (own_drop _ _ _ _ _ _) ?_
  refine WT.freezeAll 1 rfl rfl (fun F1 hF1 hB1 => ?_)
  have hold := h.last.frozen hF1 hB1
  have h' := h.mono hF1
  refine WT.call1F 0 Tryd.func107 zr zr zr zr zr zr zr (fun _ => rfl) (cset_spec F1 (ic := q.ic) h'.sets h'.list (by omega) ⟨rfl, rfl, rfl, rfl⟩) (fun F2 v B2 hF2 hv => ?_)
  obtain ⟨sa, sc, la, lc, BS, BL, im, hs2, hl2, rfl⟩ := hv
  have hold2 := hold.mono hF2
  have hpass : ∀ j l, (s.old ++ [s.last])[j]? = some l → s.old[j]? = some l ∨ (j = s.k ∧ l = s.last) := by
    intro j l hj
    rcases Nat.lt_or_ge j s.old.length with h1 | h1
    · rw [List.getElem?_append_left h1] at hj; exact .inl hj
    · rw [List.getElem?_append_right h1] at hj
      have := (List.getElem?_eq_some_iff.1 hj).1
      simp at this
      have e : j - s.old.length = 0 := by omega
      rw [e] at hj
      exact .inr ⟨by omega, by simpa using hj.symm⟩
  have h0 : COk g Q q F2 ⟨s.k + 1, s.old ++ [s.last], [], sa, sc, BS, s.vs ++ [.map (some s.im)], la, lc, BL, s.us ++ [.slice s.xa s.xn s.xc], im, [], none, 0, 0, []⟩ := by
    refine ⟨h'.rules.mono hF2, hs2, hl2, by simp [husl], by simp [holdl], fun j l hj => ?_, fun y => by simp [Abs.look], Bld.nil_ _ _, List.nodup_nil, fun j l hj x hx => ?_, fun x h => by simp at h, by dsimp only; omega, fun j l hj => ?_, fun j l hj => ?_⟩
    · rcases hpass j l hj with h1 | ⟨rfl, rfl⟩
      · obtain ⟨a, n, c, h2, h3⟩ := (h'.mono hF2).olds j l h1
        exact ⟨a, n, c, by show (s.us ++ [_])[j]? = _; rw [List.getElem?_append_left (List.getElem?_eq_some_iff.1 h2).1]; exact h2, h3⟩
      · exact ⟨_, _, _, huk, hold2⟩
    · rcases hpass j l hj with h1 | ⟨rfl, rfl⟩
      · exact h.qold j l h1 x hx
      · exact h.qlast x hx
    · rcases hpass j l hj with h1 | ⟨rfl, rfl⟩
      · exact h.olen j l h1
      · omega
    · rcases hpass j l hj with h1 | ⟨rfl, rfl⟩
      · exact h.ndold j l h1
      · exact h.nodup
  refine WT.nil ?_; (iterate 2 refine AW.seq ?_); refine AW.reg ?_; (iterate 3 refine ze hT zr zr zr zr zr ?_); refine WT.nil ?_
  refine AW.range (S := CSt) (fun _ => []) (fun u => cB g q u :: [] :: own)
    (fun j u G => COk g Q q G u ∧ Grows ⟨s.k + 1, s.old ++ [s.last], [], sa, sc, BS, s.vs ++ [.map (some s.im)], la, lc, BL, s.us ++ [.slice s.xa s.xn s.xc], im, [], none, 0, 0, []⟩ u (fun _ => True) ∧ ∀ y ∈ s.last.take j, nextOf g.rules y = some ⟨true, t⟩ → stepItem y ∈ u.last) s.xn
    ⟨s.k + 1, s.old ++ [s.last], [], sa, sc, BS, s.vs ++ [.map (some s.im)], la, lc, BL, s.us ++ [.slice s.xa s.xn s.xc], im, [], none, 0, 0, []⟩
    zr zr zr zr zr zr zr zr zr (by omega) rfl rfl (fun _ => rfl) (fun _ => rfl) (SubK.of_map rfl) (OwnLe.refl _) ⟨h0, Grows.refl _ _, fun y hy => by simp at hy⟩ ?_ ?_
  · intro j u F4 hF4 hj hP4
    obtain ⟨hu, hgu, hin⟩ := hP4
    have hku : u.k = s.k + 1 := hgu.k
    have hya4 := hold2.mono hF4
    have hfew4 := hu.few hg hgl hQ
    refine AW.seq ?_; refine AW.reg ?_
    refine WT.idxL hT hya4 zr zr zr zr zr zr zr zr zr (by omega) (fun y hyj b7 off7 ro7 cs7 lx7 hb7 hp7 hrel7 => ?_)
    obtain rfl : lx7 = _ := hrel7
    have hQy := h.qlast y (List.mem_of_getElem? hyj)
    have hyok := hQ.ok _ _ hQy
    have next : ∀ w : CSt, Grows u w (fun _ => True) → (nextOf g.rules y = some ⟨true, t⟩ → stepItem y ∈ w.last) → ∀ z ∈ s.last.take (j + 1), nextOf g.rules z = some ⟨true, t⟩ → stepItem z ∈ w.last := by
      intro w hw h1 z hz hn
      rw [List.take_add_one, hyj] at hz
      rcases List.mem_append.1 hz with hz | hz
      · exact hw.mem (hin z hz hn)
      · simp at hz; subst hz; exact h1 hn
    refine zi (fo := 0) hT (by assumption) (by assumption) zr zr zr zr zr zr ?_
    refine WT.allocT hT zr zr zr zr zr zr (fun i9 hi9 => ?_)
    refine zs hT 0 0 zr zr zr zr zr zr zr zr zr zr zr zr ?_; refine WT.nil ?_; refine AW.seq ?_; refine AW.reg ?_; refine ze hT zr zr zr zr zr ?_; refine zl hT 0 zr zr zr zr zr zr me zr ?_
    refine WT.callLend 1 Tryd.func113 zr zr zr zr zr zr zr (fun G hG hBG => cnext_spec G g hg (hBG _ _ (List.mem_cons_self ..)) (hu.rules.mono hG) hyok) (fun v hv => ?_)
    rcases hv with ⟨hno2, _, rfl⟩ | ⟨z, hzn, rfl⟩
    · (iterate 3 refine ze hT zr zr zr zr zr ?_)
      refine WT.allocT hT zr zr zr zr zr zr (fun i10 hi10 => ?_)
      refine zs hT 0 0 zr zr zr zr zr zr zr zr zr zr zr zr ?_; refine ze hT zr zr zr zr zr ?_; refine WT.nil ?_; refine AW.seq ?_
      refine AW.draw (ps := [(2, 4)]) rfl rfl ?_
      (iterate 2 refine ze hT zr zr zr zr zr ?_); (iterate 4 refine zx zr zr zr zr ?_); refine ze hT zr zr zr zr zr ?_; refine WT.nil ?_
      refine ⟨(by repeat (first | exact trivial | refine recs_pair rfl rfl (by first | exact keep0 | exact keep1 (keeps_frz (by assumption)) | exact kp 0 0 me me | exact kp 1 1 me me | exact kp 2 2 me me | exact kp 3 3 me me | exact kp 4 4 me me | exact kp 5 5 me me | exact kp 6 6 me me | exact kp 0 1 me me | exact kp 1 2 me me | exact kp 2 3 me me | exact kp 3 4 me me | exact kp 4 5 me me | exact kp 5 6 me me | exact kp 6 7 me me) ?_)), ?_⟩
      skip
      refine AW.cond rfl (fun h => (by cases h)) (fun _ => ?_)
      refine AW.skip ?_
      exact ⟨u, SubK.of_map rfl, (by repeat (first | exact OwnLe.refl _ | refine OwnLe.skip _ ?_)), hu, hgu, next u (Grows.refl _ _) (fun h => by rw [hno2] at h; cases h)⟩
    · (iterate 3 refine ze hT zr zr zr zr zr ?_)
      refine WT.allocT hT zr zr zr zr zr zr (fun i10 hi10 => ?_)
      refine zs hT 0 0 zr zr zr zr zr zr zr zr zr zr zr zr ?_; refine ze hT zr zr zr zr zr ?_; refine WT.nil ?_; refine AW.seq ?_
      refine AW.draw (ps := [(2, 4)]) rfl rfl ?_
      (iterate 2 refine ze hT zr zr zr zr zr ?_); refine zl hT 0 zr zr zr zr zr zr me zr ?_; refine ze hT zr zr zr zr zr ?_
      refine WT.callV Tryd.func114 zr zr zr zr zr zr (gT_spec _ _) (fun v hv => ?_)
      subst hv
      refine zq hT zr zr zr zr zr zr zr ?_; refine ze hT zr zr zr zr zr ?_; refine WT.nil ?_
      refine ⟨(by repeat (first | exact trivial | refine recs_pair rfl rfl (by first | exact keep0 | exact keep1 (keeps_frz (by assumption)) | exact kp 0 0 me me | exact kp 1 1 me me | exact kp 2 2 me me | exact kp 3 3 me me | exact kp 4 4 me me | exact kp 5 5 me me | exact kp 6 6 me me | exact kp 0 1 me me | exact kp 1 2 me me | exact kp 2 3 me me | exact kp 3 4 me me | exact kp 4 5 me me | exact kp 5 6 me me | exact kp 6 7 me me) ?_)), ?_⟩
      skip
      refine AW.cond rfl (fun hc => ?_) (fun hc => ?_)
      · have hz : z = (⟨true, t⟩ : Sym) := by
          have h1 := sym_eq z ⟨true, t⟩
          rw [show ((z.term == true) && (((z.n : Int) == (t : Int)) && true)) = true from hc] at h1
          exact of_decide_eq_true h1.symm
        have hyd : y.dot ≤ 4 := by
          obtain ⟨ry, hy1, hy2, _⟩ := hyok
          have := hg ry (List.mem_of_getElem? hy1)
          omega
        refine AW.reg ?_; (iterate 2 refine ze hT zr zr zr zr zr ?_); refine zl hT 1 zr zr zr zr zr zr me zr ?_; refine ze hT zr zr zr zr zr ?_; refine zl hT 1 zr zr zr zr zr zr me zr ?_; refine za zr zr zr zr zr zr (by omega) ?_; refine ze hT zr zr zr zr zr ?_; refine zl hT 1 zr zr zr zr zr zr me zr ?_; refine ze hT zr zr zr zr zr ?_
        refine WT.know (v' := .agg ⟨[.int .i64 (y.rule : Nat), .int .i64 ((y.dot + 1 : Nat) : Int), .int .i64 (y.frm : Nat)]⟩) 50 rfl (by simp) ?_
        refine WT.call1F 2 Tryd.func115 zr zr zr zr zr zr zr (fun _ => rfl) (cadd_spec _ g hu (by omega) (stepItem y) (by rw [hku]; exact hsc y hQy (by rw [hzn, hz]))) (fun F5 v B5 hF5 hv => ?_)
        obtain ⟨w, rfl, hw, hgw, hmem⟩ := hv
        refine WT.nil ?_
        have hgw' := hgw.mono (P' := fun _ => True) (fun _ _ => trivial)
        exact ⟨w, SubK.of_map rfl, (by repeat (first | exact OwnLe.refl _ | refine OwnLe.skip _ ?_)), hw, hgu.trans hgw', next w hgw' (fun _ => hmem)⟩
      · have hz : z ≠ (⟨true, t⟩ : Sym) := by
          have h1 := sym_eq z ⟨true, t⟩
          rw [show ((z.term == true) && (((z.n : Int) == (t : Int)) && true)) = false from hc] at h1
          exact of_decide_eq_false h1.symm
        refine AW.skip ?_
        exact ⟨u, SubK.of_map rfl, (by repeat (first | exact OwnLe.refl _ | refine OwnLe.skip _ ?_)), hu, hgu, next u (Grows.refl _ _) (fun h => by rw [hzn] at h; exact absurd (Option.some.inj h) hz)⟩
  · intro u F4 hF4 hP4
    obtain ⟨hu, hgu, hin⟩ := hP4
    rw [List.take_of_length_le (by omega)] at hin
    refine AW.reg ?_; refine ze hT zr zr zr zr zr ?_
    refine WT.call1F 0 Tryd.func109 zr zr zr zr zr zr zr (fun _ => rfl) (ccomplete_spec _ g hg hgl hQ hu) (fun F5 v B5 hF5 hv => ?_)
    obtain ⟨w, rfl, hw, hgw, hcl⟩ := hv
    refine WT.le (own2 := cB g q w :: own) (OwnLe.flat (List.Perm.of_eq (by simp))) ?_
    refine WT.nil ?_
    exact ⟨_, [_], rfl, (by repeat (first | exact List.Sublist.refl _ | refine List.Sublist.cons _ ?_)), _, rfl, w, rfl, hw, hgw.k.trans hgu.k, hgw.old.trans hgu.old, fun x hx hn => hgw.mem (hin x hx hn), hcl⟩
end Go.Proofs.D

set_option linter.unusedVariables false
set_option maxRecDepth 20000
set_option maxHeartbeats 0
open Go Go.Abs Go.Proofs Go.Proofs.D
namespace Go.Proofs.D

theorem vec_repB {F : Frz} {i n : Nat} (z : Bool) : Vec tBool F (some ⟨i, 0, none⟩) n (bif n == 0 then 0 else 1) [(i, .cells false (List.replicate n (.bool z)))] (List.replicate n z) := by
  refine ⟨by simp, ?_, fun h => ?_, fun h => (by cases h), fun p hp => (by cases hp; rfl), .inr ⟨i, _, rfl, rfl, ?_, by decide⟩⟩
  · cases n <;> simp [tBool]
  · cases n with
    | zero => rfl
    | succ n => simp at h
  · induction n with
    | zero => exact .nil
    | succ n ih =>
      rw [List.replicate_succ, List.replicate_succ]
      exact Cells.cons (R := tBool) (l := [.bool z]) rfl ih

structure NB where
  xs : List Bool
  B : List (Nat × Blk)

theorem cnextT_spec (G : Frz) (g : Gram) (hg : ∀ r ∈ g.rules, r.right.length ≤ 4) (hgl : g.rules.length ≤ 32) (hgt : g.terms ≤ 1000) (hsym : ∀ r ∈ g.rules, ∀ y ∈ r.right, SymOk g.terms g.nons y) {Q : Nat → Item → Prop} (hQ : QInv g Q) {q : ChP} {s : CSt} (h : COk g Q q G s) (hB : ∀ i b, (i, b) ∈ cB g q s → G i = some b) :
    Abs.Spec CC 67 [.pointer (some ⟨q.ic, 0, none⟩)] G [] fun F' v o =>
      ∃ B', o = [B'] ∧ ∃ a' c' xs, v = .slice a' g.terms c' ∧ Vec tBool F' a' g.terms c' B' xs ∧ ∀ t, t < g.terms → (xs[t]? = some true ↔ ∃ x ∈ s.last, nextOf g.rules x = some ⟨true, t⟩) := by
  have hfew := h.few hg hgl hQ
  have hxl := h.last.len
  have huk := h.uk
  have hsm := h.small
  have hic : G q.ic = some (.cells false [.int .i64 g.terms, .int .i64 g.nons, .int .i64 g.start, .slice q.ra q.rm q.rc, .slice s.sa (s.k + 1) s.sc, .slice s.la (s.k + 1) s.lc]) := hB _ _ (List.mem_cons_self ..)
  have hla := h.list.frozen (Frz.le.refl G) (fun i b hb => hB i b (subL _ hb))
  have hxa := h.last.frozen (Frz.le.refl G) (fun i b hb => hB i b (subX _ hb))
  refine Abs.Spec.fn (n := 48) Tryd.func67 rfl rfl fun own => ?_
  refine AW.seq ?_; refine AW.reg ?_; refine ze hT zr zr zr zr zr ?_; refine WT.nil ?_; refine AW.seq ?_; refine AW.reg ?_; (iterate 4 refine ze hT zr zr zr zr zr ?_); refine zf hT (by assumption) zr zr zr zr zr zr ?_
  refine WT.makeT (by_ := 1) hT zr zr zr zr zr zr zr zr zr zr zr zr (by omega) (fun io hio => ?_)
  have hv0 := vec_repB (F := G) (i := io) (n := g.terms) false
  refine ze hT zr zr zr zr zr ?_; refine WT.nil ?_; (iterate 2 refine AW.seq ?_); refine AW.draw (ps := []) zr zr ?_; (iterate 3 refine ze hT zr zr zr zr zr ?_); refine zf hT (by assumption) zr zr zr zr zr zr ?_; (iterate 3 refine ze hT zr zr zr zr zr ?_); refine zf hT (by assumption) zr zr zr zr zr zr ?_; refine ze hT zr zr zr zr zr ?_; refine zb zr zr zr zr zr zr (by omega) ?_
  refine WT.know (v' := .int .i64 (s.k : Nat)) 23 rfl (by congr 1; omega) ?_
  refine WT.idxL hT hla zr zr zr zr zr zr zr zr zr (by have := h.usl; simp; omega) (fun v hv b off ro cs lx hb1 hp1 hrel => ?_)
  obtain rfl : v = .slice s.xa s.xn s.xc := by rw [huk] at hv; exact (Option.some.inj hv).symm
  obtain ⟨rfl, _⟩ := hrel
  refine zi (fo := 0) hT (by assumption) (by assumption) zr zr zr zr zr zr ?_; (iterate 2 refine ze hT zr zr zr zr zr ?_); refine WT.nil ?_; refine And.intro trivial ?_
  refine AW.range (S := NB) (fun _ => []) (fun u => u.B :: own)
    (fun j u F => Vec tBool F (some ⟨io, 0, none⟩) g.terms (bif g.terms == 0 then 0 else 1) u.B u.xs ∧ ∀ t, t < g.terms → (u.xs[t]? = some true ↔ ∃ x ∈ s.last.take j, nextOf g.rules x = some ⟨true, t⟩)) s.xn ⟨_, _⟩
    zr zr zr zr zr zr zr zr zr (by omega) rfl rfl (fun _ => rfl) (fun _ => rfl) (SubK.of_map rfl) (OwnLe.refl _) ⟨hv0, fun t ht => ?_⟩ ?_ ?_
  · simp [List.getElem?_replicate]
  · intro j u F1 hF1 hj hP
    obtain ⟨hv, hin⟩ := hP
    have hxa1 := hxa.mono hF1
    have hrules := h.rules.mono hF1
    have hic1 := hF1 _ _ hic
    refine AW.seq ?_; refine AW.reg ?_
    refine WT.idxL hT hxa1 zr zr zr zr zr zr zr zr zr (by omega) (fun y hyj b7 off7 ro7 cs7 lx7 hb7 hp7 hrel7 => ?_)
    obtain rfl : lx7 = _ := hrel7
    have hyok := hQ.ok _ _ (h.qlast y (List.mem_of_getElem? hyj))
    have htk : s.last.take (j + 1) = s.last.take j ++ [y] := by rw [List.take_add_one, hyj]; rfl
    refine zi (fo := 0) hT (by assumption) (by assumption) zr zr zr zr zr zr ?_
    refine WT.allocT hT zr zr zr zr zr zr (fun i5 hi5 => ?_)
    refine zs hT 0 0 zr zr zr zr zr zr zr zr zr zr zr zr ?_; refine WT.nil ?_; refine AW.seq ?_; refine AW.reg ?_; refine ze hT zr zr zr zr zr ?_; refine zl hT 0 zr zr zr zr zr zr me zr ?_
    refine WT.callV Tryd.func113 zr zr zr zr zr zr (cnext_spec F1 g hg hic1 hrules hyok) (fun v hv' => ?_)
    rcases hv' with ⟨hno2, _, rfl⟩ | ⟨z, hzn, rfl⟩
    · (iterate 3 refine ze hT zr zr zr zr zr ?_)
      refine WT.allocT hT zr zr zr zr zr zr (fun i6 hi6 => ?_)
      refine zs hT 0 0 zr zr zr zr zr zr zr zr zr zr zr zr ?_; refine ze hT zr zr zr zr zr ?_; refine WT.nil ?_; refine AW.seq ?_; refine AW.reg ?_; (iterate 2 refine ze hT zr zr zr zr zr ?_); (iterate 2 refine zx zr zr zr zr ?_); refine ze hT zr zr zr zr zr ?_; refine WT.nil ?_
      refine AW.cond rfl (fun h => (by cases h)) (fun _ => ?_)
      refine AW.skip ?_
      refine ⟨u, SubK.of_map rfl, (by repeat (first | exact OwnLe.refl _ | refine OwnLe.skip _ ?_)), hv, fun t ht => ?_⟩
      rw [hin t ht, htk]
      simp [hno2]
    · have hzt : z.term = true → z.n < g.terms := fun hzt => by
        unfold nextOf at hzn
        cases hr : g.rules[y.rule]? with
        | none => rw [hr] at hzn; cases hzn
        | some r =>
          rw [hr] at hzn
          have := hsym r (List.mem_of_getElem? hr) z (List.mem_of_getElem? (show r.right[y.dot]? = some z from hzn))
          rw [SymOk, if_pos hzt] at this
          exact this
      (iterate 3 refine ze hT zr zr zr zr zr ?_)
      refine WT.allocT hT zr zr zr zr zr zr (fun i6 hi6 => ?_)
      refine zs hT 0 0 zr zr zr zr zr zr zr zr zr zr zr zr ?_; refine ze hT zr zr zr zr zr ?_; refine WT.nil ?_; refine AW.seq ?_; refine AW.reg ?_; (iterate 3 refine ze hT zr zr zr zr zr ?_); refine zl hT 0 zr zr zr zr zr zr me zr ?_; refine ze hT zr zr zr zr zr ?_; refine WT.nil ?_
      refine AW.cond rfl (fun hc => ?_) (fun hc => ?_)
      · have hc : z.term = true := hc
        have hzn' : nextOf g.rules y = some ⟨true, z.n⟩ := by rw [hzn]; cases z; simp only at hc; rw [hc]
        have hlt := hzt hc
        have hvl := hv.len
        obtain ⟨w, hw⟩ : ∃ w, u.xs[z.n]? = some w := ⟨_, List.getElem?_eq_getElem (by omega)⟩
        refine AW.reg ?_; (iterate 2 refine ze hT zr zr zr zr zr ?_); refine zl hT 0 zr zr zr zr zr zr me zr ?_
        refine WT.vidx hT hv zr zr zr zr zr zr zr zr zr hlt (fun b5 hb5 => ?_)
        refine WT.vst (y := true) hT 2 hv hb5 hw zr zr zr zr zr zr zr (fun _ => rfl) rfl (fun B6 hB6 => ?_)
        refine WT.nil ?_
        refine ⟨⟨u.xs.set z.n true, B6⟩, SubK.of_map rfl, (by repeat (first | exact OwnLe.refl _ | refine OwnLe.skip _ ?_)), hB6, fun t ht => ?_⟩
        show (u.xs.set z.n true)[t]? = some true ↔ _
        rw [htk]
        by_cases e : t = z.n
        · subst e
          rw [List.getElem?_set_self (by omega)]
          simp only [true_iff]
          exact ⟨y, by simp, hzn'⟩
        · rw [List.getElem?_set_ne (fun h => e h.symm), hin t ht]
          constructor
          · rintro ⟨x, hx, hn⟩; exact ⟨x, List.mem_append_left _ hx, hn⟩
          · rintro ⟨x, hx, hn⟩
            rcases List.mem_append.1 hx with hx | hx
            · exact ⟨x, hx, hn⟩
            · simp at hx; subst hx
              rw [hzn'] at hn
              injection hn with hn; injection hn with _ hn
              exact absurd hn.symm e
      · have hc : z.term = false := hc
        refine AW.skip ?_
        refine ⟨u, SubK.of_map rfl, (by repeat (first | exact OwnLe.refl _ | refine OwnLe.skip _ ?_)), hv, fun t ht => ?_⟩
        rw [hin t ht, htk]
        constructor
        · rintro ⟨x, hx, hn⟩; exact ⟨x, List.mem_append_left _ hx, hn⟩
        · rintro ⟨x, hx, hn⟩
          rcases List.mem_append.1 hx with hx | hx
          · exact ⟨x, hx, hn⟩
          · simp at hx; subst hx
            rw [hzn] at hn
            injection hn with hn
            rw [hn] at hc; cases hc
  · intro u F1 hF1 hP
    obtain ⟨hv, hin⟩ := hP
    rw [List.take_of_length_le (by omega)] at hin
    refine AW.seq ?_; refine AW.reg ?_; (iterate 2 refine ze hT zr zr zr zr zr ?_); refine WT.nil ?_
    exact AW.ret ⟨_, [_], ⟨_, _, rfl, rfl, rfl⟩, (by repeat (first | exact List.Sublist.refl _ | refine List.Sublist.cons _ ?_)), _, rfl, _, _, u.xs, rfl, hv, hin⟩
end Go.Proofs.D

set_option linter.unusedVariables false
set_option maxRecDepth 20000
set_option maxHeartbeats 0
open Go Go.Abs Go.Proofs Go.Proofs.D
namespace Go.Proofs.D

/-! ### feed.New -/
theorem feed11_spec (F : Frz) {ie : Nat} {ro : Bool} {ea : Option Addr} {en ec : Nat} {E : List Bool} (hi : F ie = some (.cells ro [.slice ea en ec])) (hE : Arr tBool F ea en ec E) (y : Sym) (hy : y.term = true ∨ y.n < E.length) :
    Abs.Spec CC 59 [.agg ⟨[.bool y.term, .int .i64 y.n]⟩, .pointer (some ⟨ie, 0, none⟩)] F [] fun _ v o => o = [] ∧ v = .bool (!y.term && !(E.getD y.n false)) := by
  have hEl := hE.len
  refine Abs.Spec.fn (n := 15) Tryd.func59 rfl rfl fun own => ?_
  refine AW.seq (AW.reg ?_)
  refine WT.boxT zr zr zr zr zr zr (fun i2 hi2 => ?_)
  refine ze hT zr zr zr zr zr ?_; refine WT.nil ?_; refine AW.seq ?_; refine AW.reg ?_; refine ze hT zr zr zr zr zr ?_; refine zl hT 0 zr zr zr zr zr zr me zr ?_; (iterate 2 refine ze hT zr zr zr zr zr ?_)
  refine WT.split 7 rfl (fun hty => ?_) (fun hty => ?_)
  · have hty : y.term = false := by simpa using hty
    have hyn : y.n < E.length := by rcases hy with h | h; rw [hty] at h; cases h; exact h
    refine zf hT (by assumption) zr zr zr zr zr zr ?_; refine ze hT zr zr zr zr zr ?_; refine zl hT 0 zr zr zr zr zr zr me zr ?_
    refine WT.idxL hT hE zr zr zr zr zr zr zr zr zr hyn (fun z hz b3 off3 ro3 cs3 lx3 hb3 hp3 hrel3 => ?_)
    obtain rfl : lx3 = _ := hrel3
    refine zi (fo := 0) hT (by assumption) (by assumption) zr zr zr zr zr zr ?_; (iterate 3 refine ze hT zr zr zr zr zr ?_); refine WT.nil ?_
    refine AW.ret ⟨_, [], ⟨_, _, rfl, rfl, rfl⟩, (by repeat (first | exact List.Sublist.refl _ | refine List.Sublist.cons _ ?_)), rfl, ?_⟩
    rw [hty, List.getD_eq_getElem?_getD, hz]; rfl
  · have hty : y.term = true := by simpa using hty
    (iterate 6 refine zx zr zr zr zr ?_); (iterate 2 refine ze hT zr zr zr zr zr ?_); refine WT.nil ?_
    refine AW.ret ⟨_, [], ⟨_, _, rfl, rfl, rfl⟩, (by repeat (first | exact List.Sublist.refl _ | refine List.Sublist.cons _ ?_)), rfl, ?_⟩
    rw [hty]; rfl

theorem feed1_spec (F : Frz) {ie : Nat} {ro : Bool} {ea : Option Addr} {en ec : Nat} {E : List Bool} (hi : F ie = some (.cells ro [.slice ea en ec])) (hE : Arr tBool F ea en ec E) (r : Rule) (hr : ∀ y ∈ r.right, y.term = true ∨ y.n < E.length) {b : Option Addr} {n d : Nat} (hb : Arr tSym F b n d r.right) (hn : n ≤ 1000000) :
    Abs.Spec CC 57 [.agg ⟨[.int .i64 r.left, .slice b n d]⟩, .pointer (some ⟨ie, 0, none⟩)] F [] fun _ v o => o = [] ∧ v = .bool (r.right.any fun y => !y.term && !(E.getD y.n false)) := by
  refine Abs.Spec.fn (n := 8) Tryd.func57 rfl rfl fun own => ?_
  refine AW.seq (AW.reg ?_)
  refine WT.boxT zr zr zr zr zr zr (fun i2 hi2 => ?_)
  refine ze hT zr zr zr zr zr ?_; refine WT.nil ?_; refine AW.seq ?_; refine AW.reg ?_; refine ze hT zr zr zr zr zr ?_; refine zl hT 0 zr zr zr zr zr zr me zr ?_; refine ze hT zr zr zr zr zr ?_
  refine WT.callV Tryd.func58 zr zr zr zr zr zr (symAny_spec _ hb hn (fun y => !y.term && !(E.getD y.n false)) (first := []) (capt := [.pointer (some ⟨ie, 0, none⟩)]) Tryd.func59 rfl (fun y hy => feed11_spec _ hi hE y (hr y hy))) (fun v hv => ?_)
  subst hv
  refine ze hT zr zr zr zr zr ?_; refine WT.nil ?_
  exact AW.ret ⟨_, [], ⟨_, _, rfl, rfl, rfl⟩, (by repeat (first | exact List.Sublist.refl _ | refine List.Sublist.cons _ ?_)), rfl, rfl⟩

def QI (g : Gram) : Nat → Item → Prop := fun k x => ItemOk g.rules k x

theorem nextOf_some {rs : List Rule} {x : Item} {y : Sym} (h : nextOf rs x = some y) : ∃ r, rs[x.rule]? = some r ∧ r.right[x.dot]? = some y := by
  unfold nextOf at h
  cases hr : rs[x.rule]? with
  | none => rw [hr] at h; cases h
  | some r => rw [hr] at h; exact ⟨r, rfl, h⟩

theorem QI_inv (g : Gram) : QInv g (QI g) where
  ok := fun _ _ h => h
  predict := fun k x n i r _ _ hr _ => ⟨r, hr, Nat.zero_le _, Nat.le_refl _⟩
  complete := fun k x y r hx hr hd hy hn => by
    obtain ⟨ry, h1, h2, h3⟩ := hy
    obtain ⟨r', h4, h5⟩ := nextOf_some hn
    rw [h1] at h4
    obtain rfl := Option.some.inj h4
    obtain ⟨_, _, _, h6⟩ := hx
    have := (List.getElem?_eq_some_iff.1 h5).1
    exact ⟨ry, h1, by show y.dot + 1 ≤ _; omega, by show y.frm ≤ k; omega⟩

theorem QI_scan (g : Gram) (k t : Nat) : ∀ x, QI g k x → nextOf g.rules x = some ⟨true, t⟩ → QI g (k + 1) (stepItem x) := fun x hx hn => by
  obtain ⟨rx, h1, h2, h3⟩ := hx
  obtain ⟨r', h4, h5⟩ := nextOf_some hn
  rw [h1] at h4
  obtain rfl := Option.some.inj h4
  have := (List.getElem?_eq_some_iff.1 h5).1
  exact ⟨rx, h1, by show x.dot + 1 ≤ _; omega, by show x.frm ≤ k + 1; omega⟩

structure FSt where
  fi : Nat
  ga : Option Addr
  gm : Nat
  gc : Nat
  q : ChP
  s : CSt
  wa : Option Addr
  wn : Nat
  wc : Nat
  BW : List (Nat × Blk)
  w : List Nat
  E : List Bool

def fCells (g : Gram) (f : FSt) : List Value := [.int .i64 g.terms, .int .i64 g.nons, .int .i64 g.start, .slice f.ga f.gm f.gc, .pointer (some ⟨f.q.ic, 0, none⟩), .slice f.wa f.wn f.wc]
noncomputable def fB (g : Gram) (f : FSt) : List (Nat × Blk) := (f.fi, .cells false (fCells g f)) :: (f.BW ++ cB (trimmed f.E g) f.q f.s)

structure FOk (g : Gram) (F : Frz) (f : FSt) : Prop where
  rules : Arr tRule F f.ga f.gm f.gc g.rules
  ends : EndsIn g f.E
  chart : COk (trimmed f.E g) (QI (trimmed f.E g)) f.q F f.s
  k : f.s.k = f.w.length
  sets : Sets (trimmed f.E g) f.w (LS f.s)
  word : Bld tNat F f.wa f.wn f.wc f.BW f.w
  ok : ∀ t ∈ f.w, t < g.terms

theorem FOk.mono {g : Gram} {F G : Frz} {f : FSt} (h : FOk g F f) (hF : Frz.le F G) : FOk g G f := ⟨h.rules.mono hF, h.ends, h.chart.mono hF, h.k, h.sets, h.word.mono hF, h.ok⟩

theorem trim_right {g : Gram} (hg : Valid g) (E : List Bool) : ∀ r ∈ (trimmed E g).rules, r.right.length ≤ 4 := fun r hr => (hg.right r (List.mem_filter.1 hr).1).2.1
theorem trim_len {g : Gram} (hg : Valid g) (E : List Bool) : (trimmed E g).rules.length ≤ 32 := Nat.le_trans (List.length_filter_le _ _) hg.range.rules
theorem trim_sym {g : Gram} (hg : Valid g) (E : List Bool) : ∀ r ∈ (trimmed E g).rules, ∀ y ∈ r.right, SymOk (trimmed E g).terms (trimmed E g).nons y := fun r hr => (hg.right r (List.mem_filter.1 hr).1).2.2

theorem own_merge {A B : List (Nat × Blk)} {rest own : Own} (h : OwnLe own rest) : OwnLe ((A ++ B) :: own) (A :: B :: rest) :=
  (OwnLe.cons (A ++ B) h).trans (OwnLe.flat (List.Perm.of_eq (by simp)))

theorem feedNew_spec (F : Frz) (g : Gram) (hg : Valid g) {a : Option Addr} {m c : Nat} (hr : Arr tRule F a m c g.rules) :
    Abs.Spec CC 14 [.agg ⟨gramCells g a m c⟩] F [] fun F' v o => ∃ B', o = [B'] ∧ ∃ f, v = .tuple ⟨[.pointer (some ⟨f.fi, 0, none⟩), .int .i64 0]⟩ ∧ B' = fB g f ∧ FOk g F' f ∧ f.w = [] := by
  have hrl := hr.len
  have hgr := hg.range.rules
  have hr4 : ∀ r ∈ g.rules, r.right.length ≤ 1000000 := fun r h => by have := (hg.right r h).2.1; omega
  unfold gramCells
  refine Abs.Spec.fn (n := 28) Tryd.func14 rfl rfl fun own => ?_
  refine AW.seq (AW.reg ?_)
  refine WT.boxT zr zr zr zr zr zr (fun i1 hi1 => ?_)
  (iterate 2 refine ze hT zr zr zr zr zr ?_); refine WT.nil ?_; refine AW.seq ?_; refine AW.reg ?_; refine zl hT 0 zr zr zr zr zr zr me zr ?_
  refine WT.callF0 Tryd.func54 zr zr zr zr zr zr (uends_spec _ g hg hr) (fun F1 v hF1 hv => ?_)
  obtain ⟨ea, ec, E, rfl, hE, hEi⟩ := hv
  have hr1 := hr.mono hF1
  (iterate 3 refine ze hT zr zr zr zr zr ?_)
  refine WT.allocT hT zr zr zr zr zr zr (fun i4 hi4 => ?_)
  refine zs hT 0 0 zr zr zr zr zr zr zr zr zr zr zr zr ?_; refine ze hT zr zr zr zr zr ?_; refine WT.nil ?_; (iterate 2 refine AW.seq ?_); refine AW.reg ?_; (iterate 2 refine ze hT zr zr zr zr zr ?_); refine WT.nil ?_
  refine AW.cond rfl (fun h => (by cases h)) (fun _ => ?_)
  refine AW.skip ?_; refine AW.seq ?_; refine AW.reg ?_; refine zl hT 1 zr zr zr zr zr zr me zr ?_
  refine WT.callN Tryd.func55 zr zr zr zr zr zr (copy_spec _ g hr1 (by omega) hr4) (fun F2 v B2 hF2 hv => ?_)
  obtain ⟨ca, cc, rfl, hc⟩ := hv
  have hr2 := hr1.mono hF2
  have hE2 := hE.mono hF2
  unfold gramCells
  skip
  refine WT.allocT hT zr zr zr zr zr zr (fun i6 hi6 => ?_)
  refine zs hT 0 0 zr zr zr zr zr zr zr zr zr zr zr zr ?_; refine WT.nil ?_; refine AW.seq ?_; refine AW.reg ?_; refine ze hT zr zr zr zr zr ?_; refine zl hT 0 zr zr zr zr zr zr me zr ?_; refine ze hT zr zr zr zr zr ?_
  refine WT.freezeAll 2 rfl rfl (fun F3 hF3 hB3 => ?_)
  have hie := hB3 i4 _ (List.mem_cons_self ..)
  have hr3 := hr2.mono hF3
  have hE3 := hE2.mono hF3
  refine WT.callF (oin := [B2]) Tryd.func56 zr zr zr zr zr zr (deleteFunc_spec F3 (hc.mono hF3) (by omega) (fun r => r.right.any fun y => !y.term && !(E.getD y.n false)) (first := []) (capt := [.pointer (some ⟨i4, 0, none⟩)]) Tryd.func57 rfl (fun G hG r hrg b n d hb => feed1_spec G (hG _ _ hie) (hE3.mono hG) r (fun y hy => ?_) hb (by have := hb.len; have := (hg.right r hrg).2.1; omega))) (List.Perm.swap _ _ _) (fun F4 v oout hF4 hv => ?_)
  · have := (hg.right r hrg).2.2 y hy
    unfold SymOk at this
    cases hty : y.term with
    | true => exact .inl rfl
    | false => rw [if_neg (by simp [hty])] at this; rw [hEi.len]; exact .inr this
  obtain ⟨rfl, xa, xn, xc, rfl, hx⟩ := hv
  have hr4' := hr3.mono hF4
  refine ze hT zr zr zr zr zr ?_; refine zs hT 0 0 zr zr zr zr zr zr zr zr zr zr zr zr ?_; refine WT.nil ?_; refine AW.seq ?_
  refine AW.draw (ps := [(2, 1)]) rfl rfl ?_
  refine zl hT 2 zr zr zr zr zr zr me zr ?_
  refine WT.callN Tryd.func55 zr zr zr zr zr zr (copy_spec _ g hr4' (by omega) hr4) (fun F5 v B5 hF5 hv => ?_)
  obtain ⟨da, dc, rfl, hd⟩ := hv
  refine WT.freezeAll 0 rfl rfl (fun F6 hF6 hB6 => ?_)
  have hd6 := hd.frozen hF6 hB6
  have hx6 := (hx.mono hF5).mono hF6
  unfold gramCells
  refine zl hT 1 zr zr zr zr zr zr me zr ?_
  refine WT.callN Tryd.func60 zr zr zr zr zr zr (cstart_spec F6 (trimmed E g) (trim_right hg E) (trim_len hg E) (QI_inv _) (fun i r hr' _ => ⟨r, hr', Nat.zero_le _, Nat.le_refl _⟩) hx6) (fun F7 v B7 hF7 hv => ?_)
  obtain ⟨q, s, rfl, rfl, hs, hk, hin, hcl⟩ := hv
  refine ze hT zr zr zr zr zr ?_
  refine WT.boxT zr zr zr zr zr zr (fun fi hfi => ?_)
  (iterate 2 refine ze hT zr zr zr zr zr ?_); refine WT.nil ?_
  refine ⟨(by repeat (first | exact trivial | refine recs_pair rfl rfl (by first | exact keep0 | exact keep1 (keeps_frz (by assumption)) | exact kp 0 0 me me | exact kp 1 1 me me | exact kp 2 2 me me | exact kp 3 3 me me | exact kp 4 4 me me | exact kp 5 5 me me | exact kp 6 6 me me | exact kp 0 1 me me | exact kp 1 2 me me | exact kp 2 3 me me | exact kp 3 4 me me | exact kp 4 5 me me | exact kp 5 6 me me | exact kp 6 7 me me) ?_)), ?_⟩
  skip
  refine AW.le (own2 := fB g ⟨fi, da, m, dc, q, s, none, 0, 0, [], [], E⟩ :: own) (own_merge (A := [(fi, .cells false (fCells g ⟨fi, da, m, dc, q, s, none, 0, 0, [], [], E⟩))]) (by repeat (first | exact OwnLe.refl _ | refine OwnLe.skip _ ?_))) ?_
  have hls : LS s 0 = s.last := by unfold LS; rw [if_pos hk.symm]
  refine AW.ret ⟨_, [_], ⟨_, _, rfl, ⟨_, _, rfl, rfl, rfl⟩, rfl⟩, (by repeat (first | exact List.Sublist.refl _ | refine List.Sublist.cons _ ?_)), _, rfl, ⟨fi, da, m, dc, q, s, none, 0, 0, [], [], E⟩, rfl, rfl, ⟨hd6.mono hF7, hEi, hs, hk, ⟨?_, ?_, ?_, ?_⟩, Bld.nil_ _ _, fun t h => by cases h⟩, rfl⟩
  · intro k hk0 x hx
    obtain rfl : k = 0 := Nat.le_zero.1 hk0
    rw [hls] at hx
    have := hs.qlast x hx
    rw [hk] at this; exact this
  · intro i r hr' hl
    rw [hls]; exact hin i r hr' hl
  · intro k hk0 x hx
    obtain rfl : k = 0 := Nat.le_zero.1 hk0
    rw [hls] at hx
    have := hcl x hx
    rw [hk] at this; exact this
  · intro k t h; simp at h
end Go.Proofs.D

set_option linter.unusedVariables false
set_option maxRecDepth 20000
set_option maxHeartbeats 0
open Go Go.Abs Go.Proofs Go.Proofs.D
namespace Go.Proofs.D

/-- What can come next: terminals behind a dot, then whether the word is one of the grammar. -/
structure NextOk (g : Gram) (f : FSt) (xs : List Bool) : Prop where
  len : xs.length = g.terms + 1
  term : ∀ t, t < g.terms → (xs[t]? = some true ↔ ∃ x ∈ f.s.last, nextOf (trimmed f.E g).rules x = some ⟨true, t⟩)
  done : xs[g.terms]? = some (derives g f.w g.start 0 f.w.length)

theorem fsubW {g : Gram} {f : FSt} : ∀ z, z ∈ f.BW → z ∈ fB g f := fun z hz => by unfold fB; simp [hz]
theorem fsubC {g : Gram} {f : FSt} : ∀ z, z ∈ cB (trimmed f.E g) f.q f.s → z ∈ fB g f := fun z hz => by unfold fB; simp [hz]

theorem Vec.boolAny {F G : Frz} {a : Option Addr} {n c : Nat} {B : List (Nat × Blk)} {xs : List Bool} (h : Vec tBool F a n c B xs) : Vec tBool G a n c B xs := by
  have cells : ∀ {cs : List Value} {xs : List Bool}, Cells tBool F cs xs → Cells tBool G cs xs := by
    intro cs xs h
    induction h with
    | nil => exact .nil
    | cons h1 _ ih => exact .cons h1 ih
  exact ⟨h.len, h.cap, h.zero, h.nil, h.spot, h.el.imp id fun ⟨i, cs, h1, h2, h3, h4⟩ => ⟨i, cs, h1, h2, cells h3, h4⟩⟩

theorem feedNext_spec (G : Frz) (hL : Laid G) (g : Gram) (hg : Valid g) {f : FSt} (h : FOk g G f) (hw : f.w.length ≤ 12) (hB : ∀ i b, (i, b) ∈ fB g f → G i = some b) :
    Abs.Spec CC 17 [.pointer (some ⟨f.fi, 0, none⟩)] G [] fun F' v o => ∃ B', o = [B'] ∧ ∃ a' c' xs, v = .slice a' (g.terms + 1) c' ∧ Vec tBool F' a' (g.terms + 1) c' B' xs ∧ NextOk g f xs := by
  have hfi : G f.fi = some (.cells false [.int .i64 g.terms, .int .i64 g.nons, .int .i64 g.start, .slice f.ga f.gm f.gc, .pointer (some ⟨f.q.ic, 0, none⟩), .slice f.wa f.wn f.wc]) := hB _ _ (List.mem_cons_self ..)
  have hgt := hg.range.terms
  have hgn := hg.range.nons
  have hgs := hg.range.start
  have hwa := h.word.frozen (Frz.le.refl G) (fun i b hb => hB i b (fsubW _ hb))
  have hwl := hwa.len
  refine Abs.Spec.fn (n := 36) Tryd.func17 rfl rfl fun own => ?_
  refine AW.seq ?_; refine AW.reg ?_; refine ze hT zr zr zr zr zr ?_; refine WT.nil ?_; refine AW.seq ?_
  refine AW.draw (ps := [(8, 4), (12, 4), (18, 4), (18, 13), (26, 4), (26, 13), (27, 4), (27, 13)]) rfl rfl ?_
  (iterate 3 refine ze hT zr zr zr zr zr ?_); refine zf hT (by assumption) zr zr zr zr zr zr ?_
  refine WT.callN Tryd.func67 zr zr zr zr zr zr (cnextT_spec G (trimmed f.E g) (trim_right hg _) (trim_len hg _) (by show g.terms ≤ 1000; omega) (trim_sym hg _) (QI_inv _) h.chart (fun i b hb => hB i b (fsubC _ hb))) (fun F1 v B1 hF1 hv => ?_)
  obtain ⟨na, nc, xs, rfl, hv, hxs⟩ := hv
  have hfi1 := hF1 _ _ hfi
  have hL1 := hL.mono hF1
  have hwa1 := hwa.mono hF1
  (iterate 3 refine ze hT zr zr zr zr zr ?_); refine zf hT (by assumption) zr zr zr zr zr zr ?_; (iterate 3 refine ze hT zr zr zr zr zr ?_); refine zf hT (by assumption) zr zr zr zr zr zr ?_
  refine WT.callF0 Tryd.func66 zr zr zr zr zr zr (ends_spec F1 hL1 g hg (h.rules.mono hF1) hwa1 (by omega)) (fun F2 v hF2 hv2 => ?_)
  obtain ⟨ea, ec, E, rfl, hE, hE2⟩ := hv2
  have hfi2 := hF2 _ _ hfi1
  have hElen := hE2.ok.size
  (iterate 4 refine ze hT zr zr zr zr zr ?_); refine zf hT (by assumption) zr zr zr zr zr zr ?_
  refine WT.idxL hT hE zr zr zr zr zr zr zr zr zr (by omega) (fun row hrow b1 off ro cs lx hb1 hp1 hrel => ?_)
  obtain ⟨a2, n2, c2, rfl, hrow2⟩ := hrel
  have hrl := hE2.ok.row row (List.mem_of_getElem? hrow)
  refine zi (fo := 0) hT (by assumption) (by assumption) zr zr zr zr zr zr ?_
  refine WT.idxL (j := 0) hT hrow2 zr zr zr zr zr zr zr zr zr (by omega) (fun x hx b3 off3 ro3 cs3 lx3 hb3 hp3 hrel3 => ?_)
  obtain rfl : lx3 = _ := hrel3
  have hxb := hE2.ok.bit row (List.mem_of_getElem? hrow) x (List.mem_of_getElem? hx)
  have pwl : 2 ^ (f.w.length + 1) ≤ 4294967296 := Nat.pow_le_pow_right (j := 32) (by decide) (by omega)
  have e : derives g f.w g.start 0 f.w.length = x.testBit f.wn := by
    rw [Bool.eq_iff_iff, derives_iff, ← hE2.iff _ _ _ (Nat.zero_le _), ← hwl]
    constructor
    · rintro ⟨row', x', h3, h4, h5⟩
      rw [hrow] at h3; cases h3
      rw [hx] at h4; cases h4
      exact h5
    · intro hb; exact ⟨row, x, hrow, hx, hb⟩
  have e2 : (((x / 2 ^ f.wn &&& 1 : Nat) : Int) == 1) = derives g f.w g.start 0 f.w.length := by
    rw [shift_bit, e]; cases x.testBit f.wn <;> rfl
  refine zi (fo := 0) hT (by assumption) (by assumption) zr zr zr zr zr zr ?_; (iterate 3 refine ze hT zr zr zr zr zr ?_); refine zf hT (by assumption) zr zr zr zr zr zr ?_; refine ze hT zr zr zr zr zr ?_
  refine WT.shr32 (x := x) (y := f.wn) zr zr zr zr zr zr (by omega) ?_
  refine WT.and32 (x := x / 2 ^ f.wn) (y := 1) zr zr zr zr zr zr (Nat.lt_of_le_of_lt (Nat.div_le_self _ _) (by omega)) (by decide) ?_
  have hxne : xs ≠ [] := by
    intro e; subst e
    have h1 := hv.len
    have h2 : (trimmed f.E g).terms = g.terms := rfl
    simp at h1; omega
  have hvb := (hv.mono hF2).bld hxne
  have hxl : xs.length = g.terms := hv.len.symm
  refine ze hT zr zr zr zr zr ?_
  refine WT.buildT hT zr zr zr zr zr zr zr zr zr zr zr zr zr zr (fun i9 hi9 => ?_)
  refine WT.appendT (ys := [((x / 2 ^ f.wn &&& 1 : Nat) : Int) == 1]) hT 1 hvb rfl (fun _ => rfl) zr zr zr zr zr zr zr zr zr zr zr (fun h0 s0 => news_own hT s0 0 zr zr zr zr) (Cells.single (R := tBool) (x := (((x / 2 ^ f.wn &&& 1 : Nat) : Int) == 1)) rfl) rfl (by decide) (by show (g.terms + 1) * 1 ≤ _; omega) (fun a3 c3 B3 hB3 => ?_)
  refine ze hT zr zr zr zr zr ?_; refine WT.nil ?_
  refine ⟨(by repeat (first | exact trivial | refine recs_pair rfl rfl (by first | exact keep0 | exact keep1 (keeps_frz (by assumption)) | exact kp 0 0 me me | exact kp 1 1 me me | exact kp 2 2 me me | exact kp 3 3 me me | exact kp 4 4 me me | exact kp 5 5 me me | exact kp 6 6 me me | exact kp 0 1 me me | exact kp 1 2 me me | exact kp 2 3 me me | exact kp 3 4 me me | exact kp 4 5 me me | exact kp 5 6 me me | exact kp 6 7 me me) ?_)), ?_⟩
  skip
  refine AW.ret ⟨_, [_], ⟨_, _, rfl, rfl, rfl⟩, (by repeat (first | exact List.Sublist.refl _ | refine List.Sublist.cons _ ?_)), _, rfl, a3, c3, _, rfl, hB3.vec, ⟨?_, fun t ht => ?_, ?_⟩⟩
  · simp [hxl]
  · rw [List.getElem?_append_left (by omega)]
    exact hxs t ht
  · rw [List.getElem?_append_right (by omega), hxl, Nat.sub_self]
    exact congrArg some e2

theorem own_feed (a : Nat × Blk) (BW C : List (Nat × Blk)) (own : Own) : OwnLe ([a] :: BW :: C :: own) ((a :: (BW ++ C)) :: own) := OwnLe.flat (List.Perm.of_eq (by simp))
theorem own_feed' (a : Nat × Blk) (BW C : List (Nat × Blk)) (own : Own) : OwnLe ((a :: (BW ++ C)) :: own) ([a] :: BW :: C :: own) := OwnLe.flat (List.Perm.of_eq (by simp))

theorem LS_put {s s' : CSt} (hk : s'.k = s.k + 1) (hol : s.old.length = s.k) (ho : s'.old = s.old ++ [s.last]) {j : Nat} (hj : j ≤ s.k) : LS s' j = LS s j := by
  unfold LS
  rw [if_neg (by omega), ho]
  by_cases h : j = s.k
  · rw [if_pos h, List.getD_eq_getElem?_getD, List.getElem?_append_right (by omega), show j - s.old.length = 0 by omega]; rfl
  · rw [if_neg h, List.getD_eq_getElem?_getD, List.getD_eq_getElem?_getD, List.getElem?_append_left (by omega)]

theorem sets_put {g : Gram} {w : List Nat} {t : Nat} {s s' : CSt} (h : Sets g w (LS s)) (hw : s.k = w.length) (hok : ∀ x ∈ s'.last, ItemOk g.rules s'.k x) (hk : s'.k = s.k + 1) (hol : s.old.length = s.k) (ho : s'.old = s.old ++ [s.last])
    (hsc : ∀ x ∈ s.last, nextOf g.rules x = some ⟨true, t⟩ → stepItem x ∈ s'.last) (hcl : ∀ x ∈ s'.last, ItemClosed g.rules (LS s') s'.k x) : Sets g (w ++ [t]) (LS s') := by
  have hL : ∀ j, j ≤ s.k → LS s' j = LS s j := fun j hj => LS_put hk hol ho hj
  have hN : LS s' (s.k + 1) = s'.last := by unfold LS; rw [if_pos hk.symm]
  have hS : LS s s.k = s.last := by unfold LS; rw [if_pos rfl]
  refine ⟨fun k hk1 x hx => ?_, fun i r hr hl => ?_, fun k hk1 x hx => ?_, fun k t' ht x hx hn => ?_⟩
  · simp only [List.length_append, List.length_singleton] at hk1
    rcases Nat.lt_or_ge k (s.k + 1) with h1 | h1
    · rw [hL k (by omega)] at hx; exact h.ok k (by omega) x hx
    · obtain rfl : k = s.k + 1 := by omega
      rw [hN] at hx; rw [← hk]; exact hok x hx
  · rw [hL 0 (Nat.zero_le _)]; exact h.start i r hr hl
  · simp only [List.length_append, List.length_singleton] at hk1
    rcases Nat.lt_or_ge k (s.k + 1) with h1 | h1
    · rw [hL k (by omega)] at hx
      obtain ⟨c1, c2⟩ := h.closed k (by omega) x hx
      obtain ⟨_, _, _, hf⟩ := h.ok k (by omega) x hx
      refine ⟨fun n i r hn hr hl => ?_, fun r hr hd y hy hn => ?_⟩
      · rw [hL k (by omega)]; exact c1 n i r hn hr hl
      · rw [hL x.frm (by omega)] at hy
        rw [hL k (by omega)]; exact c2 r hr hd y hy hn
    · obtain rfl : k = s.k + 1 := by omega
      rw [hN] at hx
      have := hcl x hx
      rw [hk] at this; exact this
  · rcases Nat.lt_or_ge k w.length with h1 | h1
    · rw [List.getElem?_append_left h1] at ht
      rw [hL k (by omega)] at hx
      have h2 := h.scan k t' ht x hx hn
      rw [hL (k + 1) (by omega)]; exact h2
    · rw [List.getElem?_append_right h1] at ht
      have := (List.getElem?_eq_some_iff.1 ht).1
      simp at this
      have e : k = s.k := by omega
      subst e
      rw [hw, Nat.sub_self] at ht
      obtain rfl : t = t' := by simpa using ht
      rw [hL _ (Nat.le_refl _), hS] at hx
      rw [hN]; exact hsc x hx hn

theorem feedPut_spec (F : Frz) (g : Gram) (hg : Valid g) {f : FSt} (h : FOk g F f) (hw : f.w.length < 12) (t : Nat) (ht : t < g.terms) :
    Abs.Spec CC 18 [.pointer (some ⟨f.fi, 0, none⟩), .int .i64 t] F [fB g f] fun F' v o => ∃ B', o = [B'] ∧ ∃ f', B' = fB g f' ∧ FOk g F' f' ∧ f'.fi = f.fi ∧ f'.E = f.E ∧
      (((∃ x ∈ f.s.last, nextOf (trimmed f.E g).rules x = some ⟨true, t⟩) ∧ v = .int .i64 0 ∧ f'.w = f.w ++ [t]) ∨ ((¬ ∃ x ∈ f.s.last, nextOf (trimmed f.E g).rules x = some ⟨true, t⟩) ∧ v = .int .i64 10 ∧ f'.w = f.w)) := by
  have hgt := hg.range.terms
  have hwl := h.word.len
  have hk := h.k
  refine Abs.Spec.fn (n := 47) Tryd.func18 rfl rfl fun own => ?_
  refine AW.le (own_feed _ _ _ _) ?_
  refine AW.seq ?_; refine AW.reg ?_; refine ze hT zr zr zr zr zr ?_; refine WT.nil ?_; (iterate 2 refine AW.seq ?_); refine AW.reg ?_; (iterate 8 refine ze hT zr zr zr zr zr ?_); refine zl hT 0 zr zr zr zr zr zr me zr ?_; (iterate 2 refine ze hT zr zr zr zr zr ?_); refine WT.nil ?_
  refine AW.cond rfl (fun h => (by simp at h; omega)) (fun _ => ?_)
  refine AW.skip ?_; (iterate 2 refine AW.seq ?_); refine AW.reg ?_; (iterate 3 refine ze hT zr zr zr zr zr ?_); refine zl hT 0 zr zr zr zr zr zr me zr ?_; (iterate 2 refine ze hT zr zr zr zr zr ?_); refine WT.nil ?_
  refine AW.cond rfl (fun h => (by simp at h; omega)) (fun _ => ?_)
  refine AW.skip ?_; (iterate 2 refine AW.seq ?_); refine AW.reg ?_; (iterate 3 refine ze hT zr zr zr zr zr ?_); refine zl hT 0 zr zr zr zr zr zr me zr ?_
  refine WT.callLendN (P := fun v B' => ∃ a' c' xs, v = .slice a' g.terms c' ∧ Vec tBool F a' g.terms c' B' xs ∧ ∀ t, t < g.terms → (xs[t]? = some true ↔ ∃ x ∈ f.s.last, nextOf (trimmed f.E g).rules x = some ⟨true, t⟩)) 2 Tryd.func67 zr zr zr zr zr zr zr (fun G hG hBG => Spec.mono (cnextT_spec G (trimmed f.E g) (trim_right hg _) (trim_len hg _) (by show g.terms ≤ 1000; omega) (trim_sym hg _) (QI_inv _) (h.chart.mono hG) hBG) (fun F' v o _ hv => by
    obtain ⟨B', e, a2, c2, xs, e2, hv, hx⟩ := hv
    exact ⟨B', e, a2, c2, xs, e2, Vec.boolAny hv, hx⟩)) (fun v BN hv => ?_)
  obtain ⟨na, nc, xs, rfl, hv, hxs⟩ := hv
  have hxl : xs.length = g.terms := hv.len.symm
  obtain ⟨z, hz⟩ : ∃ z, xs[t]? = some z := ⟨_, List.getElem?_eq_getElem (by omega)⟩
  refine ze hT zr zr zr zr zr ?_
  refine WT.vidx hT hv zr zr zr zr zr zr zr zr zr ht (fun b5 hb5 => ?_)
  refine WT.vld1 hT 0 hv hb5 hz zr zr zr zr zr zr zr zr zr (fun l h => h) ?_
  refine ze hT zr zr zr zr zr ?_; refine WT.nil ?_
  refine AW.cond rfl (fun hc => ?_) (fun hc => ?_)
  · have hc : z = false := by simpa using hc
    have hno : ¬ ∃ x ∈ f.s.last, nextOf (trimmed f.E g).rules x = some ⟨true, t⟩ := by
      rw [← hxs t ht, hz, hc]; simp
    refine AW.seq ?_; refine AW.reg ?_; refine ze hT zr zr zr zr zr ?_; refine WT.nil ?_
    refine AW.le (OwnLe.skip _ (own_feed' _ _ _ _)) ?_
    exact AW.ret ⟨_, [_], ⟨_, _, rfl, rfl, rfl⟩, (by repeat (first | exact List.Sublist.refl _ | refine List.Sublist.cons _ ?_)), _, rfl, f, rfl, h, rfl, rfl, .inr ⟨hno, rfl, rfl⟩⟩
  · have hc : z = true := by simpa using hc
    have hyes : ∃ x ∈ f.s.last, nextOf (trimmed f.E g).rules x = some ⟨true, t⟩ := by
      rw [← hxs t ht, hz, hc]
    refine AW.skip ?_; refine AW.seq ?_; refine AW.reg ?_; (iterate 3 refine ze hT zr zr zr zr zr ?_); refine zl hT 1 zr zr zr zr zr zr me zr ?_; refine ze hT zr zr zr zr zr ?_
    refine WT.call1F 3 Tryd.func68 zr zr zr zr zr zr zr (fun _ => rfl) (cput_spec F (trimmed f.E g) (trim_right hg _) (trim_len hg _) (QI_inv _) h.chart (by omega) t (QI_scan _ _ _)) (fun F1 v B1 hF1 hv1 => ?_)
    obtain ⟨s', rfl, hs', hk', hold, hsc, hcl⟩ := hv1
    refine WT.nil ?_; refine AW.seq ?_; refine AW.reg ?_; (iterate 4 refine ze hT zr zr zr zr zr ?_); refine zl hT 1 zr zr zr zr zr zr me zr ?_; refine ze hT zr zr zr zr zr ?_
    refine WT.buildT hT zr zr zr zr zr zr zr zr zr zr zr zr zr zr (fun i43 hi43 => ?_)
    refine WT.appendT (ys := [t]) hT 3 (h.word.mono hF1) rfl (fun _ => rfl) zr zr zr zr zr zr zr zr zr zr zr (fun h0 s0 => news_own hT s0 0 zr zr zr zr) (Cells.single (R := tNat) (x := t) rfl) rfl (by decide) (by first | omega | (dsimp only at *; omega)) (fun wa' wc' BW' hBW' => ?_)
    (iterate 2 refine ze hT zr zr zr zr zr ?_); refine zs hT 2 0 zr zr zr zr zr zr zr zr zr zr zr zr ?_; refine WT.nil ?_; refine AW.seq ?_; refine AW.reg ?_; refine ze hT zr zr zr zr zr ?_; refine WT.nil ?_
    refine AW.le (OwnLe.skip _ (OwnLe.skip _ (own_feed' _ _ _ _))) ?_
    refine AW.ret ⟨_, [_], ⟨_, _, rfl, rfl, rfl⟩, (by repeat (first | exact List.Sublist.refl _ | refine List.Sublist.cons _ ?_)), _, rfl, { f with s := s', wa := wa', wn := f.wn + 1, wc := wc', BW := BW', w := f.w ++ [t] }, rfl, ⟨h.rules.mono hF1, h.ends, hs', ?_, ?_, hBW', ?_⟩, rfl, rfl, .inl ⟨hyes, rfl, rfl⟩⟩
    · show s'.k = (f.w ++ [t]).length
      rw [hk', hk]; simp
    · exact sets_put h.sets hk (fun x hx => hs'.qlast x hx) hk' h.chart.oldl hold hsc hcl
    · intro t' ht'
      rcases List.mem_append.1 ht' with h1 | h1
      · exact h.ok t' h1
      · simp at h1; subst h1; exact ht
end Go.Proofs.D

set_option linter.unusedVariables false
set_option maxRecDepth 20000
set_option maxHeartbeats 0
open Go Go.Abs Go.Proofs Go.Proofs.D
namespace Go.Proofs.D

/-! ### sorting: what all kinds of elements share -/
theorem arr_at {α : Type} [Inhabited α] {d : Array α} {i : Nat} (h : i < d.size) : d.toList[i]? = some d[i]! := by
  rw [getElem!_pos d i h, Array.getElem?_toList, Array.getElem?_eq_getElem h]

theorem swp_list {α : Type} [Inhabited α] (d : Array α) (i j : Nat) : (Go.Sort.swp d i j).toList = (d.toList.set i d[j]!).set j d[i]! := by
  unfold Go.Sort.swp; simp

/-- The comparison that is handed over. -/
def CmpOk {α : Type} (R : Ty α) (lt : α → α → Bool) (F : Frz) (g : Nat) (first capt : List Value) : Prop :=
  (∃ fn, CC.func g = some fn ∧ fn.body.isSome = true) ∧ ∀ G, Frz.le F G → ∀ lx ly x y, R.rel G lx x → R.rel G ly y → Abs.Spec CC g (first ++ [.agg ⟨lx⟩, .agg ⟨ly⟩] ++ capt) G [] fun _ v o => o = [] ∧ ∃ z : Int, v = .int .i64 z ∧ (z < 0 ↔ lt x y = true)

theorem CmpOk.mono {α : Type} {R : Ty α} {lt : α → α → Bool} {F G : Frz} {g : Nat} {first capt : List Value} (h : CmpOk R lt F g first capt) (hF : Frz.le F G) : CmpOk R lt G g first capt :=
  ⟨h.1, fun H hH => h.2 H (hF.trans hH)⟩

structure VS (α : Type) where
  i : Nat
  d : Array α
  B : List (Nat × Blk)

instance : Inhabited Item := ⟨⟨0, 0, 0⟩⟩
theorem itIns_spec (F : Frz) {lt : Item → Item → Bool} {g : Nat} {first capt : List Value} (hc : CmpOk tItem lt F g first capt) {a0 : Option Addr} {m c : Nat} {B : List (Nat × Blk)} {d : Array Item} (hv : Vec tItem F a0 m c B d.toList) (a b : Nat) (ha : a ≤ 1000000) (hb : b ≤ m) (hm : m ≤ 1000000) :
    Abs.Spec CC 152 [.slice a0 m c, .int .i64 a, .int .i64 b, .func (.func g) ⟨first⟩ ⟨capt⟩] F [B] fun F' v o => ∃ B', o = [B'] ∧ Vec tItem F' a0 m c B' (Go.Sort.insertionSort lt d a b).toList := by
  obtain ⟨⟨fn, hg, hgb⟩, hcmp⟩ := hc
  refine Abs.Spec.fn (n := 53) Tryd.func152 rfl rfl fun own => ?_
  refine AW.seq ?_; refine AW.reg ?_; refine ze hT zr zr zr zr zr ?_; refine WT.add1 zr zr zr zr zr zr (by omega) ?_; refine ze hT zr zr zr zr zr ?_; refine WT.nil ?_
  refine AW.block ?_
  refine AW.loopR (S := VS Item) (fun s => [(8, .int .i64 (s.i : Nat))]) (fun s => s.B :: own) (fun s G => Vec tItem G a0 m c s.B s.d.toList ∧ Go.Sort.insOuter lt a b s.i s.d = Go.Sort.insertionSort lt d a b) (fun s => b - s.i) ⟨a + 1, d, B⟩
    (SubK.of_map rfl) (OwnLe.refl _) ⟨hv, rfl⟩ ?_
  intro s F1 hF1 hP
  obtain ⟨hv1, heq1⟩ := hP
  (iterate 2 refine AW.seq ?_); refine AW.reg ?_; (iterate 3 refine ze hT zr zr zr zr zr ?_); refine WT.nil ?_
  refine AW.cond rfl (fun h => ?_) (fun h => ?_)
  · have h : s.i < b := by simpa using h
    refine AW.skip ?_; refine AW.seq ?_
    refine AW.block ?_
    refine AW.seq ?_; refine AW.reg ?_; (iterate 2 refine ze hT zr zr zr zr zr ?_); refine WT.nil ?_
    refine AW.block ?_
    refine AW.loopR (S := VS Item) (fun u => [(9, .int .i64 (u.i : Nat))]) (fun u => u.B :: own) (fun u G => Vec tItem G a0 m c u.B u.d.toList ∧ u.i ≤ s.i ∧ Go.Sort.insInner lt a u.i u.d = Go.Sort.insInner lt a s.i s.d) (fun u => u.i) ⟨s.i, s.d, s.B⟩
      (SubK.of_map rfl) (OwnLe.refl _) ⟨hv1, Nat.le_refl _, rfl⟩ ?_
    intro u F2 hF2 hP2
    obtain ⟨hv2, hui, heq2⟩ := hP2
    have hsz : m = u.d.size := hv2.len
    have stop : (a < u.i → lt u.d[u.i]! u.d[u.i - 1]! = false) → Go.Sort.insOuter lt a b (s.i + 1) u.d = Go.Sort.insertionSort lt d a b := by
      intro h1
      rw [← heq1]
      have e : Go.Sort.insInner lt a s.i s.d = u.d := by
        rw [← heq2]
        cases hi : u.i with
        | zero => rfl
        | succ j =>
          rw [hi] at h1
          simp only [Nat.add_sub_cancel] at h1
          rw [Go.Sort.insInner]
          by_cases h2 : a < j + 1
          · rw [h1 h2]; simp
          · simp [h2]
      conv => rhs; rw [Go.Sort.insOuter]
      rw [if_pos h, e]
    (iterate 2 refine AW.seq ?_); refine AW.draw (ps := []) zr zr ?_; (iterate 4 refine ze hT zr zr zr zr zr ?_)
    refine WT.split 21 rfl (fun hja => ?_) (fun hja => ?_)
    · have hja : a < u.i := by simp at hja; omega
      (iterate 3 refine ze hT zr zr zr zr zr ?_)
      refine WT.vidx hT hv2 zr zr zr zr zr zr zr zr zr (by omega) (fun bl1 hbl1 => ?_)
      refine WT.vldS hT 0 hv2 hbl1 (arr_at (by omega)) zr zr zr zr zr zr zr zr zr (fun l1 hl1 => ?_)
      (iterate 2 refine ze hT zr zr zr zr zr ?_); refine WT.sub1 zr zr zr zr zr zr (by omega) ?_
      refine WT.vidx hT hv2 zr zr zr zr zr zr zr zr zr (by omega) (fun bl2 hbl2 => ?_)
      refine WT.vldS hT 0 hv2 hbl2 (arr_at (by omega)) zr zr zr zr zr zr zr zr zr (fun l2 hl2 => ?_)
      refine WT.callC hg hgb zr zr zr zr zr zr zr (hcmp F2 (hF1.trans hF2) l1 l2 _ _ hl1 hl2) (fun v hvz => ?_)
      obtain ⟨z, rfl, hz⟩ := hvz
      (iterate 2 refine ze hT zr zr zr zr zr ?_); refine WT.nil ?_; refine And.intro trivial ?_
      refine AW.cond rfl (fun hc => ?_) (fun hc => ?_)
      · have hlt : lt u.d[u.i]! u.d[u.i - 1]! = true := hz.1 (by simpa using hc)
        refine AW.skip ?_; refine AW.seq ?_
        refine AW.block ?_
        refine AW.draw (ps := [(4, 15)]) rfl rfl ?_
        (iterate 4 refine ze hT zr zr zr zr zr ?_); refine WT.sub1 zr zr zr zr zr zr (by omega) ?_; (iterate 2 refine ze hT zr zr zr zr zr ?_); refine WT.sub1 zr zr zr zr zr zr (by omega) ?_
        refine WT.vidx hT hv2 zr zr zr zr zr zr zr zr zr (by omega) (fun bl3 hbl3 => ?_)
        refine WT.vldS hT 0 hv2 hbl3 (arr_at (by omega)) zr zr zr zr zr zr zr zr zr (fun l3 hl3 => ?_)
        (iterate 2 refine ze hT zr zr zr zr zr ?_)
        refine WT.vidx hT hv2 zr zr zr zr zr zr zr zr zr (by omega) (fun bl4 hbl4 => ?_)
        refine WT.vldS hT 0 hv2 hbl4 (arr_at (by omega)) zr zr zr zr zr zr zr zr zr (fun l4 hl4 => ?_)
        refine WT.vidx hT hv2 zr zr zr zr zr zr zr zr zr (by omega) (fun bl5 hbl5 => ?_)
        refine WT.vst (y := u.d[u.i - 1]!) hT 0 hv2 hbl5 (List.getElem?_eq_getElem (by simp; omega)) zr zr zr zr zr hl3 rfl (fun _ => rfl) rfl (fun Bl5 hBl5 => ?_)
        refine WT.vidx hT hBl5 zr zr zr zr zr zr zr zr zr (by omega) (fun bl6 hbl6 => ?_)
        refine WT.vst (y := u.d[u.i]!) hT 0 hBl5 hbl6 (List.getElem?_eq_getElem (by simp; omega)) zr zr zr zr zr hl4 rfl (fun _ => rfl) rfl (fun Bl6 hBl6 => ?_)
        rw [← swp_list] at hBl6
        refine WT.nil ?_
        refine ⟨(by repeat (first | exact trivial | refine recs_pair rfl rfl (by first | exact keep0 | exact keep1 (keeps_frz (by assumption)) | exact kp 0 0 me me | exact kp 1 1 me me | exact kp 2 2 me me | exact kp 3 3 me me | exact kp 4 4 me me | exact kp 5 5 me me | exact kp 6 6 me me | exact kp 0 1 me me | exact kp 1 2 me me | exact kp 2 3 me me | exact kp 3 4 me me | exact kp 4 5 me me | exact kp 5 6 me me | exact kp 6 7 me me) ?_)), ?_⟩
        refine AW.reg ?_; refine ze hT zr zr zr zr zr ?_; refine WT.sub1 zr zr zr zr zr zr (by omega) ?_; refine ze hT zr zr zr zr zr ?_; refine WT.nil ?_
        refine ⟨⟨u.i - 1, Go.Sort.swp u.d u.i (u.i - 1), Bl6⟩, by dsimp only; omega, SubK.of_map rfl, OwnLe.refl _, hBl6, by dsimp only; omega, ?_⟩
        rw [← heq2]
        show Go.Sort.insInner lt a (u.i - 1) (Go.Sort.swp u.d u.i (u.i - 1)) = _
        cases hi : u.i with
        | zero => omega
        | succ j =>
          rw [hi] at hlt
          simp only [Nat.add_sub_cancel] at hlt ⊢
          conv => rhs; rw [Go.Sort.insInner]
          rw [if_pos (by simp [hlt]; omega)]
      · have hlt : lt u.d[u.i]! u.d[u.i - 1]! = false := by
          cases hh : lt u.d[u.i]! u.d[u.i - 1]! with
          | false => rfl
          | true => exact absurd (hz.2 hh) (by simpa using hc)
        refine AW.exit ?_
        refine AW.reg ?_; refine ze hT zr zr zr zr zr ?_; refine WT.add1 zr zr zr zr zr zr (by omega) ?_; refine ze hT zr zr zr zr zr ?_; refine WT.nil ?_
        exact ⟨⟨s.i + 1, u.d, u.B⟩, by dsimp only; omega, SubK.of_map rfl, OwnLe.refl _, hv2, stop (fun _ => hlt)⟩
    · have hja : ¬ a < u.i := by simp at hja; omega
      (iterate 12 refine zx zr zr zr zr ?_); refine ze hT zr zr zr zr zr ?_; refine WT.nil ?_; refine And.intro trivial ?_
      refine AW.cond rfl (fun h => (by cases h)) (fun _ => ?_)
      refine AW.exit ?_
      refine AW.reg ?_; refine ze hT zr zr zr zr zr ?_; refine WT.add1 zr zr zr zr zr zr (by omega) ?_; refine ze hT zr zr zr zr zr ?_; refine WT.nil ?_
      exact ⟨⟨s.i + 1, u.d, u.B⟩, by dsimp only; omega, SubK.of_map rfl, OwnLe.refl _, hv2, stop (fun h => absurd h hja)⟩
  · have h : ¬ s.i < b := by simpa using h
    refine AW.exit ?_
    skip
    refine ⟨_, [_], rfl, (by repeat (first | exact List.Sublist.refl _ | refine List.Sublist.cons _ ?_)), _, rfl, ?_⟩
    rw [← heq1, Go.Sort.insOuter, if_neg h]
    exact hv1

theorem itSift_spec (F : Frz) {lt : Item → Item → Bool} {g : Nat} {first capt : List Value} (hc : CmpOk tItem lt F g first capt) {a0 : Option Addr} {m c : Nat} {B : List (Nat × Blk)} {d : Array Item} (hv : Vec tItem F a0 m c B d.toList) (lo hi fst : Nat) (hlo : lo ≤ 1000000) (hb : fst + hi ≤ m) (hm : m ≤ 1000000) :
    Abs.Spec CC 177 [.slice a0 m c, .int .i64 lo, .int .i64 hi, .int .i64 fst, .func (.func g) ⟨first⟩ ⟨capt⟩] F [B] fun F' v o => ∃ B', o = [B'] ∧ Vec tItem F' a0 m c B' (Go.Sort.siftDown lt hi fst lo d).toList := by
  obtain ⟨⟨fn, hg, hgb⟩, hcmp⟩ := hc
  refine Abs.Spec.fn (n := 82) Tryd.func177 rfl rfl fun own => ?_
  refine AW.seq ?_; refine AW.reg ?_; (iterate 2 refine ze hT zr zr zr zr zr ?_); refine WT.nil ?_
  refine AW.block ?_
  refine AW.loopR (S := VS Item) (fun s => [(10, .int .i64 (s.i : Nat))]) (fun s => s.B :: own) (fun s G => Vec tItem G a0 m c s.B s.d.toList ∧ s.i ≤ 1000000 ∧ Go.Sort.siftDown lt hi fst s.i s.d = Go.Sort.siftDown lt hi fst lo d) (fun s => hi - s.i) ⟨lo, d, B⟩
    (SubK.of_map rfl) (OwnLe.refl _) ⟨hv, hlo, rfl⟩ ?_
  intro u F1 hF1 hP
  obtain ⟨hv2, hui, heq⟩ := hP
  have hsz : m = u.d.size := hv2.len
  skip
  refine AW.block ?_
  refine AW.seq ?_; refine AW.reg ?_; refine ze hT zr zr zr zr zr ?_; refine WT.mul2 zr zr zr zr zr zr (by omega) ?_; refine WT.add1 zr zr zr zr zr zr (by omega) ?_; refine ze hT zr zr zr zr zr ?_; refine WT.nil ?_; (iterate 2 refine AW.seq ?_); refine AW.reg ?_; (iterate 3 refine ze hT zr zr zr zr zr ?_); refine WT.nil ?_
  refine AW.cond rfl (fun h => ?_) (fun h => ?_)
  · have h : hi ≤ 2 * u.i + 1 := by simp at h; omega
    refine AW.exit ?_
    skip
    refine ⟨_, [_], rfl, (by repeat (first | exact List.Sublist.refl _ | refine List.Sublist.cons _ ?_)), _, rfl, ?_⟩
    rw [← heq, Go.Sort.siftDown, dif_pos h]
    exact hv2
  · have h : 2 * u.i + 1 < hi := by simp at h; omega
    refine AW.skip ?_
    refine AW.jn (S := Nat) (fun ch => [(11, .int .i64 (ch : Nat))]) (fun _ => u.B :: own) (fun ch _ => u.i < ch ∧ ch < hi ∧ Go.Sort.siftDown lt hi fst u.i u.d = if (!lt u.d[fst + u.i]! u.d[fst + ch]!) = true then u.d else Go.Sort.siftDown lt hi fst ch (Go.Sort.swp u.d (fst + u.i) (fst + ch))) ?_ (fun ch F3 hF3 hch => ?_)
    · have e1 : (decide (2 * u.i + 1 + 1 < hi) && lt u.d[fst + (2 * u.i + 1)]! u.d[fst + (2 * u.i + 1) + 1]!) = false → Go.Sort.siftDown lt hi fst u.i u.d = if (!lt u.d[fst + u.i]! u.d[fst + (2 * u.i + 1)]!) = true then u.d else Go.Sort.siftDown lt hi fst (2 * u.i + 1) (Go.Sort.swp u.d (fst + u.i) (fst + (2 * u.i + 1))) := by
        intro h1
        conv => lhs; rw [Go.Sort.siftDown]
        rw [dif_neg (by omega)]
        simp only [Bool.and_eq_true, decide_eq_true_eq, Bool.and_eq_false_imp] at h1 ⊢
        rw [if_neg (fun h2 => by have := h1 h2.1; rw [h2.2] at this; cases this)]
      refine AW.seq ?_; refine AW.draw (ps := []) zr zr ?_; refine ze hT zr zr zr zr zr ?_; refine WT.add1 zr zr zr zr zr zr (by omega) ?_; (iterate 3 refine ze hT zr zr zr zr zr ?_)
      refine WT.split 23 rfl (fun h2 => ?_) (fun h2 => ?_)
      · have h2 : 2 * u.i + 1 + 1 < hi := by simp at h2; omega
        (iterate 4 refine ze hT zr zr zr zr zr ?_); refine WT.addN zr zr zr zr zr zr (by omega) ?_
        refine WT.vidx hT hv2 zr zr zr zr zr zr zr zr zr (by omega) (fun bl1 hbl1 => ?_)
        refine WT.vldS hT 0 hv2 hbl1 (arr_at (by omega)) zr zr zr zr zr zr zr zr zr (fun l1 hl1 => ?_)
        (iterate 3 refine ze hT zr zr zr zr zr ?_); refine WT.addN zr zr zr zr zr zr (by omega) ?_; refine WT.add1 zr zr zr zr zr zr (by omega) ?_
        refine WT.vidx hT hv2 zr zr zr zr zr zr zr zr zr (by omega) (fun bl2 hbl2 => ?_)
        refine WT.vldS hT 0 hv2 hbl2 (arr_at (by omega)) zr zr zr zr zr zr zr zr zr (fun l2 hl2 => ?_)
        refine WT.callC hg hgb zr zr zr zr zr zr zr (hcmp F1 hF1 l1 l2 _ _ hl1 hl2) (fun v hvz => ?_)
        obtain ⟨z, rfl, hz⟩ := hvz
        (iterate 2 refine ze hT zr zr zr zr zr ?_); refine WT.nil ?_; refine And.intro trivial ?_
        refine AW.cond rfl (fun hc => ?_) (fun hc => ?_)
        · have hlt := hz.1 (by simpa using hc)
          refine AW.reg ?_; refine ze hT zr zr zr zr zr ?_; refine WT.add1 zr zr zr zr zr zr (by omega) ?_; refine ze hT zr zr zr zr zr ?_; refine WT.nil ?_
          refine ⟨2 * u.i + 1 + 1, SubK.of_map rfl, OwnLe.refl _, by omega, h2, ?_⟩
          conv => lhs; rw [Go.Sort.siftDown]
          rw [dif_neg (by omega), if_pos (by simp [h2, hlt])]
          rw [dif_pos (show 2 * u.i + 2 < hi by omega)]
        · have hlt : lt u.d[fst + (2 * u.i + 1)]! u.d[fst + (2 * u.i + 1) + 1]! = false := by
            cases hh : lt u.d[fst + (2 * u.i + 1)]! u.d[fst + (2 * u.i + 1) + 1]! with
            | false => rfl
            | true => exact absurd (hz.2 hh) (by simpa using hc)
          refine AW.skip ?_
          exact ⟨2 * u.i + 1, SubK.of_map rfl, OwnLe.refl _, by omega, h, e1 (by rw [hlt]; simp)⟩
      · have h2 : ¬ 2 * u.i + 1 + 1 < hi := by simp at h2; omega
        (iterate 16 refine zx zr zr zr zr ?_); refine ze hT zr zr zr zr zr ?_; refine WT.nil ?_; refine And.intro trivial ?_
        refine AW.cond rfl (fun h => (by cases h)) (fun _ => ?_)
        refine AW.skip ?_
        exact ⟨2 * u.i + 1, SubK.of_map rfl, OwnLe.refl _, by omega, h, e1 (by simp [h2])⟩
    · obtain ⟨hc1, hc2, hceq⟩ := hch
      have hv3 := hv2.mono hF3
      (iterate 2 refine AW.seq ?_); refine AW.draw (ps := []) zr zr ?_; (iterate 4 refine ze hT zr zr zr zr zr ?_); refine WT.addN zr zr zr zr zr zr (by omega) ?_
      refine WT.vidx hT hv3 zr zr zr zr zr zr zr zr zr (by omega) (fun bl1 hbl1 => ?_)
      refine WT.vldS hT 0 hv3 hbl1 (arr_at (by omega)) zr zr zr zr zr zr zr zr zr (fun l1 hl1 => ?_)
      (iterate 3 refine ze hT zr zr zr zr zr ?_); refine WT.addN zr zr zr zr zr zr (by omega) ?_
      refine WT.vidx hT hv3 zr zr zr zr zr zr zr zr zr (by omega) (fun bl2 hbl2 => ?_)
      refine WT.vldS hT 0 hv3 hbl2 (arr_at (by omega)) zr zr zr zr zr zr zr zr zr (fun l2 hl2 => ?_)
      refine WT.callC hg hgb zr zr zr zr zr zr zr (hcmp F3 (hF1.trans hF3) l1 l2 _ _ hl1 hl2) (fun v hvz => ?_)
      obtain ⟨z, rfl, hz⟩ := hvz
      (iterate 2 refine ze hT zr zr zr zr zr ?_); refine WT.nil ?_; refine And.intro trivial ?_
      refine AW.cond rfl (fun hc => ?_) (fun hc => ?_)
      · have hlt : lt u.d[fst + u.i]! u.d[fst + ch]! = false := by
          cases hh : lt u.d[fst + u.i]! u.d[fst + ch]! with
          | false => rfl
          | true => exact absurd (hz.2 hh) (by simpa using hc)
        skip
        refine AW.ret ⟨_, [_], rfl, (by repeat (first | exact List.Sublist.refl _ | refine List.Sublist.cons _ ?_)), _, rfl, ?_⟩
        rw [← heq, hceq, hlt, if_pos (by decide)]
        exact hv3
      · have hlt := hz.1 (by simpa using hc)
        refine AW.skip ?_; refine AW.seq ?_
        refine AW.draw (ps := [(7, 21)]) rfl rfl ?_
        (iterate 3 refine ze hT zr zr zr zr zr ?_); refine WT.addN zr zr zr zr zr zr (by omega) ?_; (iterate 3 refine ze hT zr zr zr zr zr ?_); refine WT.addN zr zr zr zr zr zr (by omega) ?_; (iterate 3 refine ze hT zr zr zr zr zr ?_); refine WT.addN zr zr zr zr zr zr (by omega) ?_
        refine WT.vidx hT hv3 zr zr zr zr zr zr zr zr zr (by omega) (fun bl3 hbl3 => ?_)
        refine WT.vldS hT 0 hv3 hbl3 (arr_at (by omega)) zr zr zr zr zr zr zr zr zr (fun l3 hl3 => ?_)
        (iterate 3 refine ze hT zr zr zr zr zr ?_); refine WT.addN zr zr zr zr zr zr (by omega) ?_
        refine WT.vidx hT hv3 zr zr zr zr zr zr zr zr zr (by omega) (fun bl4 hbl4 => ?_)
        refine WT.vldS hT 0 hv3 hbl4 (arr_at (by omega)) zr zr zr zr zr zr zr zr zr (fun l4 hl4 => ?_)
        refine WT.vidx hT hv3 zr zr zr zr zr zr zr zr zr (by omega) (fun bl5 hbl5 => ?_)
        refine WT.vst (y := u.d[fst + ch]!) hT 0 hv3 hbl5 (List.getElem?_eq_getElem (by simp; omega)) zr zr zr zr zr hl3 rfl (fun _ => rfl) rfl (fun Bl5 hBl5 => ?_)
        refine WT.vidx hT hBl5 zr zr zr zr zr zr zr zr zr (by omega) (fun bl6 hbl6 => ?_)
        refine WT.vst (y := u.d[fst + u.i]!) hT 0 hBl5 hbl6 (List.getElem?_eq_getElem (by simp; omega)) zr zr zr zr zr hl4 rfl (fun _ => rfl) rfl (fun Bl6 hBl6 => ?_)
        rw [← swp_list] at hBl6
        refine WT.nil ?_
        refine ⟨(by repeat (first | exact trivial | refine recs_pair rfl rfl (by first | exact keep0 | exact keep1 (keeps_frz (by assumption)) | exact kp 0 0 me me | exact kp 1 1 me me | exact kp 2 2 me me | exact kp 3 3 me me | exact kp 4 4 me me | exact kp 5 5 me me | exact kp 6 6 me me | exact kp 0 1 me me | exact kp 1 2 me me | exact kp 2 3 me me | exact kp 3 4 me me | exact kp 4 5 me me | exact kp 5 6 me me | exact kp 6 7 me me) ?_)), ?_⟩
        refine AW.reg ?_; (iterate 2 refine ze hT zr zr zr zr zr ?_); refine WT.nil ?_
        refine ⟨⟨ch, Go.Sort.swp u.d (fst + u.i) (fst + ch), Bl6⟩, by dsimp only; omega, SubK.of_map rfl, OwnLe.refl _, hBl6, by dsimp only; omega, ?_⟩
        rw [← heq, hceq, hlt, if_neg (by simp)]

theorem itHeap_spec (F : Frz) {lt : Item → Item → Bool} {g : Nat} {first capt : List Value} (hc : CmpOk tItem lt F g first capt) {a0 : Option Addr} {m c : Nat} {B : List (Nat × Blk)} {d : Array Item} (hv : Vec tItem F a0 m c B d.toList) (a b : Nat) (hab : a < b) (hb : b ≤ m) (hm : m ≤ 1000000) :
    Abs.Spec CC 153 [.slice a0 m c, .int .i64 a, .int .i64 b, .func (.func g) ⟨first⟩ ⟨capt⟩] F [B] fun F' v o => ∃ B', o = [B'] ∧ Vec tItem F' a0 m c B' (Go.Sort.heapSort lt d a b).toList := by
  refine Abs.Spec.fn (n := 60) Tryd.func153 rfl rfl fun own => ?_
  refine AW.seq ?_; refine AW.reg ?_; (iterate 2 refine ze hT zr zr zr zr zr ?_); refine WT.nil ?_; refine AW.seq ?_; refine AW.reg ?_; refine ze hT zr zr zr zr zr ?_; refine WT.nil ?_; refine AW.seq ?_; refine AW.reg ?_; (iterate 2 refine ze hT zr zr zr zr zr ?_); refine WT.subN zr zr zr zr zr zr (by omega) ?_; refine ze hT zr zr zr zr zr ?_; refine WT.nil ?_; (iterate 2 refine AW.seq ?_); refine AW.reg ?_; refine ze hT zr zr zr zr zr ?_; refine WT.sub1 zr zr zr zr zr zr (by omega) ?_
  refine WT.quoL 2 zr zr zr zr zr zr (by decide) (by omega) ?_
  refine ze hT zr zr zr zr zr ?_; refine WT.nil ?_
  refine AW.know (v' := .int .i64 ((((b - a - 1) / 2 + 1 : Nat) : Int) - 1)) 11 rfl (by congr 1; omega) ?_
  refine AW.jnT (S := VS Item) (fun _ => [(11, .int .i64 (((0 : Nat) : Int) - 1))]) (fun s => s.B :: own) (fun s G => Vec tItem G a0 m c s.B s.d.toList ∧ s.d = Go.Sort.heapBuild lt (b - a) a ((b - a - 1) / 2 + 1) d) ?_ (fun s F1 hF1 hP => ?_)
  · refine AW.block ?_
    refine AW.loopR (S := VS Item) (fun s => [(11, .int .i64 ((s.i : Int) - 1))]) (fun s => s.B :: own) (fun s G => Vec tItem G a0 m c s.B s.d.toList ∧ s.i ≤ 1000000 ∧ Go.Sort.heapBuild lt (b - a) a s.i s.d = Go.Sort.heapBuild lt (b - a) a ((b - a - 1) / 2 + 1) d) (fun s => s.i) ⟨(b - a - 1) / 2 + 1, d, B⟩
      (SubK.of_map rfl) (OwnLe.refl _) ⟨hv, by dsimp only; omega, rfl⟩ ?_
    intro u F2 hF2 hP2
    obtain ⟨hv2, hui, heq⟩ := hP2
    (iterate 2 refine AW.seq ?_); refine AW.reg ?_; (iterate 2 refine ze hT zr zr zr zr zr ?_); refine WT.nil ?_
    refine AW.cond rfl (fun h => ?_) (fun h => ?_)
    · have h : 1 ≤ u.i := by simp at h; omega
      refine AW.skip ?_; refine AW.seq ?_
      refine AW.block ?_
      refine AW.reg ?_; (iterate 5 refine ze hT zr zr zr zr zr ?_)
      refine WT.know (v' := .int .i64 ((u.i - 1 : Nat) : Int)) 25 rfl (by congr 1; omega) ?_
      skip
      refine WT.call1F 0 Tryd.func177 zr zr zr zr zr zr zr (fun _ => rfl) (itSift_spec _ (hc.mono hF2) hv2 (u.i - 1) (b - a) a (by omega) (by omega) hm) (fun F3 v B3 hF3 hv3 => ?_)
      refine WT.nil ?_
      refine AW.reg ?_
      refine WT.easy hT zr zr zr zr zr ?_
      refine WT.subT zr zr zr zr zr zr (by omega) ?_
      refine WT.know (v' := .int .i64 (((u.i - 1 : Nat) : Int) - 1)) 23 rfl (by congr 1; omega) ?_
      refine ze hT zr zr zr zr zr ?_; refine WT.nil ?_
      refine ⟨⟨u.i - 1, _, B3⟩, by dsimp only; omega, SubK.of_map rfl, OwnLe.refl _, hv3, by dsimp only; omega, ?_⟩
      rw [← heq]
      cases hi : u.i with
      | zero => omega
      | succ j => rfl
    · have h : u.i = 0 := by simp at h; omega
      refine AW.exit ?_
      skip
      refine ⟨⟨0, u.d, u.B⟩, SubK.of_map (by rw [h]; rfl), OwnLe.refl _, hv2, ?_⟩
      rw [← heq, h]; rfl
  · obtain ⟨hv1, hd1⟩ := hP
    refine AW.seq ?_; refine AW.reg ?_; refine ze hT zr zr zr zr zr ?_; refine WT.sub1 zr zr zr zr zr zr (by omega) ?_; refine ze hT zr zr zr zr zr ?_; refine WT.nil ?_
    refine AW.know (v' := .int .i64 (((b - a : Nat) : Int) - 1)) 12 rfl (by congr 1; omega) ?_
    refine AW.block ?_
    refine AW.loopR (S := VS Item) (fun s => [(12, .int .i64 ((s.i : Int) - 1))]) (fun s => s.B :: own) (fun s G => Vec tItem G a0 m c s.B s.d.toList ∧ s.i ≤ b - a ∧ Go.Sort.heapPop lt a s.i s.d = Go.Sort.heapSort lt d a b) (fun s => s.i) ⟨b - a, s.d, s.B⟩
      (SubK.of_map rfl) (OwnLe.refl _) ⟨hv1, Nat.le_refl _, by dsimp only; rw [hd1]; rfl⟩ ?_
    intro u F2 hF2 hP2
    obtain ⟨hv2, hui, heq⟩ := hP2
    have hsz : m = u.d.size := hv2.len
    (iterate 2 refine AW.seq ?_); refine AW.reg ?_; (iterate 2 refine ze hT zr zr zr zr zr ?_); refine WT.nil ?_
    refine AW.cond rfl (fun h => ?_) (fun h => ?_)
    · have h : 1 ≤ u.i := by simp at h; omega
      refine AW.skip ?_; refine AW.seq ?_
      refine AW.block ?_
      refine AW.seq (AW.draw (ps := [(5, 17)]) rfl rfl ?_)
      (iterate 5 refine ze hT zr zr zr zr zr ?_); refine za zr zr zr zr zr zr (by omega) ?_; (iterate 3 refine ze hT zr zr zr zr zr ?_); refine za zr zr zr zr zr zr (by omega) ?_
      refine WT.know (v' := .int .i64 ((a + (u.i - 1) : Nat) : Int)) 41 rfl (by congr 1; omega) ?_
      skip
      refine WT.know (v' := .int .i64 ((a + (u.i - 1) : Nat) : Int)) 45 rfl (by congr 1; omega) ?_
      refine WT.vidx hT hv2 zr zr zr zr zr zr zr zr zr (by omega) (fun bl3 hbl3 => ?_)
      refine WT.vldS hT 0 hv2 hbl3 (arr_at (by omega)) zr zr zr zr zr zr zr zr zr (fun l3 hl3 => ?_)
      (iterate 2 refine ze hT zr zr zr zr zr ?_)
      refine WT.vidx hT hv2 zr zr zr zr zr zr zr zr zr (by omega) (fun bl4 hbl4 => ?_)
      refine WT.vldS hT 0 hv2 hbl4 (arr_at (by omega)) zr zr zr zr zr zr zr zr zr (fun l4 hl4 => ?_)
      refine WT.vidx hT hv2 zr zr zr zr zr zr zr zr zr (by omega) (fun bl5 hbl5 => ?_)
      refine WT.vst (y := u.d[a + (u.i - 1)]!) hT 0 hv2 hbl5 (List.getElem?_eq_getElem (by simp; omega)) zr zr zr zr zr hl3 rfl (fun _ => rfl) rfl (fun Bl5 hBl5 => ?_)
      refine WT.vidx hT hBl5 zr zr zr zr zr zr zr zr zr (by omega) (fun bl6 hbl6 => ?_)
      refine WT.vst (y := u.d[a]!) hT 0 hBl5 hbl6 (List.getElem?_eq_getElem (by simp; omega)) zr zr zr zr zr hl4 rfl (fun _ => rfl) rfl (fun Bl6 hBl6 => ?_)
      rw [← swp_list] at hBl6
      refine WT.nil ?_
      refine ⟨(by repeat (first | exact trivial | refine recs_pair rfl rfl (by first | exact keep0 | exact keep1 (keeps_frz (by assumption)) | exact kp 0 0 me me | exact kp 1 1 me me | exact kp 2 2 me me | exact kp 3 3 me me | exact kp 4 4 me me | exact kp 5 5 me me | exact kp 6 6 me me | exact kp 0 1 me me | exact kp 1 2 me me | exact kp 2 3 me me | exact kp 3 4 me me | exact kp 4 5 me me | exact kp 5 6 me me | exact kp 6 7 me me) ?_)), ?_⟩
      refine AW.reg ?_; (iterate 5 refine ze hT zr zr zr zr zr ?_)
      refine WT.know (v' := .int .i64 ((u.i - 1 : Nat) : Int)) 56 rfl (by congr 1; omega) ?_
      refine WT.know (v' := .int .i64 ((0 : Nat) : Int)) 55 rfl rfl ?_
      skip
      refine WT.call1F 0 Tryd.func177 zr zr zr zr zr zr zr (fun _ => rfl) (itSift_spec _ ((hc.mono hF1).mono hF2) hBl6 0 (u.i - 1) a (by omega) (by omega) hm) (fun F3 v B3 hF3 hv3 => ?_)
      refine WT.nil ?_
      refine AW.reg ?_
      refine WT.easy hT zr zr zr zr zr ?_
      refine WT.subT zr zr zr zr zr zr (by omega) ?_
      refine WT.know (v' := .int .i64 (((u.i - 1 : Nat) : Int) - 1)) 35 rfl (by congr 1; omega) ?_
      refine ze hT zr zr zr zr zr ?_; refine WT.nil ?_
      refine ⟨⟨u.i - 1, _, B3⟩, by dsimp only; omega, SubK.of_map rfl, OwnLe.refl _, hv3, by dsimp only; omega, ?_⟩
      rw [← heq]
      cases hi : u.i with
      | zero => omega
      | succ j => rfl
    · have h : u.i = 0 := by simp at h; omega
      refine AW.exit ?_
      skip
      refine ⟨_, [_], rfl, (by repeat (first | exact List.Sublist.refl _ | refine List.Sublist.cons _ ?_)), _, rfl, ?_⟩
      rw [← heq, h]
      exact hv2

theorem itRev_spec (F : Frz) {cv : Value} {a0 : Option Addr} {m c : Nat} {B : List (Nat × Blk)} {d : Array Item} (hv : Vec tItem F a0 m c B d.toList) (a b : Nat) (hab : a < b) (hb : b ≤ m) (hm : m ≤ 1000000) :
    Abs.Spec CC 156 [.slice a0 m c, .int .i64 a, .int .i64 b, cv] F [B] fun F' v o => ∃ B', o = [B'] ∧ Vec tItem F' a0 m c B' (Go.Sort.reverseRange d a b).toList := by
  refine Abs.Spec.fn (n := 34) Tryd.func156 rfl rfl fun own => ?_
  refine AW.seq ?_; refine AW.reg ?_; (iterate 2 refine ze hT zr zr zr zr zr ?_); refine WT.nil ?_; refine AW.seq ?_; refine AW.reg ?_; refine ze hT zr zr zr zr zr ?_; refine WT.sub1 zr zr zr zr zr zr (by omega) ?_; refine ze hT zr zr zr zr zr ?_; refine WT.nil ?_
  refine AW.block ?_
  refine AW.loopR (S := Nat × VS Item) (fun s => [(8, .int .i64 (s.2.i : Nat)), (9, .int .i64 (s.1 : Nat))]) (fun s => s.2.B :: own) (fun s G => Vec tItem G a0 m c s.2.B s.2.d.toList ∧ s.1 < m ∧ s.2.i ≤ m ∧ Go.Sort.reverseLoop s.2.i s.1 s.2.d = Go.Sort.reverseRange d a b) (fun s => s.1 - s.2.i) (b - 1, ⟨a, d, B⟩)
    (SubK.of_map rfl) (OwnLe.refl _) ⟨hv, by dsimp only; omega, by dsimp only; omega, rfl⟩ ?_
  intro u F2 hF2 hP2
  obtain ⟨hv2, hj, hi, heq⟩ := hP2
  have hsz : m = u.2.d.size := hv2.len
  (iterate 2 refine AW.seq ?_); refine AW.reg ?_; (iterate 3 refine ze hT zr zr zr zr zr ?_); refine WT.nil ?_
  refine AW.cond rfl (fun h => ?_) (fun h => ?_)
  · have h : u.2.i < u.1 := by simp at h; omega
    refine AW.skip ?_
    refine AW.block ?_
    refine AW.seq ?_; refine AW.draw (ps := []) zr zr ?_; (iterate 6 refine ze hT zr zr zr zr zr ?_)
    refine WT.vidx hT hv2 zr zr zr zr zr zr zr zr zr (by omega) (fun bl3 hbl3 => ?_)
    refine WT.vldS hT 0 hv2 hbl3 (arr_at (by omega)) zr zr zr zr zr zr zr zr zr (fun l3 hl3 => ?_)
    (iterate 2 refine ze hT zr zr zr zr zr ?_)
    refine WT.vidx hT hv2 zr zr zr zr zr zr zr zr zr (by omega) (fun bl4 hbl4 => ?_)
    refine WT.vldS hT 0 hv2 hbl4 (arr_at (by omega)) zr zr zr zr zr zr zr zr zr (fun l4 hl4 => ?_)
    refine WT.vidx hT hv2 zr zr zr zr zr zr zr zr zr (by omega) (fun bl5 hbl5 => ?_)
    refine WT.vst (y := u.2.d[u.1]!) hT 0 hv2 hbl5 (List.getElem?_eq_getElem (by simp; omega)) zr zr zr zr zr hl3 rfl (fun _ => rfl) rfl (fun Bl5 hBl5 => ?_)
    refine WT.vidx hT hBl5 zr zr zr zr zr zr zr zr zr (by omega) (fun bl6 hbl6 => ?_)
    refine WT.vst (y := u.2.d[u.2.i]!) hT 0 hBl5 hbl6 (List.getElem?_eq_getElem (by simp; omega)) zr zr zr zr zr hl4 rfl (fun _ => rfl) rfl (fun Bl6 hBl6 => ?_)
    rw [← swp_list] at hBl6
    refine WT.nil ?_; refine And.intro trivial ?_; refine AW.seq ?_; refine AW.reg ?_; refine ze hT zr zr zr zr zr ?_; refine WT.add1 zr zr zr zr zr zr (by omega) ?_; refine ze hT zr zr zr zr zr ?_; refine WT.nil ?_; refine AW.reg ?_; refine ze hT zr zr zr zr zr ?_; refine WT.sub1 zr zr zr zr zr zr (by omega) ?_; refine ze hT zr zr zr zr zr ?_; refine WT.nil ?_
    refine ⟨(u.1 - 1, ⟨u.2.i + 1, Go.Sort.swp u.2.d u.2.i u.1, Bl6⟩), by dsimp only; omega, SubK.of_map rfl, OwnLe.refl _, hBl6, by dsimp only; omega, by dsimp only; omega, ?_⟩
    rw [← heq]
    conv => rhs; rw [Go.Sort.reverseLoop]
    rw [if_pos h]
  · have h : ¬ u.2.i < u.1 := by simp at h; omega
    refine AW.exit ?_
    skip
    refine ⟨_, [_], rfl, (by repeat (first | exact List.Sublist.refl _ | refine List.Sublist.cons _ ?_)), _, rfl, ?_⟩
    rw [← heq, Go.Sort.reverseLoop, if_neg h]
    exact hv2

theorem itPart_spec (F : Frz) {lt : Item → Item → Bool} {g : Nat} {first capt : List Value} (hc : CmpOk tItem lt F g first capt) {a0 : Option Addr} {m c : Nat} {B : List (Nat × Blk)} {d : Array Item} (hv : Vec tItem F a0 m c B d.toList) (a b pivot : Nat) (hp1 : a ≤ pivot) (hp2 : pivot < b) (hb : b ≤ m) (hm : m ≤ 1000000) :
    Abs.Spec CC 159 [.slice a0 m c, .int .i64 a, .int .i64 b, .int .i64 pivot, .func (.func g) ⟨first⟩ ⟨capt⟩] F [B] fun F' v o => ∃ B', o = [B'] ∧ v = .tuple ⟨[.int .i64 ((Go.Sort.partition lt d a b pivot).1 : Nat), .bool (Go.Sort.partition lt d a b pivot).2.1]⟩ ∧ Vec tItem F' a0 m c B' (Go.Sort.partition lt d a b pivot).2.2.toList := by
  obtain ⟨⟨fn, hg, hgb⟩, hcmp⟩ := hc
  have hsz : m = d.size := hv.len
  refine Abs.Spec.fn (n := 178) Tryd.func159 rfl rfl fun own => ?_
  refine AW.seq ?_; refine AW.reg ?_; (iterate 2 refine ze hT zr zr zr zr zr ?_); refine WT.nil ?_; refine AW.seq ?_; refine AW.draw (ps := []) zr zr ?_; (iterate 6 refine ze hT zr zr zr zr zr ?_)
  refine WT.vidx hT hv zr zr zr zr zr zr zr zr zr (by omega) (fun bl1 hbl1 => ?_)
  refine WT.vldS hT 0 hv hbl1 (arr_at (by omega)) zr zr zr zr zr zr zr zr zr (fun l1 hl1 => ?_)
  (iterate 2 refine ze hT zr zr zr zr zr ?_)
  refine WT.vidx hT hv zr zr zr zr zr zr zr zr zr (by omega) (fun bl2 hbl2 => ?_)
  refine WT.vldS hT 0 hv hbl2 (arr_at (by omega)) zr zr zr zr zr zr zr zr zr (fun l2 hl2 => ?_)
  refine WT.vidx hT hv zr zr zr zr zr zr zr zr zr (by omega) (fun bl3 hbl3 => ?_)
  refine WT.vst (y := d[pivot]!) hT 0 hv hbl3 (List.getElem?_eq_getElem (by simp; omega)) zr zr zr zr zr hl1 rfl (fun _ => rfl) rfl (fun Bl3 hBl3 => ?_)
  refine WT.vidx hT hBl3 zr zr zr zr zr zr zr zr zr (by omega) (fun bl4 hbl4 => ?_)
  refine WT.vst (y := d[a]!) hT 0 hBl3 hbl4 (List.getElem?_eq_getElem (by simp; omega)) zr zr zr zr zr hl2 rfl (fun _ => rfl) rfl (fun Bl4 hBl4 => ?_)
  rw [← swp_list] at hBl4
  obtain ⟨d1, hd1⟩ : ∃ d1, Go.Sort.swp d a pivot = d1 := ⟨_, rfl⟩
  rw [hd1] at hBl4
  have hsz1 : m = d1.size := hBl4.len
  refine WT.nil ?_; refine And.intro trivial ?_; refine AW.seq ?_; refine AW.reg ?_; refine ze hT zr zr zr zr zr ?_; refine WT.add1 zr zr zr zr zr zr (by omega) ?_; refine ze hT zr zr zr zr zr ?_; refine WT.sub1 zr zr zr zr zr zr (by omega) ?_; (iterate 2 refine ze hT zr zr zr zr zr ?_); refine WT.nil ?_; refine AW.seq ?_
  obtain ⟨i1, hi1⟩ : ∃ i1, Go.Sort.scanUp (fun x => lt x d1[a]!) d1 (b - 1) (a + 1) = i1 := ⟨_, rfl⟩
  obtain ⟨j1, hj1⟩ : ∃ j1, Go.Sort.scanDown (fun x => !lt x d1[a]!) d1 i1 (b - 1) = j1 := ⟨_, rfl⟩
  obtain ⟨u1, u2, u3, u4⟩ := Go.Sort.scanUp_spec (fun x => lt x d1[a]!) d1 (b - 1) _ (a + 1) rfl
  obtain ⟨v1, v2, v3, v4⟩ := Go.Sort.scanDown_spec (fun x => !lt x d1[a]!) d1 i1 (b - 1)
  rw [hi1] at u1 u2 u4
  rw [hj1] at v1 v2 v4
  have u2 := u2 (by omega)
  have v2 := v2 (by omega)
  refine AW.jnT (S := Unit) (fun _ => [(12, .int .i64 (Go.Sort.scanUp (fun x => lt x d1[a]!) d1 (b - 1) (a + 1) : Nat))]) (fun _ => (Bl4 :: own)) (fun _ _ => True) ?_ (fun _ F1 hF1 _ => ?_)
  · refine AW.block ?_
    refine AW.loopR (S := Nat) (fun i => [(12, .int .i64 (i : Nat))]) (fun _ => (Bl4 :: own)) (fun i _ => (a + 1) ≤ i ∧ i ≤ (b - 1) + 1 ∧ Go.Sort.scanUp (fun x => lt x d1[a]!) d1 (b - 1) i = Go.Sort.scanUp (fun x => lt x d1[a]!) d1 (b - 1) (a + 1)) (fun i => (b - 1) + 1 - i) (a + 1) (SubK.of_map rfl) (OwnLe.refl _) ⟨Nat.le_refl _, by omega, rfl⟩ ?_
    intro i G hG hP
    obtain ⟨hi1, hi2, hi3⟩ := hP
    have hvG := hBl4.mono hG
    (iterate 2 refine AW.seq ?_); refine AW.draw (ps := []) zr zr ?_; (iterate 4 refine ze hT zr zr zr zr zr ?_)
    refine WT.split 35 rfl (fun h => ?_) (fun h => ?_)
    · have h : i ≤ (b - 1) := by simp at h; omega
      (iterate 3 refine ze hT zr zr zr zr zr ?_)
      refine WT.vidx hT hvG zr zr zr zr zr zr zr zr zr (by omega) (fun bl1 hbl1 => ?_)
      refine WT.vldS hT 0 hvG hbl1 (arr_at (by omega)) zr zr zr zr zr zr zr zr zr (fun l1 hl1 => ?_)
      (iterate 2 refine ze hT zr zr zr zr zr ?_)
      refine WT.vidx hT hvG zr zr zr zr zr zr zr zr zr (by omega) (fun bl2 hbl2 => ?_)
      refine WT.vldS hT 0 hvG hbl2 (arr_at (by omega)) zr zr zr zr zr zr zr zr zr (fun l2 hl2 => ?_)
      refine WT.callC hg hgb zr zr zr zr zr zr zr (hcmp G ((Frz.le.refl F).trans hG) l1 l2 _ _ hl1 hl2) (fun v hvz => ?_)
      obtain ⟨z, rfl, hz⟩ := hvz
      (iterate 2 refine ze hT zr zr zr zr zr ?_); refine WT.nil ?_; refine And.intro trivial ?_
      refine AW.cond rfl (fun hc => ?_) (fun hc => ?_)
      · have hlt := hz.1 (by simpa using hc)
        refine AW.skip ?_
        refine AW.block ?_
        refine AW.reg ?_; refine ze hT zr zr zr zr zr ?_; refine WT.add1 zr zr zr zr zr zr (by omega) ?_; refine ze hT zr zr zr zr zr ?_; refine WT.nil ?_
        refine ⟨i + 1, by omega, SubK.of_map rfl, OwnLe.refl _, by omega, by omega, ?_⟩
        rw [← hi3]
        conv => rhs; rw [Go.Sort.scanUp]
        rw [if_pos (by simp [h, hlt])]
      · have hlt := (Bool.eq_false_iff.2 (fun hh => absurd (hz.2 hh) (by simpa using hc)) : lt d1[i]! d1[a]! = false)
        refine AW.exit ?_
        refine ⟨(), SubK.of_map (by rw [← hi3, Go.Sort.scanUp, if_neg (by simp [hlt])]; rfl), OwnLe.refl _, trivial⟩
    · have h : ¬ i ≤ (b - 1) := by simp at h; omega
      (iterate 11 refine zx zr zr zr zr ?_); refine ze hT zr zr zr zr zr ?_; refine WT.nil ?_; refine And.intro trivial ?_
      refine AW.cond rfl (fun h => (by cases h)) (fun _ => ?_)
      refine AW.exit ?_
      refine ⟨(), SubK.of_map (by rw [← hi3, Go.Sort.scanUp, if_neg (by simp [h])]; rfl), OwnLe.refl _, trivial⟩
  rw [hi1]
  have hv1 := hBl4.mono hF1
  refine AW.seq ?_
  refine AW.jnT (S := Unit) (fun _ => [(13, .int .i64 (Go.Sort.scanDown (fun x => !lt x d1[a]!) d1 i1 (b - 1) : Nat))]) (fun _ => (Bl4 :: own)) (fun _ _ => True) ?_ (fun _ F2 hF2 _ => ?_)
  · refine AW.block ?_
    refine AW.loopR (S := Nat) (fun j => [(13, .int .i64 (j : Nat))]) (fun _ => (Bl4 :: own)) (fun j _ => j ≤ (b - 1) ∧ i1 ≤ j + 1 ∧ Go.Sort.scanDown (fun x => !lt x d1[a]!) d1 i1 j = Go.Sort.scanDown (fun x => !lt x d1[a]!) d1 i1 (b - 1)) (fun j => j) (b - 1) (SubK.of_map rfl) (OwnLe.refl _) ⟨Nat.le_refl _, by omega, rfl⟩ ?_
    intro j G hG hP
    obtain ⟨hj1, hj2, hj3⟩ := hP
    have hvG := hv1.mono hG
    have one : ∀ q, i1 ≤ j → (fun x => !lt x d1[a]!) d1[j]! = q → Go.Sort.scanDown (fun x => !lt x d1[a]!) d1 i1 j = if q = true then Go.Sort.scanDown (fun x => !lt x d1[a]!) d1 i1 (j - 1) else j := by
      intro q h1 h2
      cases j with
      | zero => omega
      | succ k =>
        rw [Go.Sort.scanDown, Nat.add_sub_cancel]
        subst h2
        simp [h1]
    (iterate 2 refine AW.seq ?_); refine AW.draw (ps := []) zr zr ?_; (iterate 4 refine ze hT zr zr zr zr zr ?_)
    refine WT.split 53 rfl (fun h => ?_) (fun h => ?_)
    · have h : i1 ≤ j := by simp at h; omega
      (iterate 3 refine ze hT zr zr zr zr zr ?_)
      refine WT.vidx hT hvG zr zr zr zr zr zr zr zr zr (by omega) (fun bl1 hbl1 => ?_)
      refine WT.vldS hT 0 hvG hbl1 (arr_at (by omega)) zr zr zr zr zr zr zr zr zr (fun l1 hl1 => ?_)
      (iterate 2 refine ze hT zr zr zr zr zr ?_)
      refine WT.vidx hT hvG zr zr zr zr zr zr zr zr zr (by omega) (fun bl2 hbl2 => ?_)
      refine WT.vldS hT 0 hvG hbl2 (arr_at (by omega)) zr zr zr zr zr zr zr zr zr (fun l2 hl2 => ?_)
      refine WT.callC hg hgb zr zr zr zr zr zr zr (hcmp G (hF1.trans hG) l1 l2 _ _ hl1 hl2) (fun v hvz => ?_)
      obtain ⟨z, rfl, hz⟩ := hvz
      (iterate 3 refine ze hT zr zr zr zr zr ?_); refine WT.nil ?_; refine And.intro trivial ?_
      refine AW.cond rfl (fun hc => ?_) (fun hc => ?_)
      · have hlt := (Bool.eq_false_iff.2 (fun hh => absurd (hz.2 hh) (by simpa using hc)) : lt d1[j]! d1[a]! = false)
        refine AW.skip ?_
        refine AW.block ?_
        refine AW.reg ?_; refine ze hT zr zr zr zr zr ?_; refine WT.sub1 zr zr zr zr zr zr (by omega) ?_; refine ze hT zr zr zr zr zr ?_; refine WT.nil ?_
        refine ⟨j - 1, by omega, SubK.of_map rfl, OwnLe.refl _, by omega, by omega, ?_⟩
        rw [← hj3, one true h (by simp [hlt]), if_pos rfl]
      · have hlt := hz.1 (by simpa using hc)
        refine AW.exit ?_
        refine ⟨(), SubK.of_map (by rw [← hj3, one false h (by simp [hlt]), if_neg (by decide)]; rfl), OwnLe.refl _, trivial⟩
    · have h : ¬ i1 ≤ j := by simp at h; omega
      (iterate 12 refine zx zr zr zr zr ?_); refine ze hT zr zr zr zr zr ?_; refine WT.nil ?_; refine And.intro trivial ?_
      refine AW.cond rfl (fun h => (by cases h)) (fun _ => ?_)
      refine AW.exit ?_
      have e : Go.Sort.scanDown (fun x => !lt x d1[a]!) d1 i1 j = j := by
        cases j with
        | zero => rfl
        | succ k => rw [Go.Sort.scanDown, if_neg (by simp; omega)]
      refine ⟨(), SubK.of_map (by rw [← hj3, e]; rfl), OwnLe.refl _, trivial⟩
  rw [hj1]
  have hv2 := hv1.mono hF2
  (iterate 2 refine AW.seq ?_); refine AW.reg ?_; (iterate 3 refine ze hT zr zr zr zr zr ?_); refine WT.nil ?_
  have hpart : Go.Sort.partition lt d a b pivot = if i1 > j1 then (j1, true, Go.Sort.swp d1 j1 a) else
      ((Go.Sort.partLoop lt a (i1 + 1) (j1 - 1) (Go.Sort.swp d1 i1 j1)).1, false, Go.Sort.swp (Go.Sort.partLoop lt a (i1 + 1) (j1 - 1) (Go.Sort.swp d1 i1 j1)).2 (Go.Sort.partLoop lt a (i1 + 1) (j1 - 1) (Go.Sort.swp d1 i1 j1)).1 a) := by
    simp only [Go.Sort.partition, hd1, hi1, hj1]
  refine AW.cond rfl (fun h => ?_) (fun h => ?_)
  · have h : j1 < i1 := by simp at h; omega
    refine AW.seq ?_; refine AW.draw (ps := []) zr zr ?_; (iterate 6 refine ze hT zr zr zr zr zr ?_)
    refine WT.vidx hT hv2 zr zr zr zr zr zr zr zr zr (by omega) (fun bl1 hbl1 => ?_)
    refine WT.vldS hT 0 hv2 hbl1 (arr_at (by omega)) zr zr zr zr zr zr zr zr zr (fun l1 hl1 => ?_)
    (iterate 2 refine ze hT zr zr zr zr zr ?_)
    refine WT.vidx hT hv2 zr zr zr zr zr zr zr zr zr (by omega) (fun bl2 hbl2 => ?_)
    refine WT.vldS hT 0 hv2 hbl2 (arr_at (by omega)) zr zr zr zr zr zr zr zr zr (fun l2 hl2 => ?_)
    refine WT.vidx hT hv2 zr zr zr zr zr zr zr zr zr (by omega) (fun bl3 hbl3 => ?_)
    refine WT.vst (y := d1[a]!) hT 0 hv2 hbl3 (List.getElem?_eq_getElem (by simp; omega)) zr zr zr zr zr hl1 rfl (fun _ => rfl) rfl (fun Bl3 hBl3 => ?_)
    refine WT.vidx hT hBl3 zr zr zr zr zr zr zr zr zr (by omega) (fun bl4 hbl4 => ?_)
    refine WT.vst (y := d1[j1]!) hT 0 hBl3 hbl4 (List.getElem?_eq_getElem (by simp; omega)) zr zr zr zr zr hl2 rfl (fun _ => rfl) rfl (fun Bl4 hBl4 => ?_)
    rw [← swp_list] at hBl4
    refine WT.nil ?_; refine And.intro trivial ?_; refine AW.seq ?_; refine AW.reg ?_; (iterate 3 refine ze hT zr zr zr zr zr ?_); refine WT.nil ?_
    refine AW.ret ⟨_, [_], ⟨_, _, rfl, ⟨_, _, rfl, rfl, rfl⟩, rfl⟩, (by repeat (first | exact List.Sublist.refl _ | refine List.Sublist.cons _ ?_)), _, rfl, ?_, ?_⟩
    · rw [hpart, if_pos h]; rfl
    · rw [hpart, if_pos h]; exact hBl4
  · have h : ¬ j1 < i1 := by simp at h; omega
    have hlt1 : i1 < j1 := by
      rcases Nat.lt_or_ge i1 j1 with h1 | h1
      · exact h1
      · obtain rfl : i1 = j1 := by omega
        have e1 := u4 (by omega)
        have e2 := v4 (Nat.le_refl _) (by omega)
        rw [e1] at e2
        cases e2
    rw [if_neg h] at hpart
    refine AW.skip ?_; refine AW.seq ?_; refine AW.draw (ps := []) zr zr ?_; (iterate 6 refine ze hT zr zr zr zr zr ?_)
    refine WT.vidx hT hv2 zr zr zr zr zr zr zr zr zr (by omega) (fun bl1 hbl1 => ?_)
    refine WT.vldS hT 0 hv2 hbl1 (arr_at (by omega)) zr zr zr zr zr zr zr zr zr (fun l1 hl1 => ?_)
    (iterate 2 refine ze hT zr zr zr zr zr ?_)
    refine WT.vidx hT hv2 zr zr zr zr zr zr zr zr zr (by omega) (fun bl2 hbl2 => ?_)
    refine WT.vldS hT 0 hv2 hbl2 (arr_at (by omega)) zr zr zr zr zr zr zr zr zr (fun l2 hl2 => ?_)
    refine WT.vidx hT hv2 zr zr zr zr zr zr zr zr zr (by omega) (fun bl3 hbl3 => ?_)
    refine WT.vst (y := d1[j1]!) hT 0 hv2 hbl3 (List.getElem?_eq_getElem (by simp; omega)) zr zr zr zr zr hl1 rfl (fun _ => rfl) rfl (fun Bl3 hBl3 => ?_)
    refine WT.vidx hT hBl3 zr zr zr zr zr zr zr zr zr (by omega) (fun bl4 hbl4 => ?_)
    refine WT.vst (y := d1[i1]!) hT 0 hBl3 hbl4 (List.getElem?_eq_getElem (by simp; omega)) zr zr zr zr zr hl2 rfl (fun _ => rfl) rfl (fun Bl4 hBl4 => ?_)
    rw [← swp_list] at hBl4
    refine WT.nil ?_; refine And.intro trivial ?_; refine AW.seq ?_; refine AW.reg ?_; refine ze hT zr zr zr zr zr ?_; refine WT.add1 zr zr zr zr zr zr (by omega) ?_; refine ze hT zr zr zr zr zr ?_; refine WT.nil ?_; refine AW.seq ?_; refine AW.reg ?_; refine ze hT zr zr zr zr zr ?_; refine WT.sub1 zr zr zr zr zr zr (by omega) ?_; refine ze hT zr zr zr zr zr ?_; refine WT.nil ?_; refine AW.seq ?_
    refine AW.jnT (S := Nat × VS Item) (fun s => [(12, .int .i64 (s.1 : Nat)), (13, .int .i64 (s.2.i : Nat))]) (fun s => s.2.B :: own) (fun s G => Vec tItem G a0 m c s.2.B s.2.d.toList ∧ a ≤ s.2.i ∧ s.2.i < b ∧ (s.2.i, s.2.d) = Go.Sort.partLoop lt a (i1 + 1) (j1 - 1) (Go.Sort.swp d1 i1 j1)) ?_ (fun s F3 hF3 hP => ?_)
    · refine AW.block ?_
      refine AW.loopR (S := Nat × VS Item) (fun s => [(12, .int .i64 (s.1 : Nat)), (13, .int .i64 (s.2.i : Nat))]) (fun s => s.2.B :: own) (fun s G => Vec tItem G a0 m c s.2.B s.2.d.toList ∧ a < s.1 ∧ s.1 ≤ s.2.i + 1 ∧ s.2.i < b ∧ Go.Sort.partLoop lt a s.1 s.2.i s.2.d = Go.Sort.partLoop lt a (i1 + 1) (j1 - 1) (Go.Sort.swp d1 i1 j1)) (fun s => s.2.i + 1 - s.1) (i1 + 1, ⟨j1 - 1, Go.Sort.swp d1 i1 j1, Bl4⟩)
        (SubK.of_map rfl) (OwnLe.refl _) ⟨hBl4, by dsimp only; omega, by dsimp only; omega, by dsimp only; omega, rfl⟩ ?_
      intro u F4 hF4 hP4
      obtain ⟨hv4, ha4, hij4, hb4, heq4⟩ := hP4
      have hF4' := (hF1.trans hF2).trans hF4
      have hsz4 : m = u.2.d.size := hv4.len
      obtain ⟨i2, hi2⟩ : ∃ i2, Go.Sort.scanUp (fun x => lt x u.2.d[a]!) u.2.d u.2.i u.1 = i2 := ⟨_, rfl⟩
      obtain ⟨j2, hj2⟩ : ∃ j2, Go.Sort.scanDown (fun x => !lt x u.2.d[a]!) u.2.d i2 u.2.i = j2 := ⟨_, rfl⟩
      obtain ⟨w1, w2, w3, w4⟩ := Go.Sort.scanUp_spec (fun x => lt x u.2.d[a]!) u.2.d u.2.i _ u.1 rfl
      obtain ⟨x1, x2, x3, x4⟩ := Go.Sort.scanDown_spec (fun x => !lt x u.2.d[a]!) u.2.d i2 u.2.i
      rw [hi2] at w1 w2 w4
      rw [hj2] at x1 x2 x4
      have w2 := w2 hij4
      have x2 := x2 (by omega)
      have hloop := Go.Sort.partLoop_eq lt a u.1 u.2.i u.2.d
      rw [hi2, hj2, heq4] at hloop
      refine AW.block ?_
      refine AW.seq ?_
      refine AW.jnT (S := Unit) (fun _ => [(12, .int .i64 (Go.Sort.scanUp (fun x => lt x u.2.d[a]!) u.2.d u.2.i u.1 : Nat))]) (fun _ => (u.2.B :: own)) (fun _ _ => True) ?_ (fun _ F5 hF5 _ => ?_)
      · refine AW.block ?_
        refine AW.loopR (S := Nat) (fun i => [(12, .int .i64 (i : Nat))]) (fun _ => (u.2.B :: own)) (fun i _ => u.1 ≤ i ∧ i ≤ u.2.i + 1 ∧ Go.Sort.scanUp (fun x => lt x u.2.d[a]!) u.2.d u.2.i i = Go.Sort.scanUp (fun x => lt x u.2.d[a]!) u.2.d u.2.i u.1) (fun i => u.2.i + 1 - i) u.1 (SubK.of_map rfl) (OwnLe.refl _) ⟨Nat.le_refl _, by omega, rfl⟩ ?_
        intro i G hG hP
        obtain ⟨hi1, hi2, hi3⟩ := hP
        have hvG := hv4.mono hG
        (iterate 2 refine AW.seq ?_); refine AW.draw (ps := []) zr zr ?_; (iterate 4 refine ze hT zr zr zr zr zr ?_)
        refine WT.split 108 rfl (fun h => ?_) (fun h => ?_)
        · have h : i ≤ u.2.i := by simp at h; omega
          (iterate 3 refine ze hT zr zr zr zr zr ?_)
          refine WT.vidx hT hvG zr zr zr zr zr zr zr zr zr (by omega) (fun bl1 hbl1 => ?_)
          refine WT.vldS hT 0 hvG hbl1 (arr_at (by omega)) zr zr zr zr zr zr zr zr zr (fun l1 hl1 => ?_)
          (iterate 2 refine ze hT zr zr zr zr zr ?_)
          refine WT.vidx hT hvG zr zr zr zr zr zr zr zr zr (by omega) (fun bl2 hbl2 => ?_)
          refine WT.vldS hT 0 hvG hbl2 (arr_at (by omega)) zr zr zr zr zr zr zr zr zr (fun l2 hl2 => ?_)
          refine WT.callC hg hgb zr zr zr zr zr zr zr (hcmp G (hF4'.trans hG) l1 l2 _ _ hl1 hl2) (fun v hvz => ?_)
          obtain ⟨z, rfl, hz⟩ := hvz
          (iterate 2 refine ze hT zr zr zr zr zr ?_); refine WT.nil ?_; refine And.intro trivial ?_
          refine AW.cond rfl (fun hc => ?_) (fun hc => ?_)
          · have hlt := hz.1 (by simpa using hc)
            refine AW.skip ?_
            refine AW.block ?_
            refine AW.reg ?_; refine ze hT zr zr zr zr zr ?_; refine WT.add1 zr zr zr zr zr zr (by omega) ?_; refine ze hT zr zr zr zr zr ?_; refine WT.nil ?_
            refine ⟨i + 1, by omega, SubK.of_map rfl, OwnLe.refl _, by omega, by omega, ?_⟩
            rw [← hi3]
            conv => rhs; rw [Go.Sort.scanUp]
            rw [if_pos (by simp [h, hlt])]
          · have hlt := (Bool.eq_false_iff.2 (fun hh => absurd (hz.2 hh) (by simpa using hc)) : lt u.2.d[i]! u.2.d[a]! = false)
            refine AW.exit ?_
            refine ⟨(), SubK.of_map (by rw [← hi3, Go.Sort.scanUp, if_neg (by simp [hlt])]; rfl), OwnLe.refl _, trivial⟩
        · have h : ¬ i ≤ u.2.i := by simp at h; omega
          (iterate 11 refine zx zr zr zr zr ?_); refine ze hT zr zr zr zr zr ?_; refine WT.nil ?_; refine And.intro trivial ?_
          refine AW.cond rfl (fun h => (by cases h)) (fun _ => ?_)
          refine AW.exit ?_
          refine ⟨(), SubK.of_map (by rw [← hi3, Go.Sort.scanUp, if_neg (by simp [h])]; rfl), OwnLe.refl _, trivial⟩
      rw [hi2]
      have hv5 := hv4.mono hF5
      have hF5' := hF4'.trans hF5
      refine AW.seq ?_
      refine AW.jnT (S := Unit) (fun _ => [(13, .int .i64 (Go.Sort.scanDown (fun x => !lt x u.2.d[a]!) u.2.d i2 u.2.i : Nat))]) (fun _ => (u.2.B :: own)) (fun _ _ => True) ?_ (fun _ F6 hF6 _ => ?_)
      · refine AW.block ?_
        refine AW.loopR (S := Nat) (fun j => [(13, .int .i64 (j : Nat))]) (fun _ => (u.2.B :: own)) (fun j _ => j ≤ u.2.i ∧ i2 ≤ j + 1 ∧ Go.Sort.scanDown (fun x => !lt x u.2.d[a]!) u.2.d i2 j = Go.Sort.scanDown (fun x => !lt x u.2.d[a]!) u.2.d i2 u.2.i) (fun j => j) u.2.i (SubK.of_map rfl) (OwnLe.refl _) ⟨Nat.le_refl _, by omega, rfl⟩ ?_
        intro j G hG hP
        obtain ⟨hj1, hj2, hj3⟩ := hP
        have hvG := hv5.mono hG
        have one : ∀ q, i2 ≤ j → (fun x => !lt x u.2.d[a]!) u.2.d[j]! = q → Go.Sort.scanDown (fun x => !lt x u.2.d[a]!) u.2.d i2 j = if q = true then Go.Sort.scanDown (fun x => !lt x u.2.d[a]!) u.2.d i2 (j - 1) else j := by
          intro q h1 h2
          cases j with
          | zero => omega
          | succ k =>
            rw [Go.Sort.scanDown, Nat.add_sub_cancel]
            subst h2
            simp [h1]
        (iterate 2 refine AW.seq ?_); refine AW.draw (ps := []) zr zr ?_; (iterate 4 refine ze hT zr zr zr zr zr ?_)
        refine WT.split 126 rfl (fun h => ?_) (fun h => ?_)
        · have h : i2 ≤ j := by simp at h; omega
          (iterate 3 refine ze hT zr zr zr zr zr ?_)
          refine WT.vidx hT hvG zr zr zr zr zr zr zr zr zr (by omega) (fun bl1 hbl1 => ?_)
          refine WT.vldS hT 0 hvG hbl1 (arr_at (by omega)) zr zr zr zr zr zr zr zr zr (fun l1 hl1 => ?_)
          (iterate 2 refine ze hT zr zr zr zr zr ?_)
          refine WT.vidx hT hvG zr zr zr zr zr zr zr zr zr (by omega) (fun bl2 hbl2 => ?_)
          refine WT.vldS hT 0 hvG hbl2 (arr_at (by omega)) zr zr zr zr zr zr zr zr zr (fun l2 hl2 => ?_)
          refine WT.callC hg hgb zr zr zr zr zr zr zr (hcmp G (hF5'.trans hG) l1 l2 _ _ hl1 hl2) (fun v hvz => ?_)
          obtain ⟨z, rfl, hz⟩ := hvz
          (iterate 3 refine ze hT zr zr zr zr zr ?_); refine WT.nil ?_; refine And.intro trivial ?_
          refine AW.cond rfl (fun hc => ?_) (fun hc => ?_)
          · have hlt := (Bool.eq_false_iff.2 (fun hh => absurd (hz.2 hh) (by simpa using hc)) : lt u.2.d[j]! u.2.d[a]! = false)
            refine AW.skip ?_
            refine AW.block ?_
            refine AW.reg ?_; refine ze hT zr zr zr zr zr ?_; refine WT.sub1 zr zr zr zr zr zr (by omega) ?_; refine ze hT zr zr zr zr zr ?_; refine WT.nil ?_
            refine ⟨j - 1, by omega, SubK.of_map rfl, OwnLe.refl _, by omega, by omega, ?_⟩
            rw [← hj3, one true h (by simp [hlt]), if_pos rfl]
          · have hlt := hz.1 (by simpa using hc)
            refine AW.exit ?_
            refine ⟨(), SubK.of_map (by rw [← hj3, one false h (by simp [hlt]), if_neg (by decide)]; rfl), OwnLe.refl _, trivial⟩
        · have h : ¬ i2 ≤ j := by simp at h; omega
          (iterate 12 refine zx zr zr zr zr ?_); refine ze hT zr zr zr zr zr ?_; refine WT.nil ?_; refine And.intro trivial ?_
          refine AW.cond rfl (fun h => (by cases h)) (fun _ => ?_)
          refine AW.exit ?_
          have e : Go.Sort.scanDown (fun x => !lt x u.2.d[a]!) u.2.d i2 j = j := by
            cases j with
            | zero => rfl
            | succ k => rw [Go.Sort.scanDown, if_neg (by simp; omega)]
          refine ⟨(), SubK.of_map (by rw [← hj3, e]; rfl), OwnLe.refl _, trivial⟩
      rw [hj2]
      have hv6 := hv5.mono hF6
      (iterate 2 refine AW.seq ?_); refine AW.reg ?_; (iterate 3 refine ze hT zr zr zr zr zr ?_); refine WT.nil ?_
      refine AW.cond rfl (fun h => ?_) (fun h => ?_)
      · have h : j2 < i2 := by simp at h; omega
        refine AW.exit ?_
        refine ⟨(i2, ⟨j2, u.2.d, u.2.B⟩), SubK.of_map rfl, OwnLe.refl _, hv6, by dsimp only; omega, by dsimp only; omega, ?_⟩
        rw [hloop, if_pos h]
      · have h : ¬ j2 < i2 := by simp at h; omega
        have hlt2 : i2 < j2 := by
          rcases Nat.lt_or_ge i2 j2 with h1 | h1
          · exact h1
          · obtain rfl : i2 = j2 := by omega
            have e1 := w4 (by omega)
            have e2 := x4 (Nat.le_refl _) (by omega)
            rw [e1] at e2
            cases e2
        refine AW.skip ?_; refine AW.seq ?_; refine AW.draw (ps := []) zr zr ?_; (iterate 6 refine ze hT zr zr zr zr zr ?_)
        refine WT.vidx hT hv6 zr zr zr zr zr zr zr zr zr (by omega) (fun bl5 hbl5 => ?_)
        refine WT.vldS hT 0 hv6 hbl5 (arr_at (by omega)) zr zr zr zr zr zr zr zr zr (fun l5 hl5 => ?_)
        (iterate 2 refine ze hT zr zr zr zr zr ?_)
        refine WT.vidx hT hv6 zr zr zr zr zr zr zr zr zr (by omega) (fun bl6 hbl6 => ?_)
        refine WT.vldS hT 0 hv6 hbl6 (arr_at (by omega)) zr zr zr zr zr zr zr zr zr (fun l6 hl6 => ?_)
        refine WT.vidx hT hv6 zr zr zr zr zr zr zr zr zr (by omega) (fun bl7 hbl7 => ?_)
        refine WT.vst (y := u.2.d[j2]!) hT 0 hv6 hbl7 (List.getElem?_eq_getElem (by simp; omega)) zr zr zr zr zr hl5 rfl (fun _ => rfl) rfl (fun Bl7 hBl7 => ?_)
        refine WT.vidx hT hBl7 zr zr zr zr zr zr zr zr zr (by omega) (fun bl8 hbl8 => ?_)
        refine WT.vst (y := u.2.d[i2]!) hT 0 hBl7 hbl8 (List.getElem?_eq_getElem (by simp; omega)) zr zr zr zr zr hl6 rfl (fun _ => rfl) rfl (fun Bl8 hBl8 => ?_)
        rw [← swp_list] at hBl8
        refine WT.nil ?_; refine And.intro trivial ?_; refine AW.seq ?_; refine AW.reg ?_; refine ze hT zr zr zr zr zr ?_; refine WT.add1 zr zr zr zr zr zr (by omega) ?_; refine ze hT zr zr zr zr zr ?_; refine WT.nil ?_; refine AW.reg ?_; refine ze hT zr zr zr zr zr ?_; refine WT.sub1 zr zr zr zr zr zr (by omega) ?_; refine ze hT zr zr zr zr zr ?_; refine WT.nil ?_
        refine ⟨(i2 + 1, ⟨j2 - 1, Go.Sort.swp u.2.d i2 j2, Bl8⟩), by dsimp only; omega, SubK.of_map rfl, OwnLe.refl _, hBl8, by dsimp only; omega, by dsimp only; omega, by dsimp only; omega, ?_⟩
        rw [hloop, if_neg h]
    · obtain ⟨hv3, ha3, hb3, heq3⟩ := hP
      have hsz3 : m = s.2.d.size := hv3.len
      rw [← heq3] at hpart
      refine AW.seq ?_; refine AW.draw (ps := []) zr zr ?_; (iterate 6 refine ze hT zr zr zr zr zr ?_)
      refine WT.vidx hT hv3 zr zr zr zr zr zr zr zr zr (by omega) (fun bl5 hbl5 => ?_)
      refine WT.vldS hT 0 hv3 hbl5 (arr_at (by omega)) zr zr zr zr zr zr zr zr zr (fun l5 hl5 => ?_)
      (iterate 2 refine ze hT zr zr zr zr zr ?_)
      refine WT.vidx hT hv3 zr zr zr zr zr zr zr zr zr (by omega) (fun bl6 hbl6 => ?_)
      refine WT.vldS hT 0 hv3 hbl6 (arr_at (by omega)) zr zr zr zr zr zr zr zr zr (fun l6 hl6 => ?_)
      refine WT.vidx hT hv3 zr zr zr zr zr zr zr zr zr (by omega) (fun bl7 hbl7 => ?_)
      refine WT.vst (y := s.2.d[a]!) hT 0 hv3 hbl7 (List.getElem?_eq_getElem (by simp; omega)) zr zr zr zr zr hl5 rfl (fun _ => rfl) rfl (fun Bl7 hBl7 => ?_)
      refine WT.vidx hT hBl7 zr zr zr zr zr zr zr zr zr (by omega) (fun bl8 hbl8 => ?_)
      refine WT.vst (y := s.2.d[s.2.i]!) hT 0 hBl7 hbl8 (List.getElem?_eq_getElem (by simp; omega)) zr zr zr zr zr hl6 rfl (fun _ => rfl) rfl (fun Bl8 hBl8 => ?_)
      rw [← swp_list] at hBl8
      refine WT.nil ?_; refine And.intro trivial ?_; refine AW.seq ?_; refine AW.reg ?_; (iterate 3 refine ze hT zr zr zr zr zr ?_); refine WT.nil ?_
      refine AW.ret ⟨_, [_], ⟨_, _, rfl, ⟨_, _, rfl, rfl, rfl⟩, rfl⟩, (by repeat (first | exact List.Sublist.refl _ | refine List.Sublist.cons _ ?_)), _, rfl, ?_, ?_⟩
      · rw [hpart]; rfl
      · rw [hpart]; exact hBl8

end Go.Proofs.D

set_option linter.unusedVariables false
set_option maxRecDepth 20000
set_option maxHeartbeats 0
open Go Go.Abs Go.Proofs Go.Proofs.D
namespace Go.Proofs.D

theorem itPartEq_spec (F : Frz) {lt : Item → Item → Bool} {g : Nat} {first capt : List Value} (hc : CmpOk tItem lt F g first capt) {a0 : Option Addr} {m c : Nat} {B : List (Nat × Blk)} {d : Array Item} (hv : Vec tItem F a0 m c B d.toList) (a b pivot : Nat) (hp1 : a ≤ pivot) (hp2 : pivot < b) (hb : b ≤ m) (hm : m ≤ 1000000) :
    Abs.Spec CC 158 [.slice a0 m c, .int .i64 a, .int .i64 b, .int .i64 pivot, .func (.func g) ⟨first⟩ ⟨capt⟩] F [B] fun F' v o => ∃ B', o = [B'] ∧ v = .int .i64 ((Go.Sort.partitionEqual lt d a b pivot).1 : Nat) ∧ Vec tItem F' a0 m c B' (Go.Sort.partitionEqual lt d a b pivot).2.toList := by
  obtain ⟨⟨fn, hg, hgb⟩, hcmp⟩ := hc
  have hsz : m = d.size := hv.len
  refine Abs.Spec.fn (n := 90) Tryd.func158 rfl rfl fun own => ?_
  refine AW.seq ?_; refine AW.reg ?_; refine ze hT zr zr zr zr zr ?_; refine WT.nil ?_; refine AW.seq ?_; refine AW.draw (ps := []) zr zr ?_; (iterate 6 refine ze hT zr zr zr zr zr ?_)
  refine WT.vidx hT hv zr zr zr zr zr zr zr zr zr (by omega) (fun bl1 hbl1 => ?_)
  refine WT.vldS hT 0 hv hbl1 (arr_at (by omega)) zr zr zr zr zr zr zr zr zr (fun l1 hl1 => ?_)
  (iterate 2 refine ze hT zr zr zr zr zr ?_)
  refine WT.vidx hT hv zr zr zr zr zr zr zr zr zr (by omega) (fun bl2 hbl2 => ?_)
  refine WT.vldS hT 0 hv hbl2 (arr_at (by omega)) zr zr zr zr zr zr zr zr zr (fun l2 hl2 => ?_)
  refine WT.vidx hT hv zr zr zr zr zr zr zr zr zr (by omega) (fun bl3 hbl3 => ?_)
  refine WT.vst (y := d[pivot]!) hT 0 hv hbl3 (List.getElem?_eq_getElem (by simp; omega)) zr zr zr zr zr hl1 rfl (fun _ => rfl) rfl (fun Bl3 hBl3 => ?_)
  refine WT.vidx hT hBl3 zr zr zr zr zr zr zr zr zr (by omega) (fun bl4 hbl4 => ?_)
  refine WT.vst (y := d[a]!) hT 0 hBl3 hbl4 (List.getElem?_eq_getElem (by simp; omega)) zr zr zr zr zr hl2 rfl (fun _ => rfl) rfl (fun Bl4 hBl4 => ?_)
  rw [← swp_list] at hBl4
  obtain ⟨d1, hd1⟩ : ∃ d1, Go.Sort.swp d a pivot = d1 := ⟨_, rfl⟩
  rw [hd1] at hBl4
  have hpart : Go.Sort.partitionEqual lt d a b pivot = Go.Sort.partEqLoop lt a (a + 1) (b - 1) d1 := by rw [Go.Sort.partitionEqual, hd1]
  refine WT.nil ?_; refine And.intro trivial ?_; refine AW.seq ?_; refine AW.reg ?_; refine ze hT zr zr zr zr zr ?_; refine WT.add1 zr zr zr zr zr zr (by omega) ?_; refine ze hT zr zr zr zr zr ?_; refine WT.sub1 zr zr zr zr zr zr (by omega) ?_; (iterate 2 refine ze hT zr zr zr zr zr ?_); refine WT.nil ?_; refine AW.seq ?_
  refine AW.jnT (S := Nat × VS Item) (fun s => [(11, .int .i64 (s.1 : Nat)), (12, .int .i64 (s.2.i : Nat))]) (fun s => s.2.B :: own) (fun s G => Vec tItem G a0 m c s.2.B s.2.d.toList ∧ (s.1, s.2.d) = Go.Sort.partEqLoop lt a (a + 1) (b - 1) d1) ?_ (fun s F3 hF3 hP => ?_)
  · refine AW.block ?_
    refine AW.loopR (S := Nat × VS Item) (fun s => [(11, .int .i64 (s.1 : Nat)), (12, .int .i64 (s.2.i : Nat))]) (fun s => s.2.B :: own) (fun s G => Vec tItem G a0 m c s.2.B s.2.d.toList ∧ a < s.1 ∧ s.1 ≤ s.2.i + 1 ∧ s.2.i < b ∧ Go.Sort.partEqLoop lt a s.1 s.2.i s.2.d = Go.Sort.partEqLoop lt a (a + 1) (b - 1) d1) (fun s => s.2.i + 1 - s.1) (a + 1, ⟨b - 1, d1, Bl4⟩)
      (SubK.of_map rfl) (OwnLe.refl _) ⟨hBl4, by dsimp only; omega, by dsimp only; omega, by dsimp only; omega, rfl⟩ ?_
    intro u F4 hF4 hP4
    obtain ⟨hv4, ha4, hij4, hb4, heq4⟩ := hP4
    have hsz4 : m = u.2.d.size := hv4.len
    obtain ⟨i2, hi2⟩ : ∃ i2, Go.Sort.scanUp (fun x => !lt u.2.d[a]! x) u.2.d u.2.i u.1 = i2 := ⟨_, rfl⟩
    obtain ⟨j2, hj2⟩ : ∃ j2, Go.Sort.scanDown (fun x => lt u.2.d[a]! x) u.2.d i2 u.2.i = j2 := ⟨_, rfl⟩
    obtain ⟨w1, w2, w3, w4⟩ := Go.Sort.scanUp_spec (fun x => !lt u.2.d[a]! x) u.2.d u.2.i _ u.1 rfl
    obtain ⟨x1, x2, x3, x4⟩ := Go.Sort.scanDown_spec (fun x => lt u.2.d[a]! x) u.2.d i2 u.2.i
    rw [hi2] at w1 w2 w4
    rw [hj2] at x1 x2 x4
    have w2 := w2 hij4
    have x2 := x2 (by omega)
    have hloop := Go.Sort.partEqLoop_eq lt a u.1 u.2.i u.2.d
    rw [hi2, hj2, heq4] at hloop
    refine AW.block ?_
    refine AW.seq ?_
    refine AW.jnT (S := Unit) (fun _ => [(11, .int .i64 (Go.Sort.scanUp (fun x => !lt u.2.d[a]! x) u.2.d u.2.i u.1 : Nat))]) (fun _ => (u.2.B :: own)) (fun _ _ => True) ?_ (fun _ F5 hF5 _ => ?_)
    · refine AW.block ?_
      refine AW.loopR (S := Nat) (fun i => [(11, .int .i64 (i : Nat))]) (fun _ => (u.2.B :: own)) (fun i _ => u.1 ≤ i ∧ i ≤ u.2.i + 1 ∧ Go.Sort.scanUp (fun x => !lt u.2.d[a]! x) u.2.d u.2.i i = Go.Sort.scanUp (fun x => !lt u.2.d[a]! x) u.2.d u.2.i u.1) (fun i => u.2.i + 1 - i) u.1 (SubK.of_map rfl) (OwnLe.refl _) ⟨Nat.le_refl _, by omega, rfl⟩ ?_
      intro i G hG hP
      obtain ⟨hi1, hi2, hi3⟩ := hP
      have hvG := hv4.mono hG
      (iterate 2 refine AW.seq ?_); refine AW.draw (ps := []) zr zr ?_; (iterate 4 refine ze hT zr zr zr zr zr ?_)
      refine WT.split 34 rfl (fun h => ?_) (fun h => ?_)
      · have h : i ≤ u.2.i := by simp at h; omega
        (iterate 3 refine ze hT zr zr zr zr zr ?_)
        refine WT.vidx hT hvG zr zr zr zr zr zr zr zr zr (by omega) (fun bl1 hbl1 => ?_)
        refine WT.vldS hT 0 hvG hbl1 (arr_at (by omega)) zr zr zr zr zr zr zr zr zr (fun l1 hl1 => ?_)
        (iterate 2 refine ze hT zr zr zr zr zr ?_)
        refine WT.vidx hT hvG zr zr zr zr zr zr zr zr zr (by omega) (fun bl2 hbl2 => ?_)
        refine WT.vldS hT 0 hvG hbl2 (arr_at (by omega)) zr zr zr zr zr zr zr zr zr (fun l2 hl2 => ?_)
        refine WT.callC hg hgb zr zr zr zr zr zr zr (hcmp G (hF4.trans hG) l1 l2 _ _ hl1 hl2) (fun v hvz => ?_)
        obtain ⟨z, rfl, hz⟩ := hvz
        (iterate 3 refine ze hT zr zr zr zr zr ?_); refine WT.nil ?_; refine And.intro trivial ?_
        refine AW.cond rfl (fun hc => ?_) (fun hc => ?_)
        · have hlt := (Bool.eq_false_iff.2 (fun hh => absurd (hz.2 hh) (by simpa using hc)) : lt u.2.d[a]! u.2.d[i]! = false)
          refine AW.skip ?_
          refine AW.block ?_
          refine AW.reg ?_; refine ze hT zr zr zr zr zr ?_; refine WT.add1 zr zr zr zr zr zr (by omega) ?_; refine ze hT zr zr zr zr zr ?_; refine WT.nil ?_
          refine ⟨i + 1, by omega, SubK.of_map rfl, OwnLe.refl _, by omega, by omega, ?_⟩
          rw [← hi3]
          conv => rhs; rw [Go.Sort.scanUp]
          rw [if_pos (by simp [h, hlt])]
        · have hlt := hz.1 (by simpa using hc)
          refine AW.exit ?_
          refine ⟨(), SubK.of_map (by rw [← hi3, Go.Sort.scanUp, if_neg (by simp [hlt])]; rfl), OwnLe.refl _, trivial⟩
      · have h : ¬ i ≤ u.2.i := by simp at h; omega
        (iterate 12 refine zx zr zr zr zr ?_); refine ze hT zr zr zr zr zr ?_; refine WT.nil ?_; refine And.intro trivial ?_
        refine AW.cond rfl (fun h => (by cases h)) (fun _ => ?_)
        refine AW.exit ?_
        refine ⟨(), SubK.of_map (by rw [← hi3, Go.Sort.scanUp, if_neg (by simp [h])]; rfl), OwnLe.refl _, trivial⟩
    rw [hi2]
    have hv5 := hv4.mono hF5
    have hF5' := hF4.trans hF5
    refine AW.seq ?_
    refine AW.jnT (S := Unit) (fun _ => [(12, .int .i64 (Go.Sort.scanDown (fun x => lt u.2.d[a]! x) u.2.d i2 u.2.i : Nat))]) (fun _ => (u.2.B :: own)) (fun _ _ => True) ?_ (fun _ F6 hF6 _ => ?_)
    · refine AW.block ?_
      refine AW.loopR (S := Nat) (fun j => [(12, .int .i64 (j : Nat))]) (fun _ => (u.2.B :: own)) (fun j _ => j ≤ u.2.i ∧ i2 ≤ j + 1 ∧ Go.Sort.scanDown (fun x => lt u.2.d[a]! x) u.2.d i2 j = Go.Sort.scanDown (fun x => lt u.2.d[a]! x) u.2.d i2 u.2.i) (fun j => j) u.2.i (SubK.of_map rfl) (OwnLe.refl _) ⟨Nat.le_refl _, by omega, rfl⟩ ?_
      intro j G hG hP
      obtain ⟨hj1, hj2, hj3⟩ := hP
      have hvG := hv5.mono hG
      have one : ∀ q, i2 ≤ j → (fun x => lt u.2.d[a]! x) u.2.d[j]! = q → Go.Sort.scanDown (fun x => lt u.2.d[a]! x) u.2.d i2 j = if q = true then Go.Sort.scanDown (fun x => lt u.2.d[a]! x) u.2.d i2 (j - 1) else j := by
        intro q h1 h2
        cases j with
        | zero => omega
        | succ k =>
          rw [Go.Sort.scanDown, Nat.add_sub_cancel]
          subst h2
          simp [h1]
      (iterate 2 refine AW.seq ?_); refine AW.draw (ps := []) zr zr ?_; (iterate 4 refine ze hT zr zr zr zr zr ?_)
      refine WT.split 53 rfl (fun h => ?_) (fun h => ?_)
      · have h : i2 ≤ j := by simp at h; omega
        (iterate 3 refine ze hT zr zr zr zr zr ?_)
        refine WT.vidx hT hvG zr zr zr zr zr zr zr zr zr (by omega) (fun bl1 hbl1 => ?_)
        refine WT.vldS hT 0 hvG hbl1 (arr_at (by omega)) zr zr zr zr zr zr zr zr zr (fun l1 hl1 => ?_)
        (iterate 2 refine ze hT zr zr zr zr zr ?_)
        refine WT.vidx hT hvG zr zr zr zr zr zr zr zr zr (by omega) (fun bl2 hbl2 => ?_)
        refine WT.vldS hT 0 hvG hbl2 (arr_at (by omega)) zr zr zr zr zr zr zr zr zr (fun l2 hl2 => ?_)
        refine WT.callC hg hgb zr zr zr zr zr zr zr (hcmp G (hF5'.trans hG) l1 l2 _ _ hl1 hl2) (fun v hvz => ?_)
        obtain ⟨z, rfl, hz⟩ := hvz
        (iterate 2 refine ze hT zr zr zr zr zr ?_); refine WT.nil ?_; refine And.intro trivial ?_
        refine AW.cond rfl (fun hc => ?_) (fun hc => ?_)
        · have hlt := hz.1 (by simpa using hc)
          refine AW.skip ?_
          refine AW.block ?_
          refine AW.reg ?_; refine ze hT zr zr zr zr zr ?_; refine WT.sub1 zr zr zr zr zr zr (by omega) ?_; refine ze hT zr zr zr zr zr ?_; refine WT.nil ?_
          refine ⟨j - 1, by omega, SubK.of_map rfl, OwnLe.refl _, by omega, by omega, ?_⟩
          rw [← hj3, one true h (by simp [hlt]), if_pos rfl]
        · have hlt := (Bool.eq_false_iff.2 (fun hh => absurd (hz.2 hh) (by simpa using hc)) : lt u.2.d[a]! u.2.d[j]! = false)
          refine AW.exit ?_
          refine ⟨(), SubK.of_map (by rw [← hj3, one false h (by simp [hlt]), if_neg (by decide)]; rfl), OwnLe.refl _, trivial⟩
      · have h : ¬ i2 ≤ j := by simp at h; omega
        (iterate 11 refine zx zr zr zr zr ?_); refine ze hT zr zr zr zr zr ?_; refine WT.nil ?_; refine And.intro trivial ?_
        refine AW.cond rfl (fun h => (by cases h)) (fun _ => ?_)
        refine AW.exit ?_
        have e : Go.Sort.scanDown (fun x => lt u.2.d[a]! x) u.2.d i2 j = j := by
          cases j with
          | zero => rfl
          | succ k => rw [Go.Sort.scanDown, if_neg (by simp; omega)]
        refine ⟨(), SubK.of_map (by rw [← hj3, e]; rfl), OwnLe.refl _, trivial⟩
    rw [hj2]
    have hv6 := hv5.mono hF6
    (iterate 2 refine AW.seq ?_); refine AW.reg ?_; (iterate 3 refine ze hT zr zr zr zr zr ?_); refine WT.nil ?_
    refine AW.cond rfl (fun h => ?_) (fun h => ?_)
    · have h : j2 < i2 := by simp at h; omega
      refine AW.exit ?_
      refine ⟨(i2, ⟨j2, u.2.d, u.2.B⟩), SubK.of_map rfl, OwnLe.refl _, hv6, ?_⟩
      rw [hloop, if_pos h]
    · have h : ¬ j2 < i2 := by simp at h; omega
      have hlt2 : i2 < j2 := by
        rcases Nat.lt_or_ge i2 j2 with h1 | h1
        · exact h1
        · obtain rfl : i2 = j2 := by omega
          have e1 := w4 (by omega)
          have e2 := x4 (Nat.le_refl _) (by omega)
          rw [e2] at e1
          cases e1
      refine AW.skip ?_; refine AW.seq ?_; refine AW.draw (ps := []) zr zr ?_; (iterate 6 refine ze hT zr zr zr zr zr ?_)
      refine WT.vidx hT hv6 zr zr zr zr zr zr zr zr zr (by omega) (fun bl5 hbl5 => ?_)
      refine WT.vldS hT 0 hv6 hbl5 (arr_at (by omega)) zr zr zr zr zr zr zr zr zr (fun l5 hl5 => ?_)
      (iterate 2 refine ze hT zr zr zr zr zr ?_)
      refine WT.vidx hT hv6 zr zr zr zr zr zr zr zr zr (by omega) (fun bl6 hbl6 => ?_)
      refine WT.vldS hT 0 hv6 hbl6 (arr_at (by omega)) zr zr zr zr zr zr zr zr zr (fun l6 hl6 => ?_)
      refine WT.vidx hT hv6 zr zr zr zr zr zr zr zr zr (by omega) (fun bl7 hbl7 => ?_)
      refine WT.vst (y := u.2.d[j2]!) hT 0 hv6 hbl7 (List.getElem?_eq_getElem (by simp; omega)) zr zr zr zr zr hl5 rfl (fun _ => rfl) rfl (fun Bl7 hBl7 => ?_)
      refine WT.vidx hT hBl7 zr zr zr zr zr zr zr zr zr (by omega) (fun bl8 hbl8 => ?_)
      refine WT.vst (y := u.2.d[i2]!) hT 0 hBl7 hbl8 (List.getElem?_eq_getElem (by simp; omega)) zr zr zr zr zr hl6 rfl (fun _ => rfl) rfl (fun Bl8 hBl8 => ?_)
      rw [← swp_list] at hBl8
      refine WT.nil ?_; refine And.intro trivial ?_; refine AW.seq ?_; refine AW.reg ?_; refine ze hT zr zr zr zr zr ?_; refine WT.add1 zr zr zr zr zr zr (by omega) ?_; refine ze hT zr zr zr zr zr ?_; refine WT.nil ?_; refine AW.reg ?_; refine ze hT zr zr zr zr zr ?_; refine WT.sub1 zr zr zr zr zr zr (by omega) ?_; refine ze hT zr zr zr zr zr ?_; refine WT.nil ?_
      refine ⟨(i2 + 1, ⟨j2 - 1, Go.Sort.swp u.2.d i2 j2, Bl8⟩), by dsimp only; omega, SubK.of_map rfl, OwnLe.refl _, hBl8, by dsimp only; omega, by dsimp only; omega, by dsimp only; omega, ?_⟩
      rw [hloop, if_neg h]
  · obtain ⟨hv3, heq3⟩ := hP
    refine AW.seq ?_; refine AW.reg ?_; (iterate 2 refine ze hT zr zr zr zr zr ?_); refine WT.nil ?_
    refine AW.ret ⟨_, [_], ⟨_, _, rfl, rfl, rfl⟩, (by repeat (first | exact List.Sublist.refl _ | refine List.Sublist.cons _ ?_)), _, rfl, ?_, ?_⟩
    · rw [hpart, ← heq3]; rfl
    · rw [hpart, ← heq3]; exact hv3

theorem itOrder2_spec (F : Frz) {lt : Item → Item → Bool} {g : Nat} {first capt : List Value} (hc : CmpOk tItem lt F g first capt) {a0 : Option Addr} {m c : Nat} {d : Array Item} (hv : Arr tItem F a0 m c d.toList) (a b : Nat) (ha : a < m) (hb : b < m) (hm : m ≤ 1000000) {ip sw : Nat} (hsw : sw ≤ 1000) :
    Abs.Spec CC 195 [.slice a0 m c, .int .i64 a, .int .i64 b, .pointer (some ⟨ip, 0, none⟩), .func (.func g) ⟨first⟩ ⟨capt⟩] F [[(ip, .cells false [.int .i64 sw])]] fun F' v o => ∃ B', o = [B'] ∧ v = .tuple ⟨[.int .i64 ((Go.Sort.order2 lt d a b sw).1 : Nat), .int .i64 ((Go.Sort.order2 lt d a b sw).2.1 : Nat)]⟩ ∧ B' = [(ip, .cells false [.int .i64 ((Go.Sort.order2 lt d a b sw).2.2 : Nat)])] := by
  obtain ⟨⟨fn, hg, hgb⟩, hcmp⟩ := hc
  have hsz : m = d.size := hv.len
  refine Abs.Spec.fn (n := 32) Tryd.func195 rfl rfl fun own => ?_
  refine AW.seq ?_; refine AW.reg ?_; (iterate 2 refine ze hT zr zr zr zr zr ?_); refine WT.nil ?_; (iterate 2 refine AW.seq ?_); refine AW.draw (ps := []) zr zr ?_; (iterate 3 refine ze hT zr zr zr zr zr ?_)
  refine WT.idxL hT hv zr zr zr zr zr zr zr zr zr (by simp; omega) (fun x1 hx1 b1 off1 ro1 cs1 l1 hb1 hp1 hl1 => ?_)
  obtain rfl : x1 = d[b]! := by rw [arr_at (by omega)] at hx1; exact (Option.some.inj hx1).symm
  refine WT.loadS hT hb1 hp1 zr zr zr zr zr zr zr zr ?_
  (iterate 2 refine ze hT zr zr zr zr zr ?_)
  refine WT.idxL hT hv zr zr zr zr zr zr zr zr zr (by simp; omega) (fun x2 hx2 b2 off2 ro2 cs2 l2 hb2 hp2 hl2 => ?_)
  obtain rfl : x2 = d[a]! := by rw [arr_at (by omega)] at hx2; exact (Option.some.inj hx2).symm
  refine WT.loadS hT hb2 hp2 zr zr zr zr zr zr zr zr ?_
  refine WT.callC hg hgb zr zr zr zr zr zr zr (hcmp F (Frz.le.refl F) l1 l2 _ _ hl1 hl2) (fun v hvz => ?_)
  obtain ⟨z, rfl, hz⟩ := hvz
  refine ze hT zr zr zr zr zr ?_; refine WT.nil ?_; refine And.intro trivial ?_
  refine AW.cond rfl (fun hc => ?_) (fun hc => ?_)
  · have hlt := hz.1 (by simpa using hc)
    have e : Go.Sort.order2 lt d a b sw = (b, a, sw + 1) := by rw [Go.Sort.order2, if_pos hlt]
    refine AW.seq ?_; refine AW.reg ?_; (iterate 2 refine ze hT zr zr zr zr zr ?_); refine zl hT 0 zr zr zr zr zr zr me zr ?_; refine WT.add1 zr zr zr zr zr zr (by omega) ?_; refine ze hT zr zr zr zr zr ?_; refine zs hT 0 0 zr zr zr zr zr zr zr zr zr zr zr zr ?_; refine WT.nil ?_; refine AW.seq ?_; refine AW.reg ?_; (iterate 4 refine ze hT zr zr zr zr zr ?_); refine WT.nil ?_
    exact AW.ret ⟨_, [_], ⟨_, _, rfl, ⟨_, _, rfl, rfl, rfl⟩, rfl⟩, (by repeat (first | exact List.Sublist.refl _ | refine List.Sublist.cons _ ?_)), _, rfl, (by rw [e]; first | done | rfl), (by rw [e]; first | done | rfl)⟩
  · have hlt : lt d[b]! d[a]! = false := Bool.eq_false_iff.2 (fun hh => absurd (hz.2 hh) (by simpa using hc))
    have e : Go.Sort.order2 lt d a b sw = (a, b, sw) := by rw [Go.Sort.order2, if_neg (by rw [hlt]; decide)]
    refine AW.skip ?_; refine AW.seq ?_; refine AW.reg ?_; (iterate 4 refine ze hT zr zr zr zr zr ?_); refine WT.nil ?_
    exact AW.ret ⟨_, [_], ⟨_, _, rfl, ⟨_, _, rfl, rfl, rfl⟩, rfl⟩, (by repeat (first | exact List.Sublist.refl _ | refine List.Sublist.cons _ ?_)), _, rfl, (by rw [e]; first | done | rfl), (by rw [e]; first | done | rfl)⟩

theorem itMedian_spec (F : Frz) {lt : Item → Item → Bool} {g : Nat} {first capt : List Value} (hc : CmpOk tItem lt F g first capt) {a0 : Option Addr} {m c0 : Nat} {d : Array Item} (hv : Arr tItem F a0 m c0 d.toList) (a b c : Nat) (ha : a < m) (hb : b < m) (hcm : c < m) (hm : m ≤ 1000000) {ip sw : Nat} (hsw : sw ≤ 900) :
    Abs.Spec CC 181 [.slice a0 m c0, .int .i64 a, .int .i64 b, .int .i64 c, .pointer (some ⟨ip, 0, none⟩), .func (.func g) ⟨first⟩ ⟨capt⟩] F [[(ip, .cells false [.int .i64 sw])]] fun F' v o => ∃ B', o = [B'] ∧ v = .int .i64 ((Go.Sort.median lt d a b c sw).1 : Nat) ∧ B' = [(ip, .cells false [.int .i64 ((Go.Sort.median lt d a b c sw).2 : Nat)])] := by
  obtain ⟨r1, hr1⟩ : ∃ r, Go.Sort.order2 lt d a b sw = r := ⟨_, rfl⟩
  obtain ⟨r2, hr2⟩ : ∃ r, Go.Sort.order2 lt d r1.2.1 c r1.2.2 = r := ⟨_, rfl⟩
  obtain ⟨r3, hr3⟩ : ∃ r, Go.Sort.order2 lt d r1.1 r2.1 r2.2.2 = r := ⟨_, rfl⟩
  have hmed : Go.Sort.median lt d a b c sw = (r3.2.1, r3.2.2) := by simp only [Go.Sort.median, hr1, hr2, hr3]
  have m1 := Go.Sort.order2_mem lt d a b sw
  have m2 := Go.Sort.order2_mem lt d r1.2.1 c r1.2.2
  have n1 := Go.Sort.order2_count lt d a b sw
  have n2 := Go.Sort.order2_count lt d r1.2.1 c r1.2.2
  rw [hr1] at m1 n1
  rw [hr2] at m2 n2
  have b1 : r1.1 < m ∧ r1.2.1 < m := by omega
  have b2 : r2.1 < m ∧ r2.2.1 < m := by omega
  refine Abs.Spec.fn (n := 41) Tryd.func181 rfl rfl fun own => ?_
  refine AW.seq ?_; refine AW.reg ?_; refine ze hT zr zr zr zr zr ?_; refine WT.nil ?_; refine AW.seq ?_; refine AW.reg ?_; (iterate 5 refine ze hT zr zr zr zr zr ?_)
  refine WT.call1F 0 Tryd.func195 zr zr zr zr zr zr zr (fun _ => rfl) (itOrder2_spec _ hc hv a b ha hb hm (by omega)) (fun F1 v B1 hF1 hv1 => ?_)
  obtain ⟨rfl, rfl⟩ := hv1
  rw [hr1]
  (iterate 5 refine ze hT zr zr zr zr zr ?_); refine WT.nil ?_; refine AW.seq ?_; refine AW.reg ?_; (iterate 5 refine ze hT zr zr zr zr zr ?_)
  refine WT.call1F 0 Tryd.func195 zr zr zr zr zr zr zr (fun _ => rfl) (itOrder2_spec _ (hc.mono hF1) (hv.mono hF1) r1.2.1 c b1.2 hcm hm (sw := r1.2.2) (by omega)) (fun F2 v B2 hF2 hv2 => ?_)
  obtain ⟨rfl, rfl⟩ := hv2
  rw [hr2]
  (iterate 5 refine ze hT zr zr zr zr zr ?_); refine WT.nil ?_; refine AW.seq ?_; refine AW.reg ?_; (iterate 5 refine ze hT zr zr zr zr zr ?_)
  refine WT.call1F 0 Tryd.func195 zr zr zr zr zr zr zr (fun _ => rfl) (itOrder2_spec _ ((hc.mono hF1).mono hF2) ((hv.mono hF1).mono hF2) r1.1 r2.1 b1.1 b2.1 hm (sw := r2.2.2) (by omega)) (fun F3 v B3 hF3 hv3 => ?_)
  obtain ⟨rfl, rfl⟩ := hv3
  rw [hr3]
  (iterate 5 refine ze hT zr zr zr zr zr ?_); refine WT.nil ?_; refine AW.seq ?_; refine AW.reg ?_; (iterate 2 refine ze hT zr zr zr zr zr ?_); refine WT.nil ?_
  exact AW.ret ⟨_, [_], ⟨_, _, rfl, rfl, rfl⟩, (by repeat (first | exact List.Sublist.refl _ | refine List.Sublist.cons _ ?_)), _, rfl, (by rw [hmed]; first | done | rfl), (by rw [hmed])⟩

theorem itMedAdj_spec (F : Frz) {lt : Item → Item → Bool} {g : Nat} {first capt : List Value} (hc : CmpOk tItem lt F g first capt) {a0 : Option Addr} {m c0 : Nat} {d : Array Item} (hv : Arr tItem F a0 m c0 d.toList) (a : Nat) (ha : 1 ≤ a) (hb : a + 1 < m) (hm : m ≤ 1000000) {ip sw : Nat} (hsw : sw ≤ 900) :
    Abs.Spec CC 180 [.slice a0 m c0, .int .i64 a, .pointer (some ⟨ip, 0, none⟩), .func (.func g) ⟨first⟩ ⟨capt⟩] F [[(ip, .cells false [.int .i64 sw])]] fun F' v o => ∃ B', o = [B'] ∧ v = .int .i64 ((Go.Sort.medianAdjacent lt d a sw).1 : Nat) ∧ B' = [(ip, .cells false [.int .i64 ((Go.Sort.medianAdjacent lt d a sw).2 : Nat)])] := by
  refine Abs.Spec.fn (n := 18) Tryd.func180 rfl rfl fun own => ?_
  refine AW.seq ?_; refine AW.reg ?_; refine ze hT zr zr zr zr zr ?_; refine WT.nil ?_; refine AW.seq ?_; refine AW.reg ?_; (iterate 2 refine ze hT zr zr zr zr zr ?_); refine WT.sub1 zr zr zr zr zr zr (by omega) ?_; (iterate 2 refine ze hT zr zr zr zr zr ?_); refine WT.add1 zr zr zr zr zr zr (by omega) ?_; (iterate 2 refine ze hT zr zr zr zr zr ?_)
  refine WT.call1F 0 Tryd.func181 zr zr zr zr zr zr zr (fun _ => rfl) (itMedian_spec _ hc hv (a - 1) a (a + 1) (by omega) (by omega) (by omega) hm hsw) (fun F1 v B1 hF1 hv1 => ?_)
  obtain ⟨rfl, rfl⟩ := hv1
  refine ze hT zr zr zr zr zr ?_; refine WT.nil ?_
  exact AW.ret ⟨_, [_], ⟨_, _, rfl, rfl, rfl⟩, (by repeat (first | exact List.Sublist.refl _ | refine List.Sublist.cons _ ?_)), _, rfl, rfl, rfl⟩

theorem itPivot_spec (F : Frz) {lt : Item → Item → Bool} {g : Nat} {first capt : List Value} (hc : CmpOk tItem lt F g first capt) {a0 : Option Addr} {m c0 : Nat} {d : Array Item} (hv : Arr tItem F a0 m c0 d.toList) (a b : Nat) (hab : a + 13 ≤ b) (hb : b ≤ m) (hm : m ≤ 1000000) :
    Abs.Spec CC 155 [.slice a0 m c0, .int .i64 a, .int .i64 b, .func (.func g) ⟨first⟩ ⟨capt⟩] F [] fun F' v o => o = [] ∧ v = .tuple ⟨[.int .i64 ((Go.Sort.choosePivot lt d a b).1 : Nat), .int .i64 (Go.Sort.hintCode (Go.Sort.choosePivot lt d a b).2)]⟩ := by
  have hd4 : (b - a) / 4 * 4 ≤ b - a := Nat.div_mul_le_self _ _
  have hd3 : 3 ≤ (b - a) / 4 := by omega
  obtain ⟨e, he⟩ : ∃ e, (b - a) / 4 = e := ⟨_, rfl⟩
  rw [he] at hd4 hd3
  refine Abs.Spec.fn (n := 63) Tryd.func155 rfl rfl fun own => ?_
  refine AW.seq ?_; refine AW.reg ?_; (iterate 2 refine ze hT zr zr zr zr zr ?_); refine WT.nil ?_; refine AW.seq ?_; refine AW.reg ?_; (iterate 2 refine ze hT zr zr zr zr zr ?_); refine WT.subN zr zr zr zr zr zr (by omega) ?_; refine ze hT zr zr zr zr zr ?_; refine WT.nil ?_; refine AW.seq ?_; refine AW.reg ?_
  refine WT.allocT hT zr zr zr zr zr zr (fun i11 hi11 => ?_)
  refine WT.nil ?_; refine AW.seq ?_; refine AW.reg ?_; (iterate 2 refine ze hT zr zr zr zr zr ?_)
  refine WT.quoL 4 zr zr zr zr zr zr (by decide) (by omega) ?_
  refine WT.mulL 1 zr zr zr zr zr zr (by omega) ?_
  rw [he]
  refine WT.addN zr zr zr zr zr zr (by omega) ?_; refine ze hT zr zr zr zr zr ?_; refine WT.nil ?_; refine AW.seq ?_; refine AW.reg ?_; (iterate 2 refine ze hT zr zr zr zr zr ?_)
  refine WT.quoL 4 zr zr zr zr zr zr (by decide) (by omega) ?_
  refine WT.mulL 2 zr zr zr zr zr zr (by omega) ?_
  rw [he]
  refine WT.addN zr zr zr zr zr zr (by omega) ?_; refine ze hT zr zr zr zr zr ?_; refine WT.nil ?_; refine AW.seq ?_; refine AW.reg ?_; (iterate 2 refine ze hT zr zr zr zr zr ?_)
  refine WT.quoL 4 zr zr zr zr zr zr (by decide) (by omega) ?_
  refine WT.mulL 3 zr zr zr zr zr zr (by omega) ?_
  rw [he]
  refine WT.addN zr zr zr zr zr zr (by omega) ?_; refine ze hT zr zr zr zr zr ?_; refine WT.nil ?_; (iterate 2 refine AW.seq ?_); refine AW.reg ?_; (iterate 2 refine ze hT zr zr zr zr zr ?_); refine WT.nil ?_
  refine AW.cond rfl (fun _ => ?_) (fun h => (by simp at h; omega))
  refine AW.jn (S := Nat × Nat × Nat × Nat) (fun s => [(12, .int .i64 (s.1 : Nat)), (13, .int .i64 (s.2.1 : Nat)), (14, .int .i64 (s.2.2.1 : Nat))]) (fun s => [(i11, .cells false [.int .i64 (s.2.2.2 : Nat)])] :: own) (fun s _ => s.1 < m ∧ s.2.1 < m ∧ s.2.2.1 < m ∧ s.2.2.2 ≤ 9 ∧ Go.Sort.rawPivot lt d a b = Go.Sort.median lt d s.1 s.2.1 s.2.2.1 s.2.2.2) ?_ (fun s F5 hF5 hP => ?_)
  · refine AW.seq ?_; refine AW.reg ?_; (iterate 2 refine ze hT zr zr zr zr zr ?_); refine WT.nil ?_
    refine AW.cond rfl (fun h => ?_) (fun h => ?_)
    · have h : 50 ≤ b - a := by simp at h; omega
      have h12 : 12 ≤ e := by omega
      obtain ⟨r1, hr1⟩ : ∃ r, Go.Sort.medianAdjacent lt d (a + e * 1) 0 = r := ⟨_, rfl⟩
      obtain ⟨r2, hr2⟩ : ∃ r, Go.Sort.medianAdjacent lt d (a + e * 2) r1.2 = r := ⟨_, rfl⟩
      obtain ⟨r3, hr3⟩ : ∃ r, Go.Sort.medianAdjacent lt d (a + e * 3) r2.2 = r := ⟨_, rfl⟩
      have m1 := Go.Sort.medianAdjacent_mem lt d (a + e * 1) 0
      have m2 := Go.Sort.medianAdjacent_mem lt d (a + e * 2) r1.2
      have m3 := Go.Sort.medianAdjacent_mem lt d (a + e * 3) r2.2
      have n1 := Go.Sort.medianAdjacent_count lt d (a + e * 1) 0
      have n2 := Go.Sort.medianAdjacent_count lt d (a + e * 2) r1.2
      have n3 := Go.Sort.medianAdjacent_count lt d (a + e * 3) r2.2
      rw [hr1] at m1 n1
      rw [hr2] at m2 n2
      rw [hr3] at m3 n3
      refine AW.seq ?_; refine AW.reg ?_; (iterate 3 refine ze hT zr zr zr zr zr ?_)
      refine WT.call1F 0 Tryd.func180 zr zr zr zr zr zr zr (fun _ => rfl) (itMedAdj_spec _ hc hv (a + e * 1) (by omega) (by omega) hm (sw := 0) (by omega)) (fun F1 v B1 hF1 hv1 => ?_)
      obtain ⟨rfl, rfl⟩ := hv1
      rw [hr1]
      refine ze hT zr zr zr zr zr ?_; refine WT.nil ?_; refine AW.seq ?_; refine AW.reg ?_; (iterate 3 refine ze hT zr zr zr zr zr ?_)
      refine WT.call1F 0 Tryd.func180 zr zr zr zr zr zr zr (fun _ => rfl) (itMedAdj_spec _ (hc.mono hF1) (hv.mono hF1) (a + e * 2) (by omega) (by omega) hm (sw := r1.2) (by omega)) (fun F2 v B2 hF2 hv2 => ?_)
      obtain ⟨rfl, rfl⟩ := hv2
      rw [hr2]
      refine ze hT zr zr zr zr zr ?_; refine WT.nil ?_; refine AW.reg ?_; (iterate 3 refine ze hT zr zr zr zr zr ?_)
      refine WT.call1F 0 Tryd.func180 zr zr zr zr zr zr zr (fun _ => rfl) (itMedAdj_spec _ ((hc.mono hF1).mono hF2) ((hv.mono hF1).mono hF2) (a + e * 3) (by omega) (by omega) hm (sw := r2.2) (by omega)) (fun F3 v B3 hF3 hv3 => ?_)
      obtain ⟨rfl, rfl⟩ := hv3
      rw [hr3]
      refine ze hT zr zr zr zr zr ?_; refine WT.nil ?_
      refine ⟨(r1.1, r2.1, r3.1, r3.2), SubK.of_map rfl, OwnLe.refl _, by dsimp only; omega, by dsimp only; omega, by dsimp only; omega, by dsimp only; omega, ?_⟩
      rw [Go.Sort.rawPivot, if_pos (by omega), if_pos h, he, hr1, hr2, hr3]
    · have h : ¬ 50 ≤ b - a := by simp at h; omega
      refine AW.skip ?_
      refine ⟨(a + e * 1, a + e * 2, a + e * 3, 0), SubK.of_map rfl, OwnLe.refl _, by dsimp only; omega, by dsimp only; omega, by dsimp only; omega, by dsimp only; omega, ?_⟩
      rw [Go.Sort.rawPivot, if_pos (by omega), if_neg (by omega), he]
  · obtain ⟨q1, q2, q3, q4, q5⟩ := hP
    obtain ⟨r, hr⟩ : ∃ r, Go.Sort.median lt d s.1 s.2.1 s.2.2.1 s.2.2.2 = r := ⟨_, rfl⟩
    have n1 := Go.Sort.median_count lt d s.1 s.2.1 s.2.2.1 s.2.2.2
    rw [hr] at n1 q5
    have hch : Go.Sort.choosePivot lt d a b = (r.1, Go.Sort.hintOf r.2) := by rw [Go.Sort.choosePivot_eq, q5]
    refine AW.reg ?_; (iterate 5 refine ze hT zr zr zr zr zr ?_)
    refine WT.call1F 0 Tryd.func181 zr zr zr zr zr zr zr (fun _ => rfl) (itMedian_spec _ (hc.mono hF5) (hv.mono hF5) s.1 s.2.1 s.2.2.1 q1 q2 q3 hm (sw := s.2.2.2) (by omega)) (fun F6 v B6 hF6 hv6 => ?_)
    obtain ⟨rfl, rfl⟩ := hv6
    rw [hr]
    refine ze hT zr zr zr zr zr ?_; refine WT.nil ?_; refine AW.seq ?_; refine AW.reg ?_; refine zl hT 0 zr zr zr zr zr zr me zr ?_; refine WT.nil ?_
    refine AW.block ?_
    refine AW.seq ?_; refine AW.reg ?_; (iterate 2 refine ze hT zr zr zr zr zr ?_); refine WT.nil ?_
    refine AW.cond rfl (fun h => ?_) (fun h => ?_)
    · have h : r.2 = 0 := by simp at h; omega
      refine AW.seq ?_; refine AW.reg ?_; (iterate 3 refine ze hT zr zr zr zr zr ?_); refine WT.nil ?_
      refine AW.ret ⟨_, [], ⟨_, _, rfl, ⟨_, _, rfl, rfl, rfl⟩, rfl⟩, (by repeat (first | exact List.Sublist.refl _ | refine List.Sublist.cons _ ?_)), rfl, ?_⟩
      rw [hch, h]; rfl
    · have h : r.2 ≠ 0 := by simp at h; omega
      refine AW.seq ?_; refine AW.reg ?_; (iterate 2 refine ze hT zr zr zr zr zr ?_); refine WT.nil ?_
      refine AW.cond rfl (fun h2 => ?_) (fun h2 => ?_)
      · have h2 : r.2 = 12 := by simp at h2; omega
        refine AW.seq ?_; refine AW.reg ?_; (iterate 3 refine ze hT zr zr zr zr zr ?_); refine WT.nil ?_
        refine AW.ret ⟨_, [], ⟨_, _, rfl, ⟨_, _, rfl, rfl, rfl⟩, rfl⟩, (by repeat (first | exact List.Sublist.refl _ | refine List.Sublist.cons _ ?_)), rfl, ?_⟩
        rw [hch, h2]; rfl
      · have h2 : r.2 ≠ 12 := by simp at h2; omega
        refine AW.seq ?_; refine AW.reg ?_; (iterate 3 refine ze hT zr zr zr zr zr ?_); refine WT.nil ?_
        refine AW.ret ⟨_, [], ⟨_, _, rfl, ⟨_, _, rfl, rfl, rfl⟩, rfl⟩, (by repeat (first | exact List.Sublist.refl _ | refine List.Sublist.cons _ ?_)), rfl, ?_⟩
        rw [hch, show Go.Sort.hintOf r.2 = .unknown by rw [Go.Sort.hintOf, if_neg h, if_neg h2]]; rfl

end Go.Proofs.D

set_option linter.unusedVariables false
set_option maxRecDepth 20000
set_option maxHeartbeats 0
open Go Go.Abs Go.Proofs Go.Proofs.D
namespace Go.Proofs.D

theorem itPIns_spec (F : Frz) {lt : Item → Item → Bool} {g : Nat} {first capt : List Value} (hc : CmpOk tItem lt F g first capt) {a0 : Option Addr} {m c : Nat} {B : List (Nat × Blk)} {d : Array Item} (hv : Vec tItem F a0 m c B d.toList) (a b : Nat) (hab : a < b) (hb : b ≤ m) (hm : m ≤ 1000000) :
    Abs.Spec CC 157 [.slice a0 m c, .int .i64 a, .int .i64 b, .func (.func g) ⟨first⟩ ⟨capt⟩] F [B] fun F' v o => ∃ B', o = [B'] ∧ v = .bool (Go.Sort.partialInsertionSort lt d a b).2 ∧ Vec tItem F' a0 m c B' (Go.Sort.partialInsertionSort lt d a b).1.toList := by
  obtain ⟨⟨fn, hg, hgb⟩, hcmp⟩ := hc
  refine Abs.Spec.fn (n := 141) Tryd.func157 rfl rfl fun own => ?_
  refine AW.seq ?_; refine AW.reg ?_; refine ze hT zr zr zr zr zr ?_; refine WT.nil ?_; refine AW.seq ?_; refine AW.reg ?_; refine ze hT zr zr zr zr zr ?_; refine WT.add1 zr zr zr zr zr zr (by omega) ?_; refine ze hT zr zr zr zr zr ?_; refine WT.nil ?_; (iterate 2 refine AW.seq ?_); refine AW.reg ?_; refine ze hT zr zr zr zr zr ?_; refine WT.nil ?_
  refine AW.block ?_
  refine AW.loopR (S := Nat × VS Item) (fun s => [(10, .int .i64 (s.1 : Nat)), (9, .int .i64 (s.2.i : Nat))]) (fun s => s.2.B :: own) (fun s G => Vec tItem G a0 m c s.2.B s.2.d.toList ∧ s.1 ≤ 5 ∧ a + 1 ≤ s.2.i ∧ s.2.i ≤ b ∧ Go.Sort.partialIns lt a b (5 - s.1) s.2.i s.2.d = Go.Sort.partialInsertionSort lt d a b) (fun s => 5 - s.1) (0, ⟨a + 1, d, B⟩)
    (SubK.of_map rfl) (OwnLe.refl _) ⟨hv, Nat.zero_le _, Nat.le_refl _, hab, rfl⟩ ?_
  intro u F1 hF1 hP
  obtain ⟨hv1, hk, hi1, hi2, heq⟩ := hP
  (iterate 2 refine AW.seq ?_); refine AW.reg ?_; (iterate 2 refine ze hT zr zr zr zr zr ?_); refine WT.nil ?_
  refine AW.cond rfl (fun h => ?_) (fun h => ?_)
  · have h : u.1 < 5 := by simp at h; omega
    obtain ⟨i2, hsc⟩ : ∃ i2, Go.Sort.scanSorted lt u.2.d b u.2.i = i2 := ⟨_, rfl⟩
    rw [show 5 - u.1 = (5 - (u.1 + 1)) + 1 by omega, Go.Sort.partialIns_succ, hsc] at heq
    refine AW.skip ?_
    refine AW.seq ?_
    refine AW.block ?_
    refine AW.jn (S := Unit) (fun _ => [(9, .int .i64 (i2 : Nat))]) (fun _ => u.2.B :: own) (fun _ _ => u.2.i ≤ i2 ∧ i2 ≤ b) ?_ (fun _ F2 hF2 hi2' => ?_)
    · refine AW.block ?_
      refine AW.loopR (S := Nat) (fun i => [(9, .int .i64 (i : Nat))]) (fun _ => u.2.B :: own) (fun i _ => u.2.i ≤ i ∧ i ≤ b ∧ Go.Sort.scanSorted lt u.2.d b i = i2) (fun i => b - i) u.2.i (SubK.of_map rfl) (OwnLe.refl _) ⟨Nat.le_refl _, hi2, hsc⟩ ?_
      intro i G hG hP
      obtain ⟨j1, j2, j3⟩ := hP
      have hvG := hv1.mono hG
      have hsz : m = u.2.d.size := hv1.len
      (iterate 2 refine AW.seq ?_); refine AW.draw (ps := []) zr zr ?_; (iterate 4 refine ze hT zr zr zr zr zr ?_)
      refine WT.split 22 rfl (fun h => ?_) (fun h => ?_)
      · have h : i < b := by simp at h; omega
        (iterate 3 refine ze hT zr zr zr zr zr ?_)
        refine WT.vidx hT hvG zr zr zr zr zr zr zr zr zr (by omega) (fun bl1 hbl1 => ?_)
        refine WT.vldS hT 0 hvG hbl1 (arr_at (by omega)) zr zr zr zr zr zr zr zr zr (fun l1 hl1 => ?_)
        (iterate 2 refine ze hT zr zr zr zr zr ?_); refine WT.sub1 zr zr zr zr zr zr (by omega) ?_
        refine WT.vidx hT hvG zr zr zr zr zr zr zr zr zr (by omega) (fun bl2 hbl2 => ?_)
        refine WT.vldS hT 0 hvG hbl2 (arr_at (by omega)) zr zr zr zr zr zr zr zr zr (fun l2 hl2 => ?_)
        refine WT.callC hg hgb zr zr zr zr zr zr zr (hcmp G (hF1.trans hG) l1 l2 _ _ hl1 hl2) (fun v hvz => ?_)
        obtain ⟨z, rfl, hz⟩ := hvz
        (iterate 3 refine ze hT zr zr zr zr zr ?_); refine WT.nil ?_; refine And.intro trivial ?_
        refine AW.cond rfl (fun hc => ?_) (fun hc => ?_)
        · have hlt : lt u.2.d[i]! u.2.d[i - 1]! = false := Bool.eq_false_iff.2 (fun hh => absurd (hz.2 hh) (by simpa using hc))
          refine AW.skip ?_
          refine AW.block ?_
          refine AW.reg ?_; refine ze hT zr zr zr zr zr ?_; refine WT.add1 zr zr zr zr zr zr (by omega) ?_; refine ze hT zr zr zr zr zr ?_; refine WT.nil ?_
          refine ⟨i + 1, by omega, SubK.of_map rfl, OwnLe.refl _, by omega, by omega, ?_⟩
          rw [← j3]
          conv => rhs; rw [Go.Sort.scanSorted]
          rw [if_pos (by simp [h, hlt])]
        · have hlt := hz.1 (by simpa using hc)
          refine AW.exit ?_
          have e : i = i2 := by rw [← j3, Go.Sort.scanSorted, if_neg (by simp [hlt])]
          exact ⟨(), SubK.of_map (by rw [e]; rfl), OwnLe.refl _, by omega, by omega⟩
      · have h : ¬ i < b := by simp at h; omega
        (iterate 13 refine zx zr zr zr zr ?_); refine ze hT zr zr zr zr zr ?_; refine WT.nil ?_; refine And.intro trivial ?_
        refine AW.cond rfl (fun h => (by cases h)) (fun _ => ?_)
        refine AW.exit ?_
        have e : i = i2 := by rw [← j3, Go.Sort.scanSorted, if_neg (by simp [h])]
        exact ⟨(), SubK.of_map (by rw [e]; rfl), OwnLe.refl _, by omega, by omega⟩
    · obtain ⟨j1, j2⟩ := hi2'
      have hv2 := hv1.mono hF2
      have hsz : m = u.2.d.size := hv1.len
      have hF2' := hF1.trans hF2
      (iterate 2 refine AW.seq ?_); refine AW.reg ?_; (iterate 3 refine ze hT zr zr zr zr zr ?_); refine WT.nil ?_
      refine AW.cond rfl (fun h => ?_) (fun h => ?_)
      · have h : i2 = b := by simp at h; omega
        refine AW.seq ?_; refine AW.reg ?_; refine ze hT zr zr zr zr zr ?_; refine WT.nil ?_
        refine AW.ret ⟨_, [_], ⟨_, _, rfl, rfl, rfl⟩, (by repeat (first | exact List.Sublist.refl _ | refine List.Sublist.cons _ ?_)), _, rfl, ?_, ?_⟩
        · rw [← heq, if_pos h]; rfl
        · rw [← heq, if_pos h]; exact hv2
      · have h : i2 ≠ b := by simp at h; omega
        rw [if_neg h] at heq
        refine AW.skip ?_; (iterate 2 refine AW.seq ?_); refine AW.reg ?_; (iterate 2 refine ze hT zr zr zr zr zr ?_); refine WT.subN zr zr zr zr zr zr (by omega) ?_; refine ze hT zr zr zr zr zr ?_; refine WT.nil ?_
        refine AW.cond rfl (fun h5 => ?_) (fun h5 => ?_)
        · have h5 : b - a < 50 := by simp at h5; omega
          refine AW.seq ?_; refine AW.reg ?_; refine ze hT zr zr zr zr zr ?_; refine WT.nil ?_
          refine AW.ret ⟨_, [_], ⟨_, _, rfl, rfl, rfl⟩, (by repeat (first | exact List.Sublist.refl _ | refine List.Sublist.cons _ ?_)), _, rfl, ?_, ?_⟩
          · rw [← heq, if_pos h5]; rfl
          · rw [← heq, if_pos h5]; exact hv2
        · have h5 : ¬ b - a < 50 := by simp at h5; omega
          rw [if_neg h5] at heq
          refine AW.skip ?_; refine AW.seq ?_
          refine AW.draw (ps := [(4, 15)]) rfl rfl ?_
          (iterate 4 refine ze hT zr zr zr zr zr ?_); refine WT.sub1 zr zr zr zr zr zr (by omega) ?_; (iterate 2 refine ze hT zr zr zr zr zr ?_); refine WT.sub1 zr zr zr zr zr zr (by omega) ?_
          refine WT.vidx hT hv2 zr zr zr zr zr zr zr zr zr (by omega) (fun bl3 hbl3 => ?_)
          refine WT.vldS hT 0 hv2 hbl3 (arr_at (by omega)) zr zr zr zr zr zr zr zr zr (fun l3 hl3 => ?_)
          (iterate 2 refine ze hT zr zr zr zr zr ?_)
          refine WT.vidx hT hv2 zr zr zr zr zr zr zr zr zr (by omega) (fun bl4 hbl4 => ?_)
          refine WT.vldS hT 0 hv2 hbl4 (arr_at (by omega)) zr zr zr zr zr zr zr zr zr (fun l4 hl4 => ?_)
          refine WT.vidx hT hv2 zr zr zr zr zr zr zr zr zr (by omega) (fun bl5 hbl5 => ?_)
          refine WT.vst (y := u.2.d[i2 - 1]!) hT 0 hv2 hbl5 (List.getElem?_eq_getElem (by simp; omega)) zr zr zr zr zr hl3 rfl (fun _ => rfl) rfl (fun Bl5 hBl5 => ?_)
          refine WT.vidx hT hBl5 zr zr zr zr zr zr zr zr zr (by omega) (fun bl6 hbl6 => ?_)
          refine WT.vst (y := u.2.d[i2]!) hT 0 hBl5 hbl6 (List.getElem?_eq_getElem (by simp; omega)) zr zr zr zr zr hl4 rfl (fun _ => rfl) rfl (fun Bl6 hBl6 => ?_)
          rw [← swp_list] at hBl6
          obtain ⟨d1, hd1⟩ : ∃ d1, Go.Sort.swp u.2.d i2 (i2 - 1) = d1 := ⟨_, rfl⟩
          rw [hd1] at heq hBl6
          refine WT.nil ?_
          refine ⟨(by repeat (first | exact trivial | refine recs_pair rfl rfl (by first | exact keep0 | exact keep1 (keeps_frz (by assumption)) | exact kp 0 0 me me | exact kp 1 1 me me | exact kp 2 2 me me | exact kp 3 3 me me | exact kp 4 4 me me | exact kp 5 5 me me | exact kp 6 6 me me | exact kp 0 1 me me | exact kp 1 2 me me | exact kp 2 3 me me | exact kp 3 4 me me | exact kp 4 5 me me | exact kp 5 6 me me | exact kp 6 7 me me) ?_)), ?_⟩
          refine AW.jn (S := VS Item) (fun _ => []) (fun s => s.B :: own) (fun s G => Vec tItem G a0 m c s.B s.d.toList ∧ s.d = Go.Sort.fixDown lt a i2 d1) ?_ (fun s F3 hF3 hP3 => ?_)
          · refine AW.seq ?_; refine AW.reg ?_; (iterate 2 refine ze hT zr zr zr zr zr ?_); refine WT.subN zr zr zr zr zr zr (by omega) ?_; refine ze hT zr zr zr zr zr ?_; refine WT.nil ?_
            refine AW.cond rfl (fun h2 => ?_) (fun h2 => ?_)
            · have h2 : 2 ≤ i2 - a := by simp at h2; omega
              rw [Go.Sort.fixDown, if_pos h2]
              refine AW.seq ?_; refine AW.reg ?_; refine ze hT zr zr zr zr zr ?_; refine WT.sub1 zr zr zr zr zr zr (by omega) ?_; refine ze hT zr zr zr zr zr ?_; refine WT.nil ?_
              refine AW.block ?_
              refine AW.loopR (S := VS Item) (fun s => [(11, .int .i64 (s.i : Nat))]) (fun s => s.B :: own) (fun s G => Vec tItem G a0 m c s.B s.d.toList ∧ s.i < m ∧ Go.Sort.shiftDown lt s.i s.d = Go.Sort.shiftDown lt (i2 - 1) d1) (fun s => s.i) ⟨i2 - 1, d1, Bl6⟩ (SubK.of_map rfl) (OwnLe.refl _) ⟨hBl6, by dsimp only; omega, rfl⟩ ?_
              intro w G hG hP4
              obtain ⟨hw, hwi, hwe⟩ := hP4
              have hszw : m = w.d.size := hw.len
              (iterate 2 refine AW.seq ?_); refine AW.reg ?_; (iterate 2 refine ze hT zr zr zr zr zr ?_); refine WT.nil ?_
              refine AW.cond rfl (fun h3 => ?_) (fun h3 => ?_)
              · have h3 : 1 ≤ w.i := by simp at h3; omega
                have one : Go.Sort.shiftDown lt w.i w.d = if lt w.d[w.i]! w.d[w.i - 1]! = true then Go.Sort.shiftDown lt (w.i - 1) (Go.Sort.swp w.d w.i (w.i - 1)) else w.d := by
                  cases hi : w.i with
                  | zero => omega
                  | succ k =>
                    rw [Go.Sort.shiftDown, Nat.add_sub_cancel]
                    cases lt w.d[k + 1]! w.d[k]! <;> simp
                refine AW.skip ?_; refine AW.seq ?_
                refine AW.block ?_
                (iterate 2 refine AW.seq ?_); refine AW.draw (ps := []) zr zr ?_; (iterate 3 refine ze hT zr zr zr zr zr ?_)
                refine WT.vidx hT hw zr zr zr zr zr zr zr zr zr (by omega) (fun bl7 hbl7 => ?_)
                refine WT.vldS hT 0 hw hbl7 (arr_at (by omega)) zr zr zr zr zr zr zr zr zr (fun l7 hl7 => ?_)
                (iterate 2 refine ze hT zr zr zr zr zr ?_); refine WT.sub1 zr zr zr zr zr zr (by omega) ?_
                refine WT.vidx hT hw zr zr zr zr zr zr zr zr zr (by omega) (fun bl8 hbl8 => ?_)
                refine WT.vldS hT 0 hw hbl8 (arr_at (by omega)) zr zr zr zr zr zr zr zr zr (fun l8 hl8 => ?_)
                refine WT.callC hg hgb zr zr zr zr zr zr zr (hcmp G (hF2'.trans hG) l7 l8 _ _ hl7 hl8) (fun v hvz => ?_)
                obtain ⟨z, rfl, hz⟩ := hvz
                (iterate 2 refine ze hT zr zr zr zr zr ?_); refine WT.nil ?_; refine And.intro trivial ?_
                refine AW.cond rfl (fun hc => ?_) (fun hc => ?_)
                · have hlt : lt w.d[w.i]! w.d[w.i - 1]! = false := Bool.eq_false_iff.2 (fun hh => absurd (hz.2 hh) (by simpa using hc))
                  refine AW.exit ?_
                  refine ⟨⟨0, w.d, w.B⟩, SubK.of_map rfl, OwnLe.refl _, hw, ?_⟩
                  rw [← hwe, one, if_neg (by rw [hlt]; decide)]
                · have hlt := hz.1 (by simpa using hc)
                  refine AW.skip ?_
                  refine AW.draw (ps := [(4, 15)]) rfl rfl ?_
                  (iterate 4 refine ze hT zr zr zr zr zr ?_); refine WT.sub1 zr zr zr zr zr zr (by omega) ?_; (iterate 2 refine ze hT zr zr zr zr zr ?_); refine WT.sub1 zr zr zr zr zr zr (by omega) ?_
                  refine WT.vidx hT hw zr zr zr zr zr zr zr zr zr (by omega) (fun bl9 hbl9 => ?_)
                  refine WT.vldS hT 0 hw hbl9 (arr_at (by omega)) zr zr zr zr zr zr zr zr zr (fun l9 hl9 => ?_)
                  (iterate 2 refine ze hT zr zr zr zr zr ?_)
                  refine WT.vidx hT hw zr zr zr zr zr zr zr zr zr (by omega) (fun bl10 hbl10 => ?_)
                  refine WT.vldS hT 0 hw hbl10 (arr_at (by omega)) zr zr zr zr zr zr zr zr zr (fun l10 hl10 => ?_)
                  refine WT.vidx hT hw zr zr zr zr zr zr zr zr zr (by omega) (fun bl11 hbl11 => ?_)
                  refine WT.vst (y := w.d[w.i - 1]!) hT 0 hw hbl11 (List.getElem?_eq_getElem (by simp; omega)) zr zr zr zr zr hl9 rfl (fun _ => rfl) rfl (fun Bl11 hBl11 => ?_)
                  refine WT.vidx hT hBl11 zr zr zr zr zr zr zr zr zr (by omega) (fun bl12 hbl12 => ?_)
                  refine WT.vst (y := w.d[w.i]!) hT 0 hBl11 hbl12 (List.getElem?_eq_getElem (by simp; omega)) zr zr zr zr zr hl10 rfl (fun _ => rfl) rfl (fun Bl12 hBl12 => ?_)
                  rw [← swp_list] at hBl12
                  refine WT.nil ?_
                  refine ⟨(by repeat (first | exact trivial | refine recs_pair rfl rfl (by first | exact keep0 | exact keep1 (keeps_frz (by assumption)) | exact kp 0 0 me me | exact kp 1 1 me me | exact kp 2 2 me me | exact kp 3 3 me me | exact kp 4 4 me me | exact kp 5 5 me me | exact kp 6 6 me me | exact kp 0 1 me me | exact kp 1 2 me me | exact kp 2 3 me me | exact kp 3 4 me me | exact kp 4 5 me me | exact kp 5 6 me me | exact kp 6 7 me me) ?_)), ?_⟩
                  refine AW.reg ?_; refine ze hT zr zr zr zr zr ?_; refine WT.sub1 zr zr zr zr zr zr (by omega) ?_; refine ze hT zr zr zr zr zr ?_; refine WT.nil ?_
                  refine ⟨⟨w.i - 1, Go.Sort.swp w.d w.i (w.i - 1), Bl12⟩, by dsimp only; omega, SubK.of_map rfl, OwnLe.refl _, hBl12, by dsimp only; omega, ?_⟩
                  rw [← hwe, one, if_pos hlt]
              · have h3 : w.i = 0 := by simp at h3; omega
                refine AW.exit ?_
                refine ⟨⟨0, w.d, w.B⟩, SubK.of_map rfl, OwnLe.refl _, hw, ?_⟩
                rw [← hwe, h3]; rfl
            · have h2 : ¬ 2 ≤ i2 - a := by simp at h2; omega
              rw [Go.Sort.fixDown, if_neg h2]
              refine AW.skip ?_
              exact ⟨⟨0, d1, Bl6⟩, SubK.of_map rfl, OwnLe.refl _, hBl6, rfl⟩
          · obtain ⟨hs, hsd⟩ := hP3
            have hszs : m = s.d.size := hs.len
            have hF3' := hF2'.trans hF3
            rw [← hsd] at heq
            refine AW.seq ?_; refine AW.reg ?_; (iterate 2 refine ze hT zr zr zr zr zr ?_); refine WT.subN zr zr zr zr zr zr (by omega) ?_; refine ze hT zr zr zr zr zr ?_; refine WT.nil ?_
            refine AW.cond rfl (fun h2 => ?_) (fun h2 => ?_)
            · have h2 : 2 ≤ b - i2 := by simp at h2; omega
              rw [Go.Sort.fixUp, if_pos h2] at heq
              refine AW.seq ?_; refine AW.reg ?_; refine ze hT zr zr zr zr zr ?_; refine WT.add1 zr zr zr zr zr zr (by omega) ?_; refine ze hT zr zr zr zr zr ?_; refine WT.nil ?_
              refine AW.block ?_
              refine AW.loopR (S := VS Item) (fun s => [(12, .int .i64 (s.i : Nat))]) (fun s => s.B :: own) (fun w G => Vec tItem G a0 m c w.B w.d.toList ∧ i2 + 1 ≤ w.i ∧ Go.Sort.shiftUp lt b w.i w.d = Go.Sort.shiftUp lt b (i2 + 1) s.d) (fun s => b - s.i) ⟨i2 + 1, s.d, s.B⟩ (SubK.of_map rfl) (OwnLe.refl _) ⟨hs, Nat.le_refl _, rfl⟩ ?_
              intro w G hG hP4
              obtain ⟨hw, hwi, hwe⟩ := hP4
              have hszw : m = w.d.size := hw.len
              (iterate 2 refine AW.seq ?_); refine AW.reg ?_; (iterate 3 refine ze hT zr zr zr zr zr ?_); refine WT.nil ?_
              refine AW.cond rfl (fun h3 => ?_) (fun h3 => ?_)
              · have h3 : w.i < b := by simp at h3; omega
                have one : Go.Sort.shiftUp lt b w.i w.d = if lt w.d[w.i]! w.d[w.i - 1]! = true then Go.Sort.shiftUp lt b (w.i + 1) (Go.Sort.swp w.d w.i (w.i - 1)) else w.d := by
                  conv => lhs; rw [Go.Sort.shiftUp]
                  rw [if_pos h3]
                  cases lt w.d[w.i]! w.d[w.i - 1]! <;> simp
                refine AW.skip ?_; refine AW.seq ?_
                refine AW.block ?_
                (iterate 2 refine AW.seq ?_); refine AW.draw (ps := []) zr zr ?_; (iterate 3 refine ze hT zr zr zr zr zr ?_)
                refine WT.vidx hT hw zr zr zr zr zr zr zr zr zr (by omega) (fun bl7 hbl7 => ?_)
                refine WT.vldS hT 0 hw hbl7 (arr_at (by omega)) zr zr zr zr zr zr zr zr zr (fun l7 hl7 => ?_)
                (iterate 2 refine ze hT zr zr zr zr zr ?_); refine WT.sub1 zr zr zr zr zr zr (by omega) ?_
                refine WT.vidx hT hw zr zr zr zr zr zr zr zr zr (by omega) (fun bl8 hbl8 => ?_)
                refine WT.vldS hT 0 hw hbl8 (arr_at (by omega)) zr zr zr zr zr zr zr zr zr (fun l8 hl8 => ?_)
                refine WT.callC hg hgb zr zr zr zr zr zr zr (hcmp G (hF3'.trans hG) l7 l8 _ _ hl7 hl8) (fun v hvz => ?_)
                obtain ⟨z, rfl, hz⟩ := hvz
                (iterate 2 refine ze hT zr zr zr zr zr ?_); refine WT.nil ?_; refine And.intro trivial ?_
                refine AW.cond rfl (fun hc => ?_) (fun hc => ?_)
                · have hlt : lt w.d[w.i]! w.d[w.i - 1]! = false := Bool.eq_false_iff.2 (fun hh => absurd (hz.2 hh) (by simpa using hc))
                  refine AW.exit ?_
                  refine AW.reg ?_; refine ze hT zr zr zr zr zr ?_; refine WT.add1 zr zr zr zr zr zr (by omega) ?_; refine ze hT zr zr zr zr zr ?_; refine WT.nil ?_
                  refine ⟨(u.1 + 1, ⟨i2, w.d, w.B⟩), by dsimp only; omega, SubK.of_map rfl, OwnLe.refl _, hw, by dsimp only; omega, by dsimp only; omega, j2, ?_⟩
                  rw [← heq, ← hwe, one, if_neg (by rw [hlt]; decide)]
                · have hlt := hz.1 (by simpa using hc)
                  refine AW.skip ?_
                  refine AW.draw (ps := [(4, 15)]) rfl rfl ?_
                  (iterate 4 refine ze hT zr zr zr zr zr ?_); refine WT.sub1 zr zr zr zr zr zr (by omega) ?_; (iterate 2 refine ze hT zr zr zr zr zr ?_); refine WT.sub1 zr zr zr zr zr zr (by omega) ?_
                  refine WT.vidx hT hw zr zr zr zr zr zr zr zr zr (by omega) (fun bl9 hbl9 => ?_)
                  refine WT.vldS hT 0 hw hbl9 (arr_at (by omega)) zr zr zr zr zr zr zr zr zr (fun l9 hl9 => ?_)
                  (iterate 2 refine ze hT zr zr zr zr zr ?_)
                  refine WT.vidx hT hw zr zr zr zr zr zr zr zr zr (by omega) (fun bl10 hbl10 => ?_)
                  refine WT.vldS hT 0 hw hbl10 (arr_at (by omega)) zr zr zr zr zr zr zr zr zr (fun l10 hl10 => ?_)
                  refine WT.vidx hT hw zr zr zr zr zr zr zr zr zr (by omega) (fun bl11 hbl11 => ?_)
                  refine WT.vst (y := w.d[w.i - 1]!) hT 0 hw hbl11 (List.getElem?_eq_getElem (by simp; omega)) zr zr zr zr zr hl9 rfl (fun _ => rfl) rfl (fun Bl11 hBl11 => ?_)
                  refine WT.vidx hT hBl11 zr zr zr zr zr zr zr zr zr (by omega) (fun bl12 hbl12 => ?_)
                  refine WT.vst (y := w.d[w.i]!) hT 0 hBl11 hbl12 (List.getElem?_eq_getElem (by simp; omega)) zr zr zr zr zr hl10 rfl (fun _ => rfl) rfl (fun Bl12 hBl12 => ?_)
                  rw [← swp_list] at hBl12
                  refine WT.nil ?_
                  refine ⟨(by repeat (first | exact trivial | refine recs_pair rfl rfl (by first | exact keep0 | exact keep1 (keeps_frz (by assumption)) | exact kp 0 0 me me | exact kp 1 1 me me | exact kp 2 2 me me | exact kp 3 3 me me | exact kp 4 4 me me | exact kp 5 5 me me | exact kp 6 6 me me | exact kp 0 1 me me | exact kp 1 2 me me | exact kp 2 3 me me | exact kp 3 4 me me | exact kp 4 5 me me | exact kp 5 6 me me | exact kp 6 7 me me) ?_)), ?_⟩
                  refine AW.reg ?_; refine ze hT zr zr zr zr zr ?_; refine WT.add1 zr zr zr zr zr zr (by omega) ?_; refine ze hT zr zr zr zr zr ?_; refine WT.nil ?_
                  refine ⟨⟨w.i + 1, Go.Sort.swp w.d w.i (w.i - 1), Bl12⟩, by dsimp only; omega, SubK.of_map rfl, OwnLe.refl _, hBl12, by dsimp only; omega, ?_⟩
                  rw [← hwe, one, if_pos hlt]
              · have h3 : ¬ w.i < b := by simp at h3; omega
                refine AW.exit ?_
                refine AW.reg ?_; refine ze hT zr zr zr zr zr ?_; refine WT.add1 zr zr zr zr zr zr (by omega) ?_; refine ze hT zr zr zr zr zr ?_; refine WT.nil ?_
                refine ⟨(u.1 + 1, ⟨i2, w.d, w.B⟩), by dsimp only; omega, SubK.of_map rfl, OwnLe.refl _, hw, by dsimp only; omega, by dsimp only; omega, j2, ?_⟩
                rw [← heq, ← hwe, Go.Sort.shiftUp, if_neg h3]
            · have h2 : ¬ 2 ≤ b - i2 := by simp at h2; omega
              rw [Go.Sort.fixUp, if_neg h2] at heq
              refine AW.skip ?_; refine AW.reg ?_; refine ze hT zr zr zr zr zr ?_; refine WT.add1 zr zr zr zr zr zr (by omega) ?_; refine ze hT zr zr zr zr zr ?_; refine WT.nil ?_
              exact ⟨(u.1 + 1, ⟨i2, s.d, s.B⟩), by dsimp only; omega, SubK.of_map rfl, OwnLe.refl _, hs, by dsimp only; omega, by dsimp only; omega, j2, heq⟩
  · have h : u.1 = 5 := by simp at h; omega
    refine AW.exit ?_
    refine AW.seq ?_; refine AW.reg ?_; refine ze hT zr zr zr zr zr ?_; refine WT.nil ?_
    rw [h] at heq
    refine AW.ret ⟨_, [_], ⟨_, _, rfl, rfl, rfl⟩, (by repeat (first | exact List.Sublist.refl _ | refine List.Sublist.cons _ ?_)), _, rfl, ?_, ?_⟩
    · rw [← heq]; rfl
    · rw [← heq]; exact hv1

end Go.Proofs.D

set_option linter.unusedVariables false
set_option maxRecDepth 20000
set_option maxHeartbeats 0
open Go Go.Abs Go.Proofs Go.Proofs.D
namespace Go.Proofs.D

/-! ### bits.Len -/
theorem bitsLen_shift (x k : Nat) (h : 2 ^ k ≤ x) : Go.Sort.bitsLen x = k + Go.Sort.bitsLen (x / 2 ^ k) := by
  apply Nat.le_antisymm
  · rw [Go.Sort.bitsLen_le_iff]
    have h1 := Go.Sort.lt_two_pow_bitsLen (x / 2 ^ k)
    rw [Nat.div_lt_iff_lt_mul (Nat.two_pow_pos k)] at h1
    rw [Nat.pow_add, Nat.mul_comm]; exact h1
  · have h1 := Go.Sort.lt_two_pow_bitsLen x
    have hk : k ≤ Go.Sort.bitsLen x := by
      rcases Nat.lt_or_ge (Go.Sort.bitsLen x) k with h2 | h2
      · have := Nat.pow_le_pow_right (show 0 < 2 by decide) (Nat.le_of_lt h2)
        omega
      · exact h2
    have : Go.Sort.bitsLen (x / 2 ^ k) ≤ Go.Sort.bitsLen x - k := by
      rw [Go.Sort.bitsLen_le_iff, Nat.div_lt_iff_lt_mul (Nat.two_pow_pos k), ← Nat.pow_add, Nat.sub_add_cancel hk]
      exact h1
    omega

theorem len64_spec (F : Frz) (x : Nat) (hx : x < 4294967296) : Abs.Spec CC 161 [.int .u64 x] F [] fun _ v o => o = [] ∧ v = .int .i64 (Go.Sort.bitsLen x : Nat) := by
  have fin : ∀ (y n : Nat), y < 256 → n ≤ 64 → n + Go.Sort.bitsLen y = Go.Sort.bitsLen x → True := fun _ _ _ _ _ => trivial
  refine Abs.Spec.fn (n := 25) Tryd.func161 rfl rfl fun own => ?_
  refine AW.seq ?_; refine AW.reg ?_; refine ze hT zr zr zr zr zr ?_; refine WT.nil ?_; (iterate 2 refine AW.seq ?_); refine AW.reg ?_; (iterate 2 refine ze hT zr zr zr zr zr ?_); refine WT.nil ?_
  refine AW.cond rfl (fun h => (by simp at h; omega)) (fun _ => ?_)
  refine AW.skip ?_
  refine AW.jn (S := Nat × Nat) (fun s => [(0, .int .u64 (s.1 : Nat)), (2, .int .i64 (s.2 : Nat))]) (fun _ => own) (fun s _ => s.1 < 65536 ∧ s.2 ≤ 16 ∧ s.2 + Go.Sort.bitsLen s.1 = Go.Sort.bitsLen x) ?_ (fun s F1 hF1 hP => ?_)
  · refine AW.seq ?_; refine AW.reg ?_; (iterate 2 refine ze hT zr zr zr zr zr ?_); refine WT.nil ?_
    refine AW.cond rfl (fun h => ?_) (fun h => ?_)
    · have h : 65536 ≤ x := by simp at h; omega
      refine AW.seq ?_; refine AW.reg ?_; refine ze hT zr zr zr zr zr ?_
      refine WT.shV zr zr zr zr zr zr (by decide) (shr64 (y := 16) (by decide)) ?_
      refine ze hT zr zr zr zr zr ?_; refine WT.nil ?_; refine AW.reg ?_; refine ze hT zr zr zr zr zr ?_; refine za zr zr zr zr zr zr (by omega) ?_; refine ze hT zr zr zr zr zr ?_; refine WT.nil ?_
      refine ⟨(x / 2 ^ 16, 16), SubK.of_map rfl, OwnLe.refl _, ?_, Nat.le_refl _, (bitsLen_shift x 16 h).symm⟩
      show x / 65536 < 65536
      omega
    · have h : x < 65536 := by simp at h; omega
      refine AW.skip ?_
      exact ⟨(x, 0), SubK.of_map rfl, OwnLe.refl _, h, Nat.zero_le _, by simp⟩
  · obtain ⟨h1, h2, h3⟩ := hP
    refine AW.jn (S := Nat × Nat) (fun s => [(0, .int .u64 (s.1 : Nat)), (2, .int .i64 (s.2 : Nat))]) (fun _ => own) (fun s _ => s.1 < 256 ∧ s.2 ≤ 24 ∧ s.2 + Go.Sort.bitsLen s.1 = Go.Sort.bitsLen x) ?_ (fun u F2 hF2 hP => ?_)
    · refine AW.seq ?_; refine AW.reg ?_; (iterate 2 refine ze hT zr zr zr zr zr ?_); refine WT.nil ?_
      refine AW.cond rfl (fun h => ?_) (fun h => ?_)
      · have h : 256 ≤ s.1 := by simp at h; omega
        refine AW.seq ?_; refine AW.reg ?_; refine ze hT zr zr zr zr zr ?_
        refine WT.shV zr zr zr zr zr zr (by decide) (shr64 (y := 8) (by decide)) ?_
        refine ze hT zr zr zr zr zr ?_; refine WT.nil ?_; refine AW.reg ?_; refine ze hT zr zr zr zr zr ?_; refine za zr zr zr zr zr zr (by omega) ?_; refine ze hT zr zr zr zr zr ?_; refine WT.nil ?_
        refine ⟨(s.1 / 2 ^ 8, s.2 + 8), SubK.of_map rfl, OwnLe.refl _, ?_, by dsimp only; omega, ?_⟩
        · show s.1 / 256 < 256
          omega
        · have := bitsLen_shift s.1 8 h
          dsimp only
          omega
      · have h : s.1 < 256 := by simp at h; omega
        refine AW.skip ?_
        exact ⟨s, SubK.of_map rfl, OwnLe.refl _, h, by omega, h3⟩
    · obtain ⟨g1, g2, g3⟩ := hP
      refine AW.seq ?_; refine AW.reg ?_; (iterate 2 refine ze hT zr zr zr zr zr ?_)
      refine WT.conv hT (k2 := .u8) zr zr zr zr zr zr zr zr (wrapU8 (by omega)) ?_
      have hb : Go.Sort.bitsLen u.1 ≤ 8 := (Go.Sort.bitsLen_le_iff _ _).2 g1
      refine WT.indexStr (m := 256) (f := Go.Sort.bitsLen) hT zr zr zr zr zr zr zr zr g1 (by decide +kernel) ?_
      refine WT.conv hT (k2 := .i64) zr zr zr zr zr zr zr zr (wrap64 (by omega)) ?_
      refine WT.addN zr zr zr zr zr zr (by omega) ?_; refine ze hT zr zr zr zr zr ?_; refine WT.nil ?_
      refine AW.ret ⟨_, [], ⟨_, _, rfl, rfl, rfl⟩, (by repeat (first | exact List.Sublist.refl _ | refine List.Sublist.cons _ ?_)), rfl, ?_⟩
      rw [g3]; rfl

theorem blen_spec (F : Frz) (x : Nat) (hx : x < 4294967296) : Abs.Spec CC 139 [.int .u64 x] F [] fun _ v o => o = [] ∧ v = .int .i64 (Go.Sort.bitsLen x : Nat) := by
  refine Abs.Spec.fn (n := 8) Tryd.func139 rfl rfl fun own => ?_
  refine AW.seq ?_; refine AW.reg ?_; refine ze hT zr zr zr zr zr ?_; refine WT.nil ?_; refine AW.seq ?_
  refine AW.cond rfl (fun h => (by cases h)) (fun _ => ?_)
  refine AW.skip ?_; refine AW.seq ?_; refine AW.reg ?_; refine ze hT zr zr zr zr zr ?_
  refine WT.callV Tryd.func161 zr zr zr zr zr zr (len64_spec _ x hx) (fun v hv => ?_)
  subst hv
  refine ze hT zr zr zr zr zr ?_; refine WT.nil ?_
  exact AW.ret ⟨_, [], ⟨_, _, rfl, rfl, rfl⟩, (by repeat (first | exact List.Sublist.refl _ | refine List.Sublist.cons _ ?_)), rfl, rfl⟩

theorem npow_spec (F : Frz) (x : Nat) (hx : x ≤ 1000000) : Abs.Spec CC 178 [.int .i64 x] F [] fun _ v o => o = [] ∧ v = .int .u64 ((2 ^ Go.Sort.bitsLen x : Nat) : Int) := by
  have hb : Go.Sort.bitsLen x ≤ 20 := (Go.Sort.bitsLen_le_iff _ _).2 (by have : 2 ^ 20 = 1048576 := rfl
                                                                         omega)
  have hp : 2 ^ Go.Sort.bitsLen x ≤ 2 ^ 20 := Nat.pow_le_pow_right (by decide) hb
  have h20 : 2 ^ 20 = 1048576 := rfl
  refine Abs.Spec.fn (n := 7) Tryd.func178 rfl rfl fun own => ?_
  refine AW.seq ?_; refine AW.reg ?_; refine ze hT zr zr zr zr zr ?_; refine WT.nil ?_; refine AW.seq ?_; refine AW.reg ?_; refine ze hT zr zr zr zr zr ?_
  refine WT.conv hT (k2 := .u64) zr zr zr zr zr zr zr zr (wrapU64 (by omega)) ?_
  refine WT.callV Tryd.func139 zr zr zr zr zr zr (blen_spec _ x (by omega)) (fun v hv => ?_)
  subst hv
  have e := shl64 (x := 1) (y := Go.Sort.bitsLen x) (by omega)
  rw [Nat.one_mul, Nat.mod_eq_of_lt (by omega)] at e
  refine WT.shV zr zr zr zr zr zr (by decide) e ?_
  refine ze hT zr zr zr zr zr ?_; refine WT.nil ?_
  exact AW.ret ⟨_, [], ⟨_, _, rfl, rfl, rfl⟩, (by repeat (first | exact List.Sublist.refl _ | refine List.Sublist.cons _ ?_)), rfl, rfl⟩

theorem xorn_spec (F : Frz) (ip r : Nat) (hr : r < 18446744073709551616) : Abs.Spec CC 179 [.pointer (some ⟨ip, 0, none⟩)] F [[(ip, .cells false [.int .u64 r])]] fun F' v o => ∃ B', o = [B'] ∧ v = .int .u64 (Go.Sort.xorNextN r : Nat) ∧ B' = [(ip, .cells false [.int .u64 (Go.Sort.xorNextN r : Nat)])] := by
  obtain ⟨a, ha⟩ : ∃ a, r ^^^ (r * 8192 % 18446744073709551616) = a := ⟨_, rfl⟩
  obtain ⟨b, hb⟩ : ∃ b, a ^^^ (a / 128) = b := ⟨_, rfl⟩
  obtain ⟨c, hc⟩ : ∃ c, b ^^^ (b * 131072 % 18446744073709551616) = c := ⟨_, rfl⟩
  have p : (18446744073709551616 : Nat) = 2 ^ 64 := by decide
  have ha2 : a < 18446744073709551616 := by rw [← ha, p]; exact Nat.xor_lt_two_pow (by omega) (by omega)
  have hb2 : b < 18446744073709551616 := by rw [← hb, p]; exact Nat.xor_lt_two_pow (by omega) (by omega)
  have hx : Go.Sort.xorNextN r = c := by simp only [Go.Sort.xorNextN, ha, hb, hc]
  rw [hx]
  refine Abs.Spec.fn (n := 33) Tryd.func179 rfl rfl fun own => ?_
  refine AW.seq ?_; refine AW.reg ?_; refine ze hT zr zr zr zr zr ?_; refine WT.nil ?_; refine AW.seq ?_; refine AW.draw (ps := []) zr zr ?_; (iterate 2 refine ze hT zr zr zr zr zr ?_); refine zl hT 0 zr zr zr zr zr zr me zr ?_; (iterate 2 refine ze hT zr zr zr zr zr ?_); refine zl hT 0 zr zr zr zr zr zr me zr ?_
  refine WT.shV zr zr zr zr zr zr (by decide) (shl64 (y := 13) (by decide)) ?_
  refine WT.binV zr zr zr zr zr zr (by decide) (xor64 hr (Nat.mod_lt _ (by decide))) ?_
  rw [show r ^^^ (r * 2 ^ 13 % 18446744073709551616) = a from ha]
  refine ze hT zr zr zr zr zr ?_; refine zs hT 0 0 zr zr zr zr zr zr zr zr zr zr zr zr ?_; refine WT.nil ?_; refine And.intro trivial ?_; refine AW.seq ?_; refine AW.draw (ps := []) zr zr ?_; (iterate 2 refine ze hT zr zr zr zr zr ?_); refine zl hT 0 zr zr zr zr zr zr me zr ?_; (iterate 2 refine ze hT zr zr zr zr zr ?_); refine zl hT 0 zr zr zr zr zr zr me zr ?_
  refine WT.shV zr zr zr zr zr zr (by decide) (shr64 (y := 7) (by decide)) ?_
  refine WT.binV zr zr zr zr zr zr (by decide) (xor64 ha2 (Nat.lt_of_le_of_lt (Nat.div_le_self _ _) ha2)) ?_
  rw [show a ^^^ (a / 2 ^ 7) = b from hb]
  refine ze hT zr zr zr zr zr ?_; refine zs hT 0 0 zr zr zr zr zr zr zr zr zr zr zr zr ?_; refine WT.nil ?_; refine And.intro trivial ?_; refine AW.seq ?_; refine AW.draw (ps := []) zr zr ?_; (iterate 2 refine ze hT zr zr zr zr zr ?_); refine zl hT 0 zr zr zr zr zr zr me zr ?_; (iterate 2 refine ze hT zr zr zr zr zr ?_); refine zl hT 0 zr zr zr zr zr zr me zr ?_
  refine WT.shV zr zr zr zr zr zr (by decide) (shl64 (y := 17) (by decide)) ?_
  refine WT.binV zr zr zr zr zr zr (by decide) (xor64 hb2 (Nat.mod_lt _ (by decide))) ?_
  rw [show b ^^^ (b * 2 ^ 17 % 18446744073709551616) = c from hc]
  refine ze hT zr zr zr zr zr ?_; refine zs hT 0 0 zr zr zr zr zr zr zr zr zr zr zr zr ?_; refine WT.nil ?_; refine And.intro trivial ?_; refine AW.seq ?_; refine AW.reg ?_; (iterate 2 refine ze hT zr zr zr zr zr ?_); refine zl hT 0 zr zr zr zr zr zr me zr ?_; refine ze hT zr zr zr zr zr ?_; refine WT.nil ?_
  exact AW.ret ⟨_, [_], ⟨_, _, rfl, rfl, rfl⟩, (by repeat (first | exact List.Sublist.refl _ | refine List.Sublist.cons _ ?_)), _, rfl, rfl, rfl⟩
end Go.Proofs.D

set_option linter.unusedVariables false
set_option maxRecDepth 20000
set_option maxHeartbeats 0
open Go Go.Abs Go.Proofs Go.Proofs.D
namespace Go.Proofs.D

def bsN {α : Type} [Inhabited α] (a l md i0 : Nat) (st : UInt64 × Array α) : Nat → UInt64 × Array α
  | 0 => st
  | n + 1 => Go.Sort.breakStep a l md (bsN a l md i0 st n) (i0 + n)

structure PS (α : Type) where
  a : Nat
  b : Nat
  lim : Nat
  wb : Bool
  wp : Bool
  d : Array α
  B : List (Nat × Blk)

theorem partEq_range {α : Type} [Inhabited α] (lt : α → α → Bool) (d : Array α) {a b p : Nat} (h1 : a ≤ p) (h2 : p < b) (hb : b ≤ d.size) : a < (Go.Sort.partitionEqual lt d a b p).1 ∧ (Go.Sort.partitionEqual lt d a b p).1 ≤ b := by
  have := Go.Sort.partEqLoop_spec lt a b _ (a + 1) (b - 1) (Go.Sort.swp d a p) (Nat.le_refl _) (by omega) (by omega) (by omega) (by rw [Go.Sort.size_swp]; exact hb) (fun t h1 h2 => by omega) (fun t h1 h2 => by omega)
  exact ⟨this.1, this.2.1⟩

theorem part_range {α : Type} [Inhabited α] (lt : α → α → Bool) (d : Array α) {a b p : Nat} (h1 : a ≤ p) (h2 : p < b) (hb : b ≤ d.size) : a ≤ (Go.Sort.partition lt d a b p).1 ∧ (Go.Sort.partition lt d a b p).1 < b := by
  have := Go.Sort.partLoop_spec lt a b _ (a + 1) (b - 1) (Go.Sort.swp d a p) (Nat.le_refl _) (by omega) (by omega) (by omega) (by rw [Go.Sort.size_swp]; exact hb) (fun t h1 h2 => by omega) (fun t h1 h2 => by omega)
  rw [Go.Sort.partition_fst]
  exact ⟨this.1, this.2.1⟩

theorem itBreak_spec (F : Frz) {cv : Value} {a0 : Option Addr} {m c : Nat} {B : List (Nat × Blk)} {d : Array Item} (hv : Vec tItem F a0 m c B d.toList) (a b : Nat) (hab : a + 13 ≤ b) (hb : b ≤ m) (hm : m ≤ 1000000) :
    Abs.Spec CC 154 [.slice a0 m c, .int .i64 a, .int .i64 b, cv] F [B] fun F' v o => ∃ B', o = [B'] ∧ Vec tItem F' a0 m c B' (Go.Sort.breakPatterns d a b).toList := by
  obtain ⟨l, hl⟩ : ∃ l, b - a = l := ⟨_, rfl⟩
  obtain ⟨e, he⟩ : ∃ e, l / 4 = e := ⟨_, rfl⟩
  obtain ⟨p2, hp2⟩ : ∃ p, 2 ^ Go.Sort.bitsLen l = p := ⟨_, rfl⟩
  have h1p := Go.Sort.two_pow_bitsLen_le (n := l) (by omega)
  have h2p := Go.Sort.lt_two_pow_bitsLen l
  rw [hp2] at h1p h2p
  have hbr : Go.Sort.breakPatterns d a b = (bsN a l p2 (a + e * 2 - 1) (UInt64.ofNat l, d) 3).2 := by
    unfold Go.Sort.breakPatterns
    simp only [hl]
    rw [if_pos (by omega), he, Nat.one_shiftLeft, hp2]
    rfl
  refine Abs.Spec.fn (n := 67) Tryd.func154 rfl rfl fun own => ?_
  refine AW.seq ?_; refine AW.reg ?_; (iterate 2 refine ze hT zr zr zr zr zr ?_); refine WT.subN zr zr zr zr zr zr (by omega) ?_; refine ze hT zr zr zr zr zr ?_; refine WT.nil ?_; refine AW.seq ?_; refine AW.reg ?_; (iterate 2 refine ze hT zr zr zr zr zr ?_); refine WT.nil ?_
  rw [hl]
  refine AW.cond rfl (fun _ => ?_) (fun h => (by simp at h; omega))
  refine AW.seq ?_; refine AW.reg ?_; refine ze hT zr zr zr zr zr ?_
  refine WT.conv hT (k2 := .u64) zr zr zr zr zr zr zr zr (wrapU64 (by omega)) ?_
  refine WT.allocT hT zr zr zr zr zr zr (fun i9 hi9 => ?_)
  refine zs hT 0 0 zr zr zr zr zr zr zr zr zr zr zr zr ?_; refine WT.nil ?_; refine AW.seq ?_; refine AW.reg ?_; refine ze hT zr zr zr zr zr ?_
  refine WT.callV Tryd.func178 zr zr zr zr zr zr (npow_spec _ l (by omega)) (fun v hv' => ?_)
  rw [hp2] at hv'
  subst hv'
  refine ze hT zr zr zr zr zr ?_; refine WT.nil ?_; refine AW.seq ?_; refine AW.reg ?_; (iterate 2 refine ze hT zr zr zr zr zr ?_)
  refine WT.quoL 4 zr zr zr zr zr zr (by decide) (by omega) ?_
  rw [he]
  refine WT.mulL 2 zr zr zr zr zr zr (by omega) ?_
  refine WT.addN zr zr zr zr zr zr (by omega) ?_; refine WT.sub1 zr zr zr zr zr zr (by omega) ?_; refine ze hT zr zr zr zr zr ?_; refine WT.nil ?_
  refine AW.block ?_
  refine AW.loopR (S := VS Item) (fun s => [(11, .int .i64 ((a + e * 2 - 1 + s.i : Nat) : Int))]) (fun s => [(i9, .cells false [.int .u64 ((bsN a l p2 (a + e * 2 - 1) (UInt64.ofNat l, d) s.i).1.toNat : Nat)])] :: s.B :: own) (fun s G => Vec tItem G a0 m c s.B s.d.toList ∧ s.i ≤ 3 ∧ s.d = (bsN a l p2 (a + e * 2 - 1) (UInt64.ofNat l, d) s.i).2) (fun s => 3 - s.i) ⟨0, d, B⟩
    (SubK.of_map rfl) (OwnLe.flat (List.Perm.of_eq ?_)) ⟨hv, Nat.zero_le _, rfl⟩ ?_
  · rw [show (bsN a l p2 (a + e * 2 - 1) (UInt64.ofNat l, d) 0).1.toNat = l from by
      show (UInt64.ofNat l).toNat = l
      rw [UInt64.toNat_ofNat']
      exact Nat.mod_eq_of_lt (by have : 2 ^ 64 = 18446744073709551616 := rfl
                                 omega)]
    rfl
  intro u F2 hF2 hP2
  obtain ⟨hv2, hi, heq⟩ := hP2
  have hsz : m = u.d.size := hv2.len
  have hr64 := (bsN a l p2 (a + e * 2 - 1) (UInt64.ofNat l, d) u.i).1.toNat_lt
  rw [show (2 : Nat) ^ 64 = 18446744073709551616 from rfl] at hr64
  obtain ⟨r, hr⟩ : ∃ r, (bsN a l p2 (a + e * 2 - 1) (UInt64.ofNat l, d) u.i).1.toNat = r := ⟨_, rfl⟩
  have hnext : (bsN a l p2 (a + e * 2 - 1) (UInt64.ofNat l, d) (u.i + 1)).1.toNat = Go.Sort.xorNextN r := by
    rw [← hr, ← Go.Sort.xorNext_toNat]; rfl
  rw [hr] at hr64
  rw [hr]
  have hx64 := Go.Sort.xorNextN_lt r hr64
  obtain ⟨o0, ho0⟩ : ∃ o0, Go.Sort.xorNextN r &&& (p2 - 1) = o0 := ⟨_, rfl⟩
  have ho1 : o0 ≤ p2 - 1 := by rw [← ho0]; exact Nat.and_le_right
  have hswap : (bsN a l p2 (a + e * 2 - 1) (UInt64.ofNat l, d) (u.i + 1)).2 = Go.Sort.swp u.d (a + e * 2 - 1 + u.i) (a + (if o0 ≥ l then o0 - l else o0)) := by
    show (Go.Sort.breakStep a l p2 (bsN a l p2 (a + e * 2 - 1) (UInt64.ofNat l, d) u.i) (a + e * 2 - 1 + u.i)).2 = _
    unfold Go.Sort.breakStep
    simp only [Go.Sort.xorNext_toNat, hr, ho0, ← heq]
  have hel : e * 4 ≤ l := by rw [← he]; exact Nat.div_mul_le_self _ _
  have he3 : 3 ≤ e := by rw [← he]; omega
  (iterate 2 refine AW.seq ?_); refine AW.reg ?_; (iterate 3 refine ze hT zr zr zr zr zr ?_)
  refine WT.quoL 4 zr zr zr zr zr zr (by decide) (by omega) ?_
  rw [he]
  refine WT.mulL 2 zr zr zr zr zr zr (by omega) ?_
  refine WT.addN zr zr zr zr zr zr (by omega) ?_; refine WT.add1 zr zr zr zr zr zr (by omega) ?_; refine ze hT zr zr zr zr zr ?_; refine WT.nil ?_
  refine AW.cond rfl (fun h => ?_) (fun h => ?_)
  · have h : u.i < 3 := by simp at h; omega
    refine AW.skip ?_; refine AW.seq ?_
    refine AW.block ?_
    refine AW.seq ?_; refine AW.reg ?_
    refine WT.call1F 0 Tryd.func179 zr zr zr zr zr zr zr (fun _ => rfl) (xorn_spec _ i9 r hr64) (fun F3 v B3 hF3 hv3 => ?_)
    obtain ⟨rfl, rfl⟩ := hv3
    have hv3 := hv2.mono hF3
    refine ze hT zr zr zr zr zr ?_
    refine WT.binV zr zr zr zr zr zr (by decide) (sub64 (x := p2) (y := 1) (by omega) (by omega)) ?_
    refine WT.binV zr zr zr zr zr zr (by decide) (and64 hx64 (by omega)) ?_
    rw [ho0]
    refine WT.conv hT (k2 := .i64) zr zr zr zr zr zr zr zr (wrap64 (by omega)) ?_
    refine ze hT zr zr zr zr zr ?_; refine WT.nil ?_; (iterate 2 refine AW.seq ?_); refine AW.reg ?_; (iterate 3 refine ze hT zr zr zr zr zr ?_); refine WT.nil ?_
    refine AW.jnT (S := Unit) (fun _ => [(12, .int .i64 ((if o0 ≥ l then o0 - l else o0 : Nat) : Int))]) (fun _ => [(i9, .cells false [.int .u64 (Go.Sort.xorNextN r : Nat)])] :: u.B :: own) (fun _ _ => True) ?_ (fun _ F4 hF4 _ => ?_)
    · refine AW.cond rfl (fun h => ?_) (fun h => ?_)
      · have h : l ≤ o0 := by simp at h; omega
        refine AW.reg ?_; (iterate 2 refine ze hT zr zr zr zr zr ?_); refine WT.subN zr zr zr zr zr zr (by omega) ?_; refine ze hT zr zr zr zr zr ?_; refine WT.nil ?_
        refine ⟨(), SubK.of_map (by rw [if_pos h]; rfl), OwnLe.refl _, trivial⟩
      · have h : ¬ l ≤ o0 := by simp at h; omega
        refine AW.skip ?_
        refine ⟨(), SubK.of_map (by rw [if_neg h]; rfl), OwnLe.refl _, trivial⟩
    · obtain ⟨o1, ho2⟩ : ∃ o1, (if o0 ≥ l then o0 - l else o0) = o1 := ⟨_, rfl⟩
      have ho3 : o1 < l := by rw [← ho2]; split <;> omega
      rw [ho2] at hswap ⊢
      have hv4 := hv3.mono hF4
      skip
      refine AW.draw (ps := [(5, 17)]) rfl rfl ?_
      (iterate 5 refine ze hT zr zr zr zr zr ?_); refine WT.addN zr zr zr zr zr zr (by omega) ?_; (iterate 3 refine ze hT zr zr zr zr zr ?_); refine WT.addN zr zr zr zr zr zr (by omega) ?_
      refine WT.vidx hT hv4 zr zr zr zr zr zr zr zr zr (by omega) (fun bl3 hbl3 => ?_)
      refine WT.vldS hT 1 hv4 hbl3 (arr_at (by omega)) zr zr zr zr zr zr zr zr zr (fun l3 hl3 => ?_)
      (iterate 2 refine ze hT zr zr zr zr zr ?_)
      refine WT.vidx hT hv4 zr zr zr zr zr zr zr zr zr (by omega) (fun bl4 hbl4 => ?_)
      refine WT.vldS hT 1 hv4 hbl4 (arr_at (by omega)) zr zr zr zr zr zr zr zr zr (fun l4 hl4 => ?_)
      refine WT.vidx hT hv4 zr zr zr zr zr zr zr zr zr (by omega) (fun bl5 hbl5 => ?_)
      refine WT.vst (y := u.d[a + o1]!) hT 1 hv4 hbl5 (List.getElem?_eq_getElem (by simp; omega)) zr zr zr zr zr hl3 rfl (fun _ => rfl) rfl (fun Bl5 hBl5 => ?_)
      refine WT.vidx hT hBl5 zr zr zr zr zr zr zr zr zr (by omega) (fun bl6 hbl6 => ?_)
      refine WT.vst (y := u.d[a + e * 2 - 1 + u.i]!) hT 1 hBl5 hbl6 (List.getElem?_eq_getElem (by simp; omega)) zr zr zr zr zr hl4 rfl (fun _ => rfl) rfl (fun Bl6 hBl6 => ?_)
      rw [← swp_list] at hBl6
      refine WT.nil ?_
      refine ⟨(by repeat (first | exact trivial | refine recs_pair rfl rfl (by first | exact keep0 | exact keep1 (keeps_frz (by assumption)) | exact kp 0 0 me me | exact kp 1 1 me me | exact kp 2 2 me me | exact kp 3 3 me me | exact kp 4 4 me me | exact kp 5 5 me me | exact kp 6 6 me me | exact kp 0 1 me me | exact kp 1 2 me me | exact kp 2 3 me me | exact kp 3 4 me me | exact kp 4 5 me me | exact kp 5 6 me me | exact kp 6 7 me me) ?_)), ?_⟩
      refine AW.reg ?_; refine ze hT zr zr zr zr zr ?_; refine WT.add1 zr zr zr zr zr zr (by omega) ?_; refine ze hT zr zr zr zr zr ?_; refine WT.nil ?_
      refine ⟨⟨u.i + 1, _, Bl6⟩, by dsimp only; omega, SubK.of_map rfl, OwnLe.flat (List.Perm.of_eq (by rw [hnext])), hBl6, by dsimp only; omega, hswap.symm⟩
  · have h : u.i = 3 := by simp at h; omega
    refine AW.exit ?_
    skip
    refine ⟨_, [_], rfl, (by repeat (first | exact List.Sublist.refl _ | refine List.Sublist.cons _ ?_)), _, rfl, ?_⟩
    rw [hbr, ← h, ← heq]
    exact hv2

theorem itPdqR_spec {lt : Item → Item → Bool} {g : Nat} {first capt : List Value} : ∀ (N : Nat) (F : Frz) (hc : CmpOk tItem lt F g first capt) {a0 : Option Addr} {m c : Nat} {B : List (Nat × Blk)} {d : Array Item} (hv : Vec tItem F a0 m c B d.toList) (a b limit : Nat) (hN : b - a < N) (hab : a ≤ b) (hb : b ≤ m) (hm : m ≤ 1000000) (hlim : limit ≤ 1000000),
    Abs.Spec CC 138 [.slice a0 m c, .int .i64 a, .int .i64 b, .int .i64 limit, .func (.func g) ⟨first⟩ ⟨capt⟩] F [B] fun F' v o => ∃ B', o = [B'] ∧ Vec tItem F' a0 m c B' (Go.Sort.pdq lt d a b limit true true).toList
  | 0, _, _, _, _, _, _, _, _, _, _, _, h, _, _, _, _ => absurd h (Nat.not_lt_zero _)
  | N + 1, F, hc, a0, m, c, B, d, hv, a, b, limit, hN, hab, hb, hm, hlim => by
    obtain ⟨⟨fn, hg, hgb⟩, hcmp⟩ := id hc
    refine Abs.Spec.fn (n := 148) Tryd.func138 rfl rfl fun own => ?_
    refine AW.seq ?_; refine AW.reg ?_; refine ze hT zr zr zr zr zr ?_; refine WT.nil ?_; refine AW.seq ?_; refine AW.reg ?_; refine ze hT zr zr zr zr zr ?_; refine WT.nil ?_
    refine AW.block ?_
    refine AW.loopR (S := PS Item) (fun s => [(1, .int .i64 (s.a : Nat)), (2, .int .i64 (s.b : Nat)), (3, .int .i64 (s.lim : Nat)), (10, .bool s.wb), (11, .bool s.wp)]) (fun s => s.B :: own)
      (fun s G => Vec tItem G a0 m c s.B s.d.toList ∧ s.a ≤ s.b ∧ s.b ≤ m ∧ s.b - s.a ≤ b - a ∧ s.lim ≤ 1000000 ∧ Go.Sort.pdq lt s.d s.a s.b s.lim s.wb s.wp = Go.Sort.pdq lt d a b limit true true) (fun s => s.b - s.a) ⟨a, b, limit, true, true, d, B⟩
      (SubK.of_map rfl) (OwnLe.refl _) ⟨hv, hab, hb, Nat.le_refl _, hlim, rfl⟩ ?_
    intro s F1 hF1 hP
    obtain ⟨hv1, hab1, hb1, hle1, hlim1, heq⟩ := hP
    have hc1 := hc.mono hF1
    refine AW.block ?_
    refine AW.seq ?_; refine AW.reg ?_; (iterate 2 refine ze hT zr zr zr zr zr ?_); refine WT.subN zr zr zr zr zr zr (by omega) ?_; refine ze hT zr zr zr zr zr ?_; refine WT.nil ?_; (iterate 2 refine AW.seq ?_); refine AW.reg ?_; (iterate 2 refine ze hT zr zr zr zr zr ?_); refine WT.nil ?_
    refine AW.cond rfl (fun h => ?_) (fun h => ?_)
    · have h : s.b - s.a ≤ 12 := by simp at h; omega
      refine AW.seq ?_; refine AW.reg ?_; (iterate 4 refine ze hT zr zr zr zr zr ?_)
      refine WT.call1F 0 Tryd.func152 zr zr zr zr zr zr zr (fun _ => rfl) (itIns_spec _ hc1 hv1 s.a s.b (by omega) hb1 hm) (fun F2 v B2 hF2 hv2 => ?_)
      refine WT.nil ?_
      refine AW.ret ⟨_, [_], rfl, (by repeat (first | exact List.Sublist.refl _ | refine List.Sublist.cons _ ?_)), _, rfl, ?_⟩
      rw [← heq, Go.Sort.pdq_small h]; exact hv2
    · have h : ¬ s.b - s.a ≤ 12 := by simp at h; omega
      refine AW.skip ?_; (iterate 2 refine AW.seq ?_); refine AW.reg ?_; (iterate 2 refine ze hT zr zr zr zr zr ?_); refine WT.nil ?_
      refine AW.cond rfl (fun h0 => ?_) (fun h0 => ?_)
      · have h0 : s.lim = 0 := by simp at h0; omega
        refine AW.seq ?_; refine AW.reg ?_; (iterate 4 refine ze hT zr zr zr zr zr ?_)
        refine WT.call1F 0 Tryd.func153 zr zr zr zr zr zr zr (fun _ => rfl) (itHeap_spec _ hc1 hv1 s.a s.b (by omega) hb1 hm) (fun F2 v B2 hF2 hv2 => ?_)
        refine WT.nil ?_
        refine AW.ret ⟨_, [_], rfl, (by repeat (first | exact List.Sublist.refl _ | refine List.Sublist.cons _ ?_)), _, rfl, ?_⟩
        rw [← heq, Go.Sort.pdq_heap h h0]; exact hv2
      · have h0 : ¬ s.lim = 0 := by simp at h0; omega
        obtain ⟨R, hR⟩ : ∃ R, Go.Sort.rd lt s.d s.a s.b s.lim s.wb s.wp = R := ⟨_, rfl⟩
        refine AW.skip ?_
        refine AW.jn (S := VS Item) (fun t => [(3, .int .i64 (t.i : Nat))]) (fun t => t.B :: own) (fun t G => Vec tItem G a0 m c t.B t.d.toList ∧ t.i = R.lim ∧ t.d = R.d1) ?_ (fun t F2 hF2 hP2 => ?_)
        · refine AW.seq ?_; refine AW.reg ?_; (iterate 2 refine ze hT zr zr zr zr zr ?_); refine WT.nil ?_
          cases hwb : s.wb with
          | true =>
            refine AW.cond rfl (fun h => (by cases h)) (fun _ => ?_)
            refine AW.skip ?_
            exact ⟨⟨s.lim, s.d, s.B⟩, SubK.of_map rfl, OwnLe.refl _, hv1, by rw [← hR, hwb]; rfl, by rw [← hR, hwb]; rfl⟩
          | false =>
            refine AW.cond rfl (fun _ => ?_) (fun h => (by cases h))
            refine AW.seq ?_; refine AW.reg ?_; (iterate 4 refine ze hT zr zr zr zr zr ?_)
            refine WT.call1F 0 Tryd.func154 zr zr zr zr zr zr zr (fun _ => rfl) (itBreak_spec _ hv1 s.a s.b (by omega) hb1 hm) (fun F2 v B2 hF2 hv2 => ?_)
            refine WT.nil ?_; refine AW.reg ?_; refine ze hT zr zr zr zr zr ?_; refine WT.sub1 zr zr zr zr zr zr (by omega) ?_; refine ze hT zr zr zr zr zr ?_; refine WT.nil ?_
            exact ⟨⟨s.lim - 1, _, B2⟩, SubK.of_map rfl, OwnLe.refl _, hv2, by rw [← hR, hwb]; rfl, by rw [← hR, hwb]; rfl⟩
        · obtain ⟨hv2, hlm, hd1⟩ := hP2
          have hc2 := hc1.mono hF2
          have hsz2 : m = t.d.size := hv2.len
          have hcc : Go.Sort.choosePivot lt t.d s.a s.b = R.c := by rw [hd1, ← hR]; rfl
          have hcr := Go.Sort.choosePivot_holds lt t.d s.a s.b (by omega)
          rw [hcc] at hcr
          have hlim2 : R.lim ≤ s.lim := by rw [← hR]; exact Go.Sort.rd_lim_le
          refine AW.seq ?_; refine AW.reg ?_; (iterate 4 refine ze hT zr zr zr zr zr ?_)
          refine WT.callLend 0 Tryd.func155 zr zr zr zr zr zr zr (fun G hG hBG => itPivot_spec G (hc2.mono hG) (hv2.arr hG hBG) s.a s.b (by omega) hb1 hm) (fun v hv' => ?_)
          rw [hcc] at hv'
          subst hv'
          (iterate 5 (refine WT.easy hT zr zr zr zr zr ?_))
          refine WT.nil ?_
          refine AW.jn (S := Nat × Go.Sort.Hint × VS Item) (fun u => [(13, .int .i64 (u.1 : Nat)), (14, .int .i64 (Go.Sort.hintCode u.2.1))]) (fun u => u.2.2.B :: own) (fun u G => Vec tItem G a0 m c u.2.2.B u.2.2.d.toList ∧ u.1 = R.pivot ∧ u.2.1 = R.hint ∧ u.2.2.d = R.d2 ∧ s.a ≤ u.1 ∧ u.1 < s.b) ?_ (fun u F3 hF3 hP3 => ?_)
          · refine AW.seq ?_; refine AW.reg ?_; (iterate 2 refine ze hT zr zr zr zr zr ?_); refine WT.nil ?_
            refine AW.cond rfl (fun hh => ?_) (fun hh => ?_)
            · have hdec : R.c.2 = .decreasing := by
                cases e : R.c.2 with
                | decreasing => rfl
                | increasing => rw [e] at hh; cases hh
                | unknown => rw [e] at hh; cases hh
              obtain ⟨q1, q2, q3⟩ := Go.Sort.rd_dec (lt := lt) (d := s.d) (a := s.a) (b := s.b) (limit := s.lim) (wb := s.wb) (wp := s.wp) (by rw [hR]; exact hdec)
              rw [hR] at q1 q2 q3
              refine AW.seq ?_; refine AW.reg ?_; (iterate 4 refine ze hT zr zr zr zr zr ?_)
              refine WT.call1F 0 Tryd.func156 zr zr zr zr zr zr zr (fun _ => rfl) (itRev_spec _ hv2 s.a s.b (by omega) hb1 hm) (fun F3 v B3 hF3 hv3 => ?_)
              refine WT.nil ?_; refine AW.seq ?_; refine AW.reg ?_; refine ze hT zr zr zr zr zr ?_; refine WT.sub1 zr zr zr zr zr zr (by omega) ?_; (iterate 2 refine ze hT zr zr zr zr zr ?_); (iterate 2 refine WT.subN zr zr zr zr zr zr (by omega) ?_); refine ze hT zr zr zr zr zr ?_; refine WT.nil ?_; refine AW.reg ?_; refine ze hT zr zr zr zr zr ?_; refine WT.nil ?_
              refine ⟨(s.b - 1 - (R.c.1 - s.a), .increasing, ⟨0, _, B3⟩), SubK.of_map rfl, OwnLe.refl _, hv3, q2.symm, q3.symm, (by rw [q1, hd1]; rfl), by dsimp only; omega, by dsimp only; omega⟩
            · have hdec : R.c.2 ≠ .decreasing := by intro e; rw [e] at hh; cases hh
              obtain ⟨q1, q2, q3⟩ := Go.Sort.rd_not (lt := lt) (d := s.d) (a := s.a) (b := s.b) (limit := s.lim) (wb := s.wb) (wp := s.wp) (by rw [hR]; exact hdec)
              rw [hR] at q1 q2 q3
              refine AW.skip ?_
              exact ⟨(R.c.1, R.c.2, ⟨0, t.d, t.B⟩), SubK.of_map rfl, OwnLe.refl _, hv2, q2.symm, q3.symm, by rw [q1, hd1], hcr.1, hcr.2⟩
          · obtain ⟨hv3, hpv, hhint, hd2, hpa, hpb⟩ := hP3
            have hc3 := hc2.mono hF3
            have hno : (s.wb && s.wp && decide (R.hint = .increasing)) = false → R.pi = (R.d2, false) := fun h => by
              have := Go.Sort.rd_pi_no (lt := lt) (d := s.d) (a := s.a) (b := s.b) (limit := s.lim) (wb := s.wb) (wp := s.wp) (by rw [hR]; exact h)
              rw [hR] at this; exact this
            have hyes : (s.wb && s.wp && decide (R.hint = .increasing)) = true → R.pi = Go.Sort.partialInsertionSort lt R.d2 s.a s.b := fun h => by
              have := Go.Sort.rd_pi_yes (lt := lt) (d := s.d) (a := s.a) (b := s.b) (limit := s.lim) (wb := s.wb) (wp := s.wp) (by rw [hR]; exact h)
              rw [hR] at this; exact this
            refine AW.jn (S := VS Item) (fun _ => []) (fun w => w.B :: own) (fun w G => Vec tItem G a0 m c w.B w.d.toList ∧ R.pi = (w.d, false)) ?_ (fun w F4 hF4 hP4 => ?_)
            · refine AW.split 10 rfl (fun hwb => ?_) (fun hwb => ?_)
              · refine AW.split 11 rfl (fun hwp => ?_) (fun hwp => ?_)
                · refine AW.seq ?_; refine AW.reg ?_; (iterate 8 refine ze hT zr zr zr zr zr ?_); refine WT.nil ?_
                  refine AW.cond rfl (fun hh => ?_) (fun hh => ?_)
                  · have hinc : R.hint = .increasing := by
                      rw [← hhint]
                      cases e : u.2.1 with
                      | increasing => rfl
                      | decreasing => rw [e] at hh; cases hh
                      | unknown => rw [e] at hh; cases hh
                    have hpi := hyes (by rw [hwb, hwp, hinc]; rfl)
                    refine AW.seq ?_; refine AW.reg ?_; (iterate 4 refine ze hT zr zr zr zr zr ?_)
                    refine WT.call1F 0 Tryd.func157 zr zr zr zr zr zr zr (fun _ => rfl) (itPIns_spec _ hc3 hv3 s.a s.b (by omega) hb1 hm) (fun F4 v B4 hF4 hv4 => ?_)
                    obtain ⟨rfl, hv4⟩ := hv4
                    rw [hd2, ← hpi] at hv4 ⊢
                    refine WT.nil ?_
                    refine AW.cond rfl (fun hp2 => ?_) (fun hp2 => ?_)
                    · have hp2 : R.pi.2 = true := hp2
                      refine AW.ret ⟨_, [_], rfl, (by repeat (first | exact List.Sublist.refl _ | refine List.Sublist.cons _ ?_)), _, rfl, ?_⟩
                      rw [← heq, Go.Sort.pdq_done h h0 (by rw [hR]; exact hp2), hR]; exact hv4
                    · have hp2 : R.pi.2 = false := hp2
                      refine AW.skip ?_
                      exact ⟨⟨0, R.pi.1, B4⟩, SubK.of_map (by rw [hwb, hwp]; rfl), OwnLe.refl _, hv4, by rw [← hp2]⟩
                  · have hinc : R.hint ≠ .increasing := by intro e; rw [← hhint] at e; rw [e] at hh; cases hh
                    refine AW.skip ?_
                    exact ⟨⟨0, u.2.2.d, u.2.2.B⟩, SubK.of_map (by rw [hwb, hwp]; rfl), OwnLe.refl _, hv3, by rw [hno (by simp [hinc]), hd2]⟩
                · refine AW.seq ?_; refine AW.reg ?_; (iterate 5 refine ze hT zr zr zr zr zr ?_); (iterate 2 refine zx zr zr zr zr ?_); refine ze hT zr zr zr zr zr ?_; refine WT.nil ?_
                  refine AW.cond rfl (fun hh => (by cases hh)) (fun hh => ?_)
                  refine AW.skip ?_
                  exact ⟨⟨0, u.2.2.d, u.2.2.B⟩, SubK.of_map (by rw [hwb, hwp]; rfl), OwnLe.refl _, hv3, by rw [hno (by simp [hwp]), hd2]⟩
              · refine AW.seq ?_; refine AW.reg ?_; (iterate 2 refine ze hT zr zr zr zr zr ?_); refine zx zr zr zr zr ?_; (iterate 2 refine ze hT zr zr zr zr zr ?_); (iterate 2 refine zx zr zr zr zr ?_); refine ze hT zr zr zr zr zr ?_; refine WT.nil ?_
                refine AW.cond rfl (fun hh => (by cases hh)) (fun hh => ?_)
                refine AW.skip ?_
                exact ⟨⟨0, u.2.2.d, u.2.2.B⟩, SubK.of_map (by rw [hwb]; rfl), OwnLe.refl _, hv3, by rw [hno (by simp [hwb]), hd2]⟩
            · obtain ⟨hv4, hpi⟩ := hP4
              have hc4 := hc3.mono hF4
              have hsz4 : m = w.d.size := hv4.len
              have hp2 : (Go.Sort.rd lt s.d s.a s.b s.lim s.wb s.wp).pi.2 = false := by rw [hR, hpi]
              have hcm := hc4.2
              refine AW.jn (S := Unit) (fun _ => []) (fun _ => w.B :: own) (fun _ _ => (decide (s.a > 0) && !lt w.d[s.a - 1]! w.d[u.1]!) = false) ?_ (fun _ F5 hF5 hx => ?_)
              · refine AW.seq ?_; refine AW.draw (ps := []) zr zr ?_; (iterate 3 refine ze hT zr zr zr zr zr ?_)
                refine WT.split 83 rfl (fun ha0 => ?_) (fun ha0 => ?_)
                · have ha0 : 0 < s.a := by simp at ha0; omega
                  (iterate 3 refine ze hT zr zr zr zr zr ?_); refine WT.sub1 zr zr zr zr zr zr (by omega) ?_
                  refine WT.vidx hT hv4 zr zr zr zr zr zr zr zr zr (by omega) (fun bl1 hbl1 => ?_)
                  refine WT.vldS hT 0 hv4 hbl1 (arr_at (by omega)) zr zr zr zr zr zr zr zr zr (fun l1 hl1 => ?_)
                  (iterate 2 refine ze hT zr zr zr zr zr ?_)
                  refine WT.vidx hT hv4 zr zr zr zr zr zr zr zr zr (by omega) (fun bl2 hbl2 => ?_)
                  refine WT.vldS hT 0 hv4 hbl2 (arr_at (by omega)) zr zr zr zr zr zr zr zr zr (fun l2 hl2 => ?_)
                  refine WT.callC hg hgb zr zr zr zr zr zr zr (hcm F4 (Frz.le.refl F4) l1 l2 _ _ hl1 hl2) (fun v hvz => ?_)
                  obtain ⟨z, rfl, hz⟩ := hvz
                  (iterate 3 refine ze hT zr zr zr zr zr ?_); refine WT.nil ?_; refine And.intro trivial ?_
                  refine AW.cond rfl (fun hq => ?_) (fun hq => ?_)
                  · have hlt : lt w.d[s.a - 1]! w.d[u.1]! = false := Bool.eq_false_iff.2 (fun hh => absurd (hz.2 hh) (by simpa using hq))
                    have hrange := partEq_range lt w.d (a := s.a) (b := s.b) (p := u.1) hpa hpb (by omega)
                    have e := Go.Sort.pdq_eq (lt := lt) h h0 hp2 (by rw [hR, hpi, ← hpv]; simp [ha0, hlt]) (by rw [hR, hpi, ← hpv]; exact hrange)
                    rw [hR, hpi, ← hpv, ← hlm] at e
                    obtain ⟨pe, hpe⟩ : ∃ pe, Go.Sort.partitionEqual lt w.d s.a s.b u.1 = pe := ⟨_, rfl⟩
                    rw [hpe] at hrange
                    refine AW.seq ?_; refine AW.reg ?_; (iterate 5 refine ze hT zr zr zr zr zr ?_)
                    refine WT.call1F 0 Tryd.func158 zr zr zr zr zr zr zr (fun _ => rfl) (itPartEq_spec _ hc4 hv4 s.a s.b u.1 hpa hpb hb1 hm) (fun F5 v B5 hF5 hv5 => ?_)
                    obtain ⟨rfl, hv5⟩ := hv5
                    rw [hpe] at hv5 ⊢
                    refine ze hT zr zr zr zr zr ?_; refine WT.nil ?_; refine AW.seq ?_; refine AW.reg ?_; (iterate 2 refine ze hT zr zr zr zr zr ?_); refine WT.nil ?_
                    refine AW.exit ?_
                    refine ⟨⟨pe.1, s.b, t.i, s.wb, s.wp, pe.2, B5⟩, by dsimp only; omega, SubK.of_map rfl, OwnLe.refl _, hv5, hrange.2, hb1, by dsimp only; omega, by dsimp only; omega, ?_⟩
                    rw [← heq, e, hpe]
                  · have hlt := hz.1 (by simpa using hq)
                    refine AW.skip ?_
                    exact ⟨(), SubK.of_map rfl, OwnLe.refl _, by rw [hlt]; simp⟩
                · have ha0 : ¬ 0 < s.a := by simp at ha0; omega
                  (iterate 13 refine zx zr zr zr zr ?_); refine ze hT zr zr zr zr zr ?_; refine WT.nil ?_; refine And.intro trivial ?_
                  refine AW.cond rfl (fun hq => (by cases hq)) (fun hq => ?_)
                  refine AW.skip ?_
                  exact ⟨(), SubK.of_map rfl, OwnLe.refl _, by simp [ha0]⟩
              · have hv5 := hv4.mono hF5
                have hc5 := hc4.mono hF5
                have hrange := part_range lt w.d (a := s.a) (b := s.b) (p := u.1) hpa hpb (by omega)
                have hx' : (decide (s.a > 0) && !lt (Go.Sort.rd lt s.d s.a s.b s.lim s.wb s.wp).pi.1[s.a - 1]! (Go.Sort.rd lt s.d s.a s.b s.lim s.wb s.wp).pi.1[(Go.Sort.rd lt s.d s.a s.b s.lim s.wb s.wp).pivot]!) = false := by rw [hR, hpi, ← hpv]; exact hx
                have hr' : s.a ≤ (Go.Sort.partition lt (Go.Sort.rd lt s.d s.a s.b s.lim s.wb s.wp).pi.1 s.a s.b (Go.Sort.rd lt s.d s.a s.b s.lim s.wb s.wp).pivot).1 ∧ (Go.Sort.partition lt (Go.Sort.rd lt s.d s.a s.b s.lim s.wb s.wp).pi.1 s.a s.b (Go.Sort.rd lt s.d s.a s.b s.lim s.wb s.wp).pivot).1 < s.b := by rw [hR, hpi, ← hpv]; exact hrange
                have eL := Go.Sort.pdq_left (lt := lt) h h0 hp2 hx' hr'
                have eR := Go.Sort.pdq_right (lt := lt) h h0 hp2 hx' hr'
                rw [hR, hpi, ← hpv, ← hlm] at eL eR
                obtain ⟨pp, hpp⟩ : ∃ pp, Go.Sort.partition lt w.d s.a s.b u.1 = pp := ⟨_, rfl⟩
                simp only [hpp] at hrange eL eR
                refine AW.seq ?_; refine AW.reg ?_; (iterate 5 refine ze hT zr zr zr zr zr ?_)
                refine WT.call1F 0 Tryd.func159 zr zr zr zr zr zr zr (fun _ => rfl) (itPart_spec _ hc5 hv5 s.a s.b u.1 hpa hpb hb1 hm) (fun F6 v B6 hF6 hv6 => ?_)
                obtain ⟨rfl, hv6⟩ := hv6
                rw [hpp] at hv6 ⊢
                have hc6 := hc5.mono hF6
                (iterate 5 refine ze hT zr zr zr zr zr ?_); refine WT.nil ?_; refine AW.seq ?_; refine AW.reg ?_; (iterate 2 refine ze hT zr zr zr zr zr ?_); refine WT.nil ?_; refine AW.seq ?_; refine AW.reg ?_; (iterate 2 refine ze hT zr zr zr zr zr ?_); refine WT.subN zr zr zr zr zr zr (by omega) ?_; (iterate 2 refine ze hT zr zr zr zr zr ?_); refine WT.subN zr zr zr zr zr zr (by omega) ?_; (iterate 2 refine ze hT zr zr zr zr zr ?_); refine WT.nil ?_; refine AW.seq ?_; refine AW.reg ?_; refine ze hT zr zr zr zr zr ?_
                refine WT.quoL 8 zr zr zr zr zr zr (by decide) (by omega) ?_
                refine ze hT zr zr zr zr zr ?_; refine WT.nil ?_; refine AW.seq ?_; refine AW.reg ?_; (iterate 3 refine ze hT zr zr zr zr zr ?_); refine WT.nil ?_
                refine AW.cond rfl (fun hl => ?_) (fun hl => ?_)
                · have hl : pp.1 - s.a < s.b - pp.1 := by simp at hl; omega
                  refine AW.seq ?_; refine AW.reg ?_; (iterate 4 refine ze hT zr zr zr zr zr ?_); refine WT.nil ?_; refine AW.seq ?_; refine AW.reg ?_; (iterate 5 refine ze hT zr zr zr zr zr ?_)
                  refine WT.know (v' := .bool (decide (pp.1 - s.a ≥ (s.b - s.a) / 8))) 10 rfl (by congr 1; rw [decide_eq_decide]; omega) ?_
                  refine WT.call1F 0 Tryd.func138 zr zr zr zr zr zr zr (fun _ => rfl) (itPdqR_spec N _ hc6 hv6 s.a pp.1 t.i (by omega) hrange.1 (by omega) hm (by omega)) (fun F7 v B7 hF7 hv7 => ?_)
                  refine WT.nil ?_; refine AW.reg ?_; refine ze hT zr zr zr zr zr ?_; refine WT.add1 zr zr zr zr zr zr (by omega) ?_; refine ze hT zr zr zr zr zr ?_; refine WT.nil ?_
                  refine ⟨⟨pp.1 + 1, s.b, t.i, decide (pp.1 - s.a ≥ (s.b - s.a) / 8), pp.2.1, _, B7⟩, by dsimp only; omega, SubK.of_map rfl, OwnLe.refl _, hv7, by dsimp only; omega, hb1, by dsimp only; omega, by dsimp only; omega, ?_⟩
                  rw [← heq, eL hl]
                · have hl : ¬ pp.1 - s.a < s.b - pp.1 := by simp at hl; omega
                  refine AW.seq ?_; refine AW.reg ?_; (iterate 4 refine ze hT zr zr zr zr zr ?_); refine WT.nil ?_; refine AW.seq ?_; refine AW.reg ?_; (iterate 2 refine ze hT zr zr zr zr zr ?_); refine WT.add1 zr zr zr zr zr zr (by omega) ?_; (iterate 3 refine ze hT zr zr zr zr zr ?_)
                  refine WT.know (v' := .bool (decide (s.b - pp.1 ≥ (s.b - s.a) / 8))) 10 rfl (by congr 1; rw [decide_eq_decide]; omega) ?_
                  refine WT.call1F 0 Tryd.func138 zr zr zr zr zr zr zr (fun _ => rfl) (itPdqR_spec N _ hc6 hv6 (pp.1 + 1) s.b t.i (by omega) (by omega) hb1 hm (by omega)) (fun F7 v B7 hF7 hv7 => ?_)
                  refine WT.nil ?_; refine AW.reg ?_; (iterate 2 refine ze hT zr zr zr zr zr ?_); refine WT.nil ?_
                  refine ⟨⟨s.a, pp.1, t.i, decide (s.b - pp.1 ≥ (s.b - s.a) / 8), pp.2.1, _, B7⟩, by dsimp only; omega, SubK.of_map rfl, OwnLe.refl _, hv7, by dsimp only; omega, by dsimp only; omega, by dsimp only; omega, by dsimp only; omega, ?_⟩
                  rw [← heq, eR hl]

theorem itSort_spec (F : Frz) {lt : Item → Item → Bool} {g : Nat} {first capt : List Value} (hc : CmpOk tItem lt F g first capt) {a0 : Option Addr} {m c : Nat} {B : List (Nat × Blk)} {xs : List Item} (hv : Vec tItem F a0 m c B xs) (hm : m ≤ 1000000) :
    Abs.Spec CC 99 [.slice a0 m c, .func (.func g) ⟨first⟩ ⟨capt⟩] F [B] fun F' v o => ∃ B', o = [B'] ∧ Vec tItem F' a0 m c B' (Go.Sort.sort lt xs.toArray).toList := by
  have hl := hv.len
  have hb : Go.Sort.bitsLen m ≤ 20 := (Go.Sort.bitsLen_le_iff _ _).2 (by have : 2 ^ 20 = 1048576 := rfl
                                                                         omega)
  refine Abs.Spec.fn (n := 14) Tryd.func99 rfl rfl fun own => ?_
  refine AW.seq ?_; refine AW.reg ?_; (iterate 3 refine ze hT zr zr zr zr zr ?_); refine WT.nil ?_; refine AW.reg ?_; (iterate 3 refine ze hT zr zr zr zr zr ?_)
  refine WT.conv hT (k2 := .u64) zr zr zr zr zr zr zr zr (wrapU64 (by omega)) ?_
  refine WT.callV Tryd.func139 zr zr zr zr zr zr (blen_spec _ m (by omega)) (fun v hv' => ?_)
  subst hv'
  refine ze hT zr zr zr zr zr ?_
  refine WT.call1F 0 Tryd.func138 zr zr zr zr zr zr zr (fun _ => rfl) (itPdqR_spec (m + 1) _ hc (d := xs.toArray) hv 0 m (Go.Sort.bitsLen m) (by omega) (Nat.zero_le _) (Nat.le_refl _) hm (by omega)) (fun F7 v B7 hF7 hv7 => ?_)
  refine WT.nil ?_
  refine ⟨_, [_], rfl, (by repeat (first | exact List.Sublist.refl _ | refine List.Sublist.cons _ ?_)), _, rfl, ?_⟩
  rw [Go.Sort.sort, show xs.toArray.size = m from by simp [hl]]
  exact hv7

end Go.Proofs.D

set_option linter.unusedVariables false
set_option maxRecDepth 20000
set_option maxHeartbeats 0
open Go Go.Abs Go.Proofs Go.Proofs.D
namespace Go.Proofs.D

/-! ### what sorting gives -/
theorem sort_facts {α : Type} [Inhabited α] {lt : α → α → Bool} (h : Go.Sort.SWO lt) (xs : List α) : (Go.Sort.sort lt xs.toArray).toList.Perm xs ∧ (Go.Sort.sort lt xs.toArray).toList.Pairwise (fun x y => lt y x = false) := by
  obtain ⟨⟨h1, _, h2⟩, h3⟩ := Go.Sort.sort_sorts lt h xs.toArray
  have hsz : (Go.Sort.sort lt xs.toArray).size = xs.length := by rw [h1]; simp
  refine ⟨?_, ?_⟩
  · have e1 : ((Go.Sort.sort lt xs.toArray).extract 0 xs.toArray.size).toList = (Go.Sort.sort lt xs.toArray).toList := by
      rw [show xs.toArray.size = (Go.Sort.sort lt xs.toArray).size by rw [h1], Array.extract_size]
    have e2 : (xs.toArray.extract 0 xs.toArray.size).toList = xs := by rw [Array.extract_size]
    rw [e1, e2] at h2
    exact h2
  · rw [List.pairwise_iff_getElem]
    intro i j hi hj hij
    have hi' : i < (Go.Sort.sort lt xs.toArray).size := by simpa using hi
    have hj' : j < (Go.Sort.sort lt xs.toArray).size := by simpa using hj
    have := h3 i j (Nat.zero_le _) hij (by rw [← h1]; exact hj')
    rw [getElem!_pos _ i hi', getElem!_pos _ j hj'] at this
    simpa using this

theorem sort_same {α : Type} [Inhabited α] {lt : α → α → Bool} (h : Go.Sort.SWO lt) (ha : ∀ x y, lt x y = false → lt y x = false → x = y) {xs ys : List α} (hp : xs.Perm ys) : (Go.Sort.sort lt xs.toArray).toList = (Go.Sort.sort lt ys.toArray).toList := by
  obtain ⟨p1, s1⟩ := sort_facts h xs
  obtain ⟨p2, s2⟩ := sort_facts h ys
  exact List.Perm.eq_of_pairwise (le := fun x y => lt y x = false) (fun a b _ _ h1 h2 => ha _ _ h2 h1) s1 s2 ((p1.trans hp).trans p2.symm)

/-! ### the order of items -/
def ltItem (x y : Item) : Bool := decide (x.rule < y.rule ∨ (x.rule = y.rule ∧ (x.dot < y.dot ∨ (x.dot = y.dot ∧ x.frm < y.frm))))

theorem ltItem_iff {x y : Item} : ltItem x y = true ↔ (x.rule < y.rule ∨ (x.rule = y.rule ∧ (x.dot < y.dot ∨ (x.dot = y.dot ∧ x.frm < y.frm)))) := by unfold ltItem; exact decide_eq_true_iff
theorem ltItem_not {x y : Item} : ltItem x y = false ↔ ¬ (x.rule < y.rule ∨ (x.rule = y.rule ∧ (x.dot < y.dot ∨ (x.dot = y.dot ∧ x.frm < y.frm)))) := by unfold ltItem; exact decide_eq_false_iff_not

theorem ltItem_swo : Go.Sort.SWO ltItem where
  irrefl := fun x => by rw [ltItem_not]; omega
  trans := fun x y z h1 h2 => by rw [ltItem_iff] at *; omega
  ntrans := fun x y z h1 h2 => by rw [ltItem_not] at *; omega

theorem ltItem_anti (x y : Item) (h1 : ltItem x y = false) (h2 : ltItem y x = false) : x = y := by
  rw [ltItem_not] at *
  cases x; cases y
  simp only at h1 h2
  simp only [Item.mk.injEq]
  omega

theorem cmpItem_lt (x y : Item) : orInt [cmpInt x.rule y.rule, cmpInt x.dot y.dot, cmpInt x.frm y.frm] < 0 ↔ ltItem x y = true := by
  rw [ltItem_iff]
  simp only [orInt]
  unfold cmpInt
  repeat' split
  all_goals omega

theorem sets1_spec (F : Frz) (x y : Item) : Abs.Spec CC 100 [.agg ⟨[.int .i64 x.rule, .int .i64 x.dot, .int .i64 x.frm]⟩, .agg ⟨[.int .i64 y.rule, .int .i64 y.dot, .int .i64 y.frm]⟩] F [] fun _ v o => o = [] ∧ v = .int .i64 (orInt [cmpInt x.rule y.rule, cmpInt x.dot y.dot, cmpInt x.frm y.frm]) := by
  refine Abs.Spec.fn (n := 22) Tryd.func100 rfl rfl fun own => ?_
  refine AW.seq (AW.reg ?_)
  refine WT.boxT zr zr zr zr zr zr (fun i2 hi2 => ?_)
  refine WT.boxT zr zr zr zr zr zr (fun i3 hi3 => ?_)
  refine ze hT zr zr zr zr zr ?_; refine WT.nil ?_; refine AW.seq ?_
  refine AW.draw (ps := [(6, 4), (8, 4), (11, 4), (11, 9), (13, 4), (13, 9)]) rfl rfl ?_
  refine ze hT zr zr zr zr zr ?_; refine zl hT 1 zr zr zr zr zr zr me zr ?_; refine ze hT zr zr zr zr zr ?_; refine zl hT 0 zr zr zr zr zr zr me zr ?_
  refine WT.callV Tryd.func102 zr zr zr zr zr zr (compare_spec _ _ _) (fun v hv => ?_)
  subst hv
  refine ze hT zr zr zr zr zr ?_; refine zl hT 1 zr zr zr zr zr zr me zr ?_; refine ze hT zr zr zr zr zr ?_; refine zl hT 0 zr zr zr zr zr zr me zr ?_
  refine WT.callV Tryd.func102 zr zr zr zr zr zr (compare_spec _ _ _) (fun v hv => ?_)
  subst hv
  refine ze hT zr zr zr zr zr ?_; refine zl hT 1 zr zr zr zr zr zr me zr ?_; refine ze hT zr zr zr zr zr ?_; refine zl hT 0 zr zr zr zr zr zr me zr ?_
  refine WT.callV Tryd.func102 zr zr zr zr zr zr (compare_spec _ _ _) (fun v hv => ?_)
  subst hv
  skip
  refine WT.buildT hT zr zr zr zr zr zr zr zr zr zr zr zr zr zr (fun i9 hi9 => ?_)
  refine WT.callLend 0 Tryd.func101 zr zr zr zr zr zr zr (fun G hG hBG => or_spec G (l := [cmpInt x.rule y.rule, cmpInt x.dot y.dot, cmpInt x.frm y.frm]) (Bld.frozen (F := F) (B := [(i9, .cells false [.int .i64 (cmpInt x.rule y.rule), .int .i64 (cmpInt x.dot y.dot), .int .i64 (cmpInt x.frm y.frm)])]) ⟨rfl, .inr ⟨i9, _, rfl, rfl, rfl, Cells.cons (l := [_]) rfl (Cells.cons (l := [_]) rfl (Cells.single (x := cmpInt x.frm y.frm) rfl)), by decide⟩⟩ hG hBG) (by decide)) (fun v hv => ?_)
  subst hv
  refine ze hT zr zr zr zr zr ?_; refine WT.nil ?_
  refine ⟨(by repeat (first | exact trivial | refine recs_pair rfl rfl (by first | exact keep0 | exact keep1 (keeps_frz (by assumption)) | exact kp 0 0 me me | exact kp 1 1 me me | exact kp 2 2 me me | exact kp 3 3 me me | exact kp 4 4 me me | exact kp 5 5 me me | exact kp 6 6 me me | exact kp 0 1 me me | exact kp 1 2 me me | exact kp 2 3 me me | exact kp 3 4 me me | exact kp 4 5 me me | exact kp 5 6 me me | exact kp 6 7 me me) ?_)), ?_⟩
  skip
  exact AW.ret ⟨_, [], ⟨_, _, rfl, rfl, rfl⟩, (by repeat (first | exact List.Sublist.refl _ | refine List.Sublist.cons _ ?_)), rfl, rfl⟩

theorem sets1_cmp (F : Frz) : CmpOk tItem ltItem F 100 [] [] :=
  ⟨⟨_, Tryd.func100, rfl⟩, fun G _ lx ly x y hx hy => by
    obtain rfl : lx = _ := hx
    obtain rfl : ly = _ := hy
    exact Spec.mono (sets1_spec G x y) (fun F' v o _ h => ⟨h.1, _, h.2, cmpItem_lt x y⟩)⟩

/-! ### just the items of a word -/
inductive EI (g : Gram) (w : List Nat) : Nat → Item → Prop
  | start {i : Nat} {r : Rule} : g.rules[i]? = some r → r.left = g.start → EI g w 0 ⟨i, 0, 0⟩
  | predict {k n i : Nat} {x : Item} {r : Rule} : EI g w k x → nextOf g.rules x = some ⟨false, n⟩ → g.rules[i]? = some r → r.left = n → EI g w k ⟨i, 0, k⟩
  | scan {k t : Nat} {x : Item} : EI g w k x → nextOf g.rules x = some ⟨true, t⟩ → w[k]? = some t → EI g w (k + 1) (stepItem x)
  | complete {k : Nat} {x y : Item} {r : Rule} : EI g w k x → g.rules[x.rule]? = some r → x.dot = r.right.length → EI g w x.frm y → nextOf g.rules y = some ⟨false, r.left⟩ → EI g w k (stepItem y)

theorem EI.ok {g : Gram} {w : List Nat} {k : Nat} {x : Item} (h : EI g w k x) : QI g k x := by
  induction h with
  | start h1 _ => exact ⟨_, h1, Nat.zero_le _, Nat.le_refl _⟩
  | predict _ _ h3 _ _ => exact ⟨_, h3, Nat.zero_le _, Nat.le_refl _⟩
  | scan _ h2 _ ih => exact QI_scan g _ _ _ ih h2
  | complete _ h2 h3 _ h5 ih1 ih2 => exact (QI_inv g).complete _ _ _ _ ih1 h2 h3 ih2 h5

theorem EI_inv (g : Gram) (w : List Nat) : QInv g (EI g w) where
  ok := fun _ _ h => h.ok
  predict := fun _ _ _ _ _ h1 h2 h3 h4 => .predict h1 h2 h3 h4
  complete := fun _ _ _ _ h1 h2 h3 h4 h5 => .complete h1 h2 h3 h4 h5

theorem EI.mem {g : Gram} {w : List Nat} {L : Nat → List Item} (hL : Sets g w L) {k : Nat} {x : Item} (h : EI g w k x) : k ≤ w.length → x ∈ L k := by
  induction h with
  | start h1 h2 => intro _; exact hL.start _ _ h1 h2
  | predict _ h2 h3 h4 ih => intro hk; exact (hL.closed _ hk _ (ih hk)).1 _ _ _ h2 h3 h4
  | scan _ h2 h3 ih => intro hk; exact hL.scan _ _ h3 _ (ih (by omega)) h2
  | complete h1 h2 h3 _ h5 ih1 ih2 =>
    intro hk
    have hf := h1.ok
    obtain ⟨_, _, _, hf⟩ := hf
    exact (hL.closed _ hk _ (ih1 hk)).2 _ h2 h3 _ (ih2 (by omega)) h5

theorem EI.prefix_ {g : Gram} {w : List Nat} {n : Nat} {k : Nat} {x : Item} (h : EI g w k x) : k ≤ n → EI g (w.take n) k x := by
  induction h with
  | start h1 h2 => intro _; exact .start h1 h2
  | predict _ h2 h3 h4 ih => intro hk; exact .predict (ih hk) h2 h3 h4
  | scan _ h2 h3 ih => intro hk; exact .scan (ih (by omega)) h2 (by rw [List.getElem?_take, if_pos (by omega)]; exact h3)
  | complete h1 h2 h3 _ h5 ih1 ih2 =>
    intro hk
    obtain ⟨_, _, _, hf⟩ := h1.ok
    exact .complete (ih1 hk) h2 h3 (ih2 (by omega)) h5

theorem EI.longer {g : Gram} {w : List Nat} {n : Nat} {k : Nat} {x : Item} (h : EI g (w.take n) k x) : EI g w k x := by
  induction h with
  | start h1 h2 => exact .start h1 h2
  | predict _ h2 h3 h4 ih => exact .predict ih h2 h3 h4
  | scan _ h2 h3 ih =>
    refine .scan ih h2 ?_
    rw [List.getElem?_take] at h3
    split at h3
    · exact h3
    · cases h3
  | complete h1 h2 h3 _ h5 ih1 ih2 => exact .complete ih1 h2 h3 ih2 h5

theorem ders_snoc {g : Gram} {w : List Nat} {s : Sym} : ∀ {l : List Sym} {i m j : Nat}, Ders g w l i m → Der g w s m j → Ders g w (l ++ [s]) i j
  | [], i, m, j, h1, h2 => by rw [ders_nil.1 h1]; exact .cons h2 .nil
  | a :: l, i, m, j, h1, h2 => by
    obtain ⟨p, h3, h4⟩ := ders_cons.1 h1
    exact .cons h3 (ders_snoc h4 h2)

/-- The symbols before the dot derive the part from where the item began. -/
theorem EI.der {g : Gram} {w : List Nat} {k : Nat} {x : Item} (h : EI g w k x) : ∀ r, g.rules[x.rule]? = some r → Ders g w (r.right.take x.dot) x.frm k := by
  induction h with
  | start h1 _ => intro r hr; exact .nil
  | predict _ _ h3 _ _ => intro r hr; exact .nil
  | @scan k t x _ h2 h3 ih =>
    intro r hr
    obtain ⟨r', h4, h5⟩ := nextOf_some h2
    have hr : g.rules[x.rule]? = some r := hr
    rw [hr] at h4
    obtain rfl := Option.some.inj h4
    show Ders g w (r.right.take (x.dot + 1)) x.frm (k + 1)
    rw [List.take_add_one, h5]
    exact ders_snoc (ih r hr) (.term h3)
  | @complete k x y r0 h1 h2 h3 _ h5 ih1 ih2 =>
    intro r hr
    obtain ⟨r', h4, h6⟩ := nextOf_some h5
    have hr : g.rules[y.rule]? = some r := hr
    rw [hr] at h4
    obtain rfl := Option.some.inj h4
    show Ders g w (r.right.take (y.dot + 1)) y.frm k
    rw [List.take_add_one, h6]
    refine ders_snoc (ih2 r hr) (.non (List.mem_of_getElem? h2) ?_)
    have := ih1 r0 h2
    rw [h3, List.take_length] at this
    exact this
end Go.Proofs.D

set_option linter.unusedVariables false
set_option maxRecDepth 20000
set_option maxHeartbeats 0
open Go Go.Abs Go.Proofs Go.Proofs.D
namespace Go.Proofs.D

/-- A set of a word, in order. -/
def sortedSet (l : List Item) : List Item := (Go.Sort.sort ltItem l.toArray).toList

/-- What earley.Sets answers: sets of just the items, in order. -/
structure SetsOf (g : Gram) (w : List Nat) (L : List (List Item)) : Prop where
  len : L.length = w.length + 1
  at_ : ∀ k l, L[k]? = some l → ∃ l0, l = sortedSet l0 ∧ l0.Nodup ∧ l0.length ≤ 3360 ∧ ∀ x, x ∈ l0 ↔ EI g w k x

structure OS where
  xs : List (List Item)
  a : Option Addr
  c : Nat
  B : List (Nat × Blk)

theorem COk.nd {g : Gram} {Q : Nat → Item → Prop} {q : ChP} {F : Frz} {s : CSt} (h : COk g Q q F s) (j : Nat) : (LS s j).Nodup := by
  unfold LS
  split
  · exact h.nodup
  · rw [List.getD_eq_getElem?_getD]
    cases e : s.old[j]? with
    | none => simp
    | some l => exact h.ndold j l e

theorem esets_spec (F : Frz) (hL : Laid F) (g : Gram) (hg : Valid g) {a : Option Addr} {m c : Nat} (hr : Arr tRule F a m c g.rules) {b : Option Addr} {n d : Nat} {w : List Nat} (hw : Arr tNat F b n d w) (hw1 : w.length ≤ 12) (hw2 : ∀ t ∈ w, t < g.terms) :
    Abs.Spec CC 44 [.agg ⟨gramCells g a m c⟩, .slice b n d] F [] fun F' v o => o = [] ∧ ∃ a' c' L, v = .tuple ⟨[.slice a' (n + 1) c', .int .i64 0]⟩ ∧ Arr (tList tItem) F' a' (n + 1) c' L ∧ SetsOf g w L := by
  have hwl := hw.len
  have hg4 : ∀ r ∈ g.rules, r.right.length ≤ 4 := fun r h => (hg.right r h).2.1
  have hgl := hg.range.rules
  have hQ := EI_inv g w
  unfold gramCells
  refine Abs.Spec.fn (n := 54) Tryd.func44 rfl rfl fun own => ?_
  refine AW.seq (AW.reg ?_)
  refine WT.boxT zr zr zr zr zr zr (fun i2 hi2 => ?_)
  (iterate 2 refine ze hT zr zr zr zr zr ?_); refine WT.nil ?_; (iterate 2 refine AW.seq ?_); refine AW.reg ?_; refine zl hT 0 zr zr zr zr zr zr me zr ?_; refine ze hT zr zr zr zr zr ?_
  refine WT.callV Tryd.func16 zr zr zr zr zr zr (accepts_spec _ hL g hg hr hw hw1 hw2) (fun v hv => ?_)
  subst hv
  (iterate 5 refine ze hT zr zr zr zr zr ?_); refine WT.nil ?_; refine AW.seq ?_; refine AW.reg ?_; (iterate 2 refine ze hT zr zr zr zr zr ?_); refine WT.nil ?_
  refine AW.cond rfl (fun h => (by cases h)) (fun _ => ?_)
  refine AW.skip ?_; refine AW.seq ?_; refine AW.reg ?_; refine zl hT 0 zr zr zr zr zr zr me zr ?_
  refine WT.callN Tryd.func60 zr zr zr zr zr zr (cstart_spec F g hg4 hgl hQ (fun i r hr hl => .start hr hl) hr) (fun F1 v B1 hF1 hv => ?_)
  obtain ⟨q, s0, rfl, rfl, hs0, hk0, hin0, hcl0⟩ := hv
  have hw1' := hw.mono hF1
  have hls0 : LS s0 0 = s0.last := by unfold LS; rw [if_pos hk0.symm]
  have hsets0 : Sets g [] (LS s0) := by
    refine ⟨fun k hk x hx => ?_, fun i r hr' hl => ?_, fun k hk x hx => ?_, fun k t h => by simp at h⟩
    · obtain rfl : k = 0 := Nat.le_zero.1 hk
      rw [hls0] at hx
      have := hQ.ok _ _ (hs0.qlast x hx)
      rw [hk0] at this; exact this
    · rw [hls0]; exact hin0 i r hr' hl
    · obtain rfl : k = 0 := Nat.le_zero.1 hk
      rw [hls0] at hx
      have := hcl0 x hx
      rw [hk0] at this; exact this
  refine ze hT zr zr zr zr zr ?_; refine WT.nil ?_; (iterate 2 refine AW.seq ?_); refine AW.reg ?_; (iterate 3 refine ze hT zr zr zr zr zr ?_); refine WT.nil ?_
  refine AW.jnT (S := CSt) (fun _ => [(27, .int .i64 (n : Nat))]) (fun s => cB g q s :: [(i2, .cells false [.int .i64 g.terms, .int .i64 g.nons, .int .i64 g.start, .slice a m c])] :: own) (fun s G => COk g (EI g w) q G s ∧ s.k = n ∧ Sets g w (LS s)) ?_ (fun s F3 hF3 hP => ?_)
  · refine AW.range (S := CSt) (fun _ => []) (fun s => cB g q s :: [(i2, .cells false [.int .i64 g.terms, .int .i64 g.nons, .int .i64 g.start, .slice a m c])] :: own) (fun j s G => COk g (EI g w) q G s ∧ s.k = j ∧ Sets g (w.take j) (LS s)) n s0
      zr zr zr zr zr zr zr zr zr (by omega) rfl rfl (fun _ => rfl) (fun _ => rfl) (SubK.of_map rfl) (OwnLe.refl _) ⟨hs0, hk0, by rw [List.take_zero]; exact hsets0⟩ ?_ ?_
    · intro j s F2 hF2 hj hP
      obtain ⟨hs, hk, hset⟩ := hP
      have hw2' := hw1'.mono hF2
      refine AW.seq ?_; refine AW.reg ?_
      refine WT.idxL hT hw2' zr zr zr zr zr zr zr zr zr (by omega) (fun t ht b3 off3 ro3 cs3 lx3 hb3 hp3 hrel3 => ?_)
      obtain rfl : lx3 = _ := hrel3
      refine zi (fo := 0) hT (by assumption) (by assumption) zr zr zr zr zr zr ?_; refine ze hT zr zr zr zr zr ?_; refine WT.nil ?_; refine AW.reg ?_; (iterate 2 refine ze hT zr zr zr zr zr ?_)
      refine WT.call1F 0 Tryd.func68 zr zr zr zr zr zr zr (fun _ => rfl) (cput_spec F2 g hg4 hgl hQ hs (by omega) t (fun x hx hn => .scan hx hn (by rw [hk]; exact ht))) (fun F4 v B4 hF4 hv4 => ?_)
      obtain ⟨s', rfl, hs', hk', hold, hsc, hcl⟩ := hv4
      refine WT.nil ?_
      refine ⟨s', SubK.of_map rfl, (by repeat (first | exact OwnLe.refl _ | refine OwnLe.skip _ ?_)), hs', by rw [hk', hk], ?_⟩
      have := sets_put hset (by rw [hk, List.length_take]; omega) (fun x hx => hQ.ok _ _ (hs'.qlast x hx)) hk' hs.oldl hold hsc hcl
      rw [List.take_add_one, ht]; exact this
    · intro s F2 hF2 hP
      obtain ⟨hs, hk, hset⟩ := hP
      rw [List.take_of_length_le (by omega)] at hset
      exact ⟨s, SubK.of_map rfl, OwnLe.refl _, hs, hk, hset⟩
  · obtain ⟨hs, hk, hset⟩ := hP
    refine AW.freezeAll 0 rfl rfl (fun F4 hF4 hB4 => ?_)
    have hs4 := hs.mono hF4
    have hla := hs.list.frozen hF4 (fun i b hb => hB4 i b (subL _ hb))
    have hic : F4 q.ic = some (.cells false [.int .i64 g.terms, .int .i64 g.nons, .int .i64 g.start, .slice q.ra q.rm q.rc, .slice s.sa (s.k + 1) s.sc, .slice s.la (s.k + 1) s.lc]) := hB4 _ _ (List.mem_cons_self ..)
    rw [hk] at hic hla
    refine AW.seq ?_; refine AW.reg ?_; refine ze hT zr zr zr zr zr ?_; refine WT.nil ?_; (iterate 2 refine AW.seq ?_); refine AW.reg ?_; (iterate 3 refine ze hT zr zr zr zr zr ?_); refine zf hT (by assumption) zr zr zr zr zr zr ?_; (iterate 2 refine ze hT zr zr zr zr zr ?_); refine WT.nil ?_
    refine AW.range (S := OS) (fun u => [(11, .slice u.a u.xs.length u.c)]) (fun u => u.B :: [] :: [(i2, .cells false [.int .i64 g.terms, .int .i64 g.nons, .int .i64 g.start, .slice a m c])] :: own)
      (fun j u G => Bld (tList tItem) G u.a u.xs.length u.c u.B u.xs ∧ u.xs = (List.range j).map fun k => sortedSet (LS s k)) (n + 1) ⟨[], none, 0, []⟩
      zr zr zr zr zr zr zr zr zr (by omega) rfl rfl (fun _ => rfl) (fun _ => rfl) (SubK.of_map rfl) (OwnLe.flat (List.Perm.refl _)) ⟨Bld.nil_ _ _, rfl⟩ ?_ ?_
    · intro j u F5 hF5 hj hP
      obtain ⟨hb, hxs⟩ := hP
      have hla5 := hla.mono hF5
      obtain ⟨xa, xn, xc, hat, harr, _⟩ := hs.at_ (j := j) (by omega)
      have hax := harr F5 (hF4.trans hF5) (fun i b h => hF5 _ _ (hB4 i b h))
      have hfew := hs.few' hg4 hgl hQ j
      have haxl := hax.len
      have hul : u.xs.length = j := by rw [hxs]; simp
      refine AW.seq ?_; refine AW.reg ?_
      refine WT.idxL hT hla5 zr zr zr zr zr zr zr zr zr (by have := hs.usl; simp; omega) (fun v hv b1 off ro cs lx hb1 hp1 hrel => ?_)
      obtain rfl : v = .slice xa xn xc := by rw [hat] at hv; exact (Option.some.inj hv).symm
      obtain ⟨rfl, _⟩ := hrel
      refine zi (fo := 0) hT (by assumption) (by assumption) zr zr zr zr zr zr ?_; refine ze hT zr zr zr zr zr ?_; refine WT.nil ?_; refine AW.seq ?_; refine AW.reg ?_; refine ze hT zr zr zr zr zr ?_
      refine WT.callN Tryd.func98 zr zr zr zr zr zr (itemClone_spec _ hax (by omega)) (fun F6 v B6 hF6 hv6 => ?_)
      obtain ⟨ya, yc, rfl, hya⟩ := hv6
      refine ze hT zr zr zr zr zr ?_; refine WT.nil ?_; refine AW.seq ?_; refine AW.reg ?_; refine ze hT zr zr zr zr zr ?_
      refine WT.call1F 0 Tryd.func99 zr zr zr zr zr zr zr (fun _ => rfl) (itSort_spec _ (sets1_cmp _) hya (by omega)) (fun F7 v B7 hF7 hv7 => ?_)
      refine WT.freezeAll 0 rfl rfl (fun F8 hF8 hB8 => ?_)
      have hfz := hv7.arr hF8 hB8
      have hb8 := ((hb.mono hF6).mono hF7).mono hF8
      refine WT.nil ?_; refine AW.reg ?_; (iterate 2 refine ze hT zr zr zr zr zr ?_)
      refine WT.buildT hT zr zr zr zr zr zr zr zr zr zr zr zr zr zr (fun i9 hi9 => ?_)
      refine WT.appendT (ys := [sortedSet (LS s j)]) hT 2 hb8 rfl (fun _ => rfl) zr zr zr zr zr zr zr zr zr zr zr (fun h0 s0 => news_own hT s0 0 zr zr zr zr) (Cells.single (R := tList tItem) (x := sortedSet (LS s j)) ⟨_, _, _, rfl, hfz⟩) rfl (by decide) (by first | omega | (dsimp only at *; omega)) (fun a3 c3 B3 hB3 => ?_)
      have hl2 : u.xs.length + 1 = (u.xs ++ [sortedSet (LS s j)]).length := by simp
      rw [hl2] at hB3 ⊢
      refine ze hT zr zr zr zr zr ?_; refine WT.nil ?_
      refine ⟨⟨u.xs ++ [sortedSet (LS s j)], a3, c3, B3⟩, SubK.of_map rfl, (by repeat (first | exact OwnLe.refl _ | refine OwnLe.skip _ ?_)), hB3, ?_⟩
      show u.xs ++ [sortedSet (LS s j)] = _
      rw [List.range_succ, List.map_append, hxs]; rfl
    · intro u F5 hF5 hP
      obtain ⟨hb, hxs⟩ := hP
      have hul : u.xs.length = n + 1 := by rw [hxs]; simp
      refine AW.freezeAll 0 rfl rfl (fun F6 hF6 hB6 => ?_)
      have hx := hb.frozen hF6 hB6
      refine AW.seq ?_; refine AW.reg ?_; (iterate 3 refine ze hT zr zr zr zr zr ?_); refine WT.nil ?_
      refine AW.ret ⟨_, [], ⟨_, _, rfl, ⟨_, _, rfl, rfl, rfl⟩, rfl⟩, (by repeat (first | exact List.Sublist.refl _ | refine List.Sublist.cons _ ?_)), rfl, u.a, u.c, u.xs, by rw [hul]; rfl, by rw [← hul]; exact hx, ⟨by rw [hul, hwl], fun k l hkl => ?_⟩⟩
      have hkn : k < n + 1 := by have := (List.getElem?_eq_some_iff.1 hkl).1; omega
      rw [hxs, List.getElem?_map, List.getElem?_range hkn] at hkl
      obtain rfl := Option.some.inj hkl
      obtain ⟨_, _, _, _, _, hqs⟩ := hs.at_ (j := k) (by omega)
      exact ⟨LS s k, rfl, hs.nd k, hs.few' hg4 hgl hQ k, fun x => ⟨hqs x, fun hx => hx.mem hset (by omega)⟩⟩
end Go.Proofs.D

set_option linter.unusedVariables false
set_option maxRecDepth 20000
set_option maxHeartbeats 0
open Go Go.Abs Go.Proofs Go.Proofs.D
namespace Go.Proofs.D

theorem copyOf_spec (F : Frz) (g : Gram) {a : Option Addr} {m c : Nat} (hr : Arr tRule F a m c g.rules) (hm : m ≤ 1000000) (hrr : ∀ r ∈ g.rules, r.right.length ≤ 1000000) :
    Abs.Spec CC 48 [.agg ⟨gramCells g a m c⟩] F [] fun F' v o => ∃ B', o = [B'] ∧ ∃ a' c', v = .agg ⟨gramCells g a' m c'⟩ ∧ Bld tRule F' a' m c' B' g.rules := by
  unfold gramCells
  have hrl := hr.len
  refine Abs.Spec.fn (n := 28) Tryd.func48 rfl rfl fun own => ?_
  refine AW.seq (AW.reg ?_)
  refine WT.boxT zr zr zr zr zr zr (fun i1 hi1 => ?_)
  refine WT.allocT hT zr zr zr zr zr zr (fun i2 hi2 => ?_)
  refine WT.nil ?_; refine AW.seq ?_; refine AW.reg ?_; refine zl hT 1 zr zr zr zr zr zr me zr ?_
  refine WT.allocT hT zr zr zr zr zr zr (fun i3 hi3 => ?_)
  refine zs hT 0 0 zr zr zr zr zr zr zr zr zr zr zr zr ?_; refine WT.nil ?_; refine AW.seq ?_; refine AW.reg ?_; refine ze hT zr zr zr zr zr ?_; refine zs hT 0 0 zr zr zr zr zr zr zr zr zr zr zr zr ?_; refine WT.nil ?_; (iterate 2 refine AW.seq ?_); refine AW.reg ?_; refine ze hT zr zr zr zr zr ?_; refine zl hT 2 zr zr zr zr zr zr me zr ?_; (iterate 2 refine ze hT zr zr zr zr zr ?_); refine WT.nil ?_
  refine AW.range (S := CS) (fun _ => []) (fun s => s.B :: [(i3, .cells false [.int .i64 g.terms, .int .i64 g.nons, .int .i64 g.start, .slice s.a (g.rules.take s.j).length s.c])] :: [(i2, .cells false [.int .i64 0, .int .i64 0, .int .i64 0, .slice none 0 0])] :: [(i1, .cells false [.int .i64 g.terms, .int .i64 g.nons, .int .i64 g.start, .slice a m c])] :: own)
    (fun j s G => s.j = j ∧ Bld tRule G s.a (g.rules.take s.j).length s.c s.B (g.rules.take s.j)) m ⟨0, none, 0, []⟩
    zr zr zr zr zr zr zr zr zr (by omega) rfl rfl (fun _ => rfl) (fun _ => rfl) (SubK.of_map rfl) (OwnLe.flat (List.Perm.refl _)) ⟨rfl, by simpa using Bld.nil_ _ _⟩ ?_ ?_
  · intro j s F1 hF1 hj hP
    obtain ⟨rfl, hb⟩ := hP
    have hr1 := hr.mono hF1
    refine AW.seq ?_; refine AW.reg ?_
    refine WT.idxL hT hr1 zr zr zr zr zr zr zr zr zr (by omega) (fun r hrj b off ro cs lx hb1 hp1 hrel => ?_)
    obtain ⟨ra, rn, rc, rfl, hra⟩ := hrel
    have hral := hra.len
    have hrn := hrr r (List.mem_of_getElem? hrj)
    refine zi (fo := 0) hT (by assumption) (by assumption) zr zr zr zr zr zr ?_
    refine WT.allocT hT zr zr zr zr zr zr (fun i5 hi5 => ?_)
    refine zs hT 0 0 zr zr zr zr zr zr zr zr zr zr zr zr ?_; refine WT.nil ?_
    refine AW.draw (ps := [(1, 6), (1, 8), (3, 6)]) rfl rfl ?_
    refine ze hT zr zr zr zr zr ?_; refine zl hT 2 zr zr zr zr zr zr me zr ?_; refine ze hT zr zr zr zr zr ?_; refine zl hT 0 zr zr zr zr zr zr me zr ?_; refine ze hT zr zr zr zr zr ?_; refine zl hT 0 zr zr zr zr zr zr me zr ?_
    refine WT.callN Tryd.func49 zr zr zr zr zr zr (symClone_spec _ hra (by omega)) (fun F2 v B2 hF2 hv => ?_)
    obtain ⟨ca, cc, rfl, hcv⟩ := hv
    refine WT.freezeAll 0 rfl rfl (fun F3 hF3 hB3 => ?_)
    have hca := hcv.arr hF3 hB3
    have hb3 := (hb.mono hF2).mono hF3
    refine ze hT zr zr zr zr zr ?_
    refine WT.buildT hT zr zr zr zr zr zr zr zr zr zr zr zr zr zr (fun i9 hi9 => ?_)
    have hlt : (g.rules.take s.j).length ≤ 1000000 := by simp; omega
    refine WT.appendT (ys := [r]) hT 3 hb3 rfl (fun _ => rfl) zr zr zr zr zr zr zr zr zr zr zr (fun h0 s0 => news_own hT s0 0 zr zr zr zr) (Cells.single (R := tRule) (x := r) ⟨_, _, _, rfl, hca⟩) rfl (by decide) (by first | omega | (dsimp only at *; omega)) (fun a3 c3 B3 hB3 => ?_)
    have he : g.rules.take (s.j + 1) = g.rules.take s.j ++ [r] := by rw [List.take_add_one, hrj]; rfl
    have hl2 : (g.rules.take (s.j + 1)).length = (g.rules.take s.j).length + 1 := by rw [he]; simp
    rw [← he, ← hl2] at hB3
    rw [← hl2]
    refine ze hT zr zr zr zr zr ?_; refine zs hT 4 0 zr zr zr zr zr zr zr zr zr zr zr zr ?_; refine WT.nil ?_
    refine ⟨(by repeat (first | exact trivial | refine recs_pair rfl rfl (by first | exact keep0 | exact keep1 (keeps_frz (by assumption)) | exact kp 0 0 me me | exact kp 1 1 me me | exact kp 2 2 me me | exact kp 3 3 me me | exact kp 4 4 me me | exact kp 5 5 me me | exact kp 6 6 me me | exact kp 0 1 me me | exact kp 1 2 me me | exact kp 2 3 me me | exact kp 3 4 me me | exact kp 4 5 me me | exact kp 5 6 me me | exact kp 6 7 me me) ?_)), ?_⟩
    exact ⟨⟨s.j + 1, a3, c3, B3⟩, SubK.of_map rfl, (by repeat (first | exact OwnLe.refl _ | refine OwnLe.skip _ ?_)), rfl, hB3⟩
  · intro s F1 hF1 hP
    obtain ⟨rfl, hb⟩ := hP
    rw [List.take_of_length_le (by omega), ← hrl] at hb
    rw [List.take_of_length_le (by omega), ← hrl]
    refine AW.seq ?_; refine AW.reg ?_; refine zl hT 1 zr zr zr zr zr zr me zr ?_; refine zs hT 2 0 zr zr zr zr zr zr zr zr zr zr zr zr ?_; refine WT.nil ?_
    refine AW.perm (perm_to3 _ _ _ _ _) ?_
    refine AW.ret ⟨_, [_], ⟨_, _, ⟨_, rfl, fun G h0 s0 => loadA_cells (s0.has (p := 1) rfl (List.mem_cons_self ..)) (readT_ok hT rfl)⟩, rfl, rfl⟩, (by repeat (first | exact List.Sublist.refl _ | refine List.Sublist.cons _ ?_)), _, rfl, _, _, rfl, ?_⟩
    exact hb

theorem items1_spec (F : Frz) {ip : Nat} {ro : Bool} {t n s : Nat} {v : Value} (hi : F ip = some (.cells ro [.int .i64 t, .int .i64 n, .int .i64 s, v])) (r : Rule) {b : Option Addr} {m d : Nat} :
    Abs.Spec CC 47 [.agg ⟨[.int .i64 r.left, .slice b m d]⟩, .pointer (some ⟨ip, 0, none⟩)] F [] fun _ v o => o = [] ∧ v = .bool (decide (r.left = s)) := by
  refine Abs.Spec.fn (n := 9) Tryd.func47 rfl rfl fun own => ?_
  refine AW.seq (AW.reg ?_)
  refine WT.boxT zr zr zr zr zr zr (fun i2 hi2 => ?_)
  refine ze hT zr zr zr zr zr ?_; refine WT.nil ?_; refine AW.seq ?_; refine AW.reg ?_; refine ze hT zr zr zr zr zr ?_; refine zl hT 0 zr zr zr zr zr zr me zr ?_; refine ze hT zr zr zr zr zr ?_; refine zf hT (by assumption) zr zr zr zr zr zr ?_; (iterate 2 refine ze hT zr zr zr zr zr ?_); refine WT.nil ?_
  refine AW.ret ⟨_, [], ⟨_, _, rfl, rfl, rfl⟩, (by repeat (first | exact List.Sublist.refl _ | refine List.Sublist.cons _ ?_)), rfl, ?_⟩
  by_cases e : r.left = s
  · subst e; simp [tupleA]
  · have : ¬ (r.left : Int) = (s : Int) := by omega
    simp [tupleA, e, this]

theorem der_more {g h : Gram} {w : List Nat} (hs : ∀ r ∈ g.rules, r ∈ h.rules) : ∀ {s : Sym} {i j : Nat}, Der g w s i j → Der h w s i j := by
  intro s i j hd
  refine Der.rec (motive_1 := fun s i j _ => Der h w s i j) (motive_2 := fun l i j _ => Ders h w l i j) ?_ ?_ ?_ ?_ hd
  · intro t i h; exact .term h
  · intro r i j hr _ ih; exact .non (hs r hr) ih
  · intro i; exact .nil
  · intro s l i m j _ _ h1 h2; exact .cons h1 h2
theorem ders_more {g h : Gram} {w : List Nat} (hs : ∀ r ∈ g.rules, r ∈ h.rules) : ∀ {l : List Sym} {i j : Nat}, Ders g w l i j → Ders h w l i j
  | [], i, j, hd => by rw [ders_nil.1 hd]; exact .nil
  | s :: l, i, j, hd => by
    obtain ⟨m, h1, h2⟩ := ders_cons.1 hd
    exact .cons (der_more hs h1) (ders_more hs h2)

/-- The grammar with one more nonterminal, which derives the beginning of a rule. -/
def headGram (g : Gram) (l : List Sym) : Gram := ⟨g.terms, g.nons + 1, g.nons, g.rules ++ [⟨g.nons, l⟩]⟩

theorem headGram_valid {g : Gram} (hg : Small g) {r : Rule} (hr : r ∈ g.rules) (d : Nat) : Valid (headGram g (r.right.take d)) where
  range := ⟨by have := hg.terms; show 1 ≤ g.terms ∧ g.terms ≤ 8; omega, by have := hg.nons; show 1 ≤ g.nons + 1 ∧ g.nons + 1 ≤ 10; omega, Nat.lt_succ_self _, by
    show (g.rules ++ [_]).length ≤ 32
    rw [List.length_append]
    have := hg.rules
    simp
    omega, fun q hq => by
    rcases List.mem_append.1 hq with hq | hq
    · have := (hg.ok q hq).2.1; omega
    · simp at hq; subst hq
      have := (hg.ok r hr).2.1
      simp
      omega⟩
  right := fun q hq => by
    have up : ∀ y, SymOk g.terms g.nons y → SymOk g.terms (g.nons + 1) y := fun y hy => by
      unfold SymOk at *
      by_cases ht : y.term = true
      · rw [if_pos ht] at hy ⊢; exact hy
      · rw [if_neg ht] at hy ⊢; omega
    rcases List.mem_append.1 hq with hq | hq
    · obtain ⟨h1, h2, h3⟩ := hg.ok q hq
      exact ⟨by show q.left < g.nons + 1; omega, by omega, fun y hy => up y (h3 y hy)⟩
    · simp at hq; subst hq
      obtain ⟨h1, h2, h3⟩ := hg.ok r hr
      exact ⟨Nat.lt_succ_self _, by simp; omega, fun y hy => up y (h3 y (List.mem_of_mem_take hy))⟩
  nodup := by
    show (g.rules ++ [_]).Nodup
    rw [List.nodup_append]
    refine ⟨hg.nodup, by simp, fun x hx y hy => ?_⟩
    simp at hy; subst hy
    rintro rfl
    have := (hg.ok _ hx).1
    simp at this

theorem headGram_der {g : Gram} {w : List Nat} {k : Nat} {x : Item} {r : Rule} (h : EI g w k x) (hr : g.rules[x.rule]? = some r) (hk : k ≤ w.length) :
    Der (headGram g (r.right.take x.dot)) ((w.take k).drop x.frm) ⟨false, g.nons⟩ 0 (k - x.frm) := by
  obtain ⟨_, _, _, hf⟩ := h.ok
  have h1 := ders_more (h := headGram g (r.right.take x.dot)) (fun q hq => List.mem_append_left _ hq) (h.der r hr)
  have h2 : Der (headGram g (r.right.take x.dot)) w ⟨false, g.nons⟩ x.frm k := .non (r := ⟨g.nons, r.right.take x.dot⟩) (by unfold headGram; simp) h1
  have h3 := part_der (a := x.frm) (b := k) hk h2 (Nat.le_refl _) (Nat.le_refl _)
  rwa [Nat.sub_self] at h3

theorem earleyItems_law (F : Frz) (hL : Laid F) {a b : Option Addr} {m n c d : Nat} {l w0 : List Int} (hl : Arr tInt F a m c l) (hw0 : Arr tInt F b n d w0) (hm : n ≤ 9223372036854775807) (kx nx : Int) :
    Abs.Spec CC 11 [.slice a m c, .slice b n d, .int .i64 kx, .int .i64 nx] F [] fun _ v o => o = [] ∧ v = .bool true := by
  refine Abs.Spec.fn (n := 157) Tryd.func11 rfl rfl fun own => ?_
  refine AW.seq ?_; refine AW.reg ?_; refine ze hT zr zr zr zr zr ?_; refine WT.nil ?_; refine AW.seq ?_; refine AW.reg ?_; (iterate 2 refine ze hT zr zr zr zr zr ?_)
  refine WT.callF0 Tryd.func13 zr zr zr zr zr zr (made_spec _ hl hw0 hm 6 (by decide)) (fun F1 v hF1 hv => ?_)
  obtain ⟨g, ga, gm, gc, wa, wn, wc, w, rfl, hg, hr, hw, hw1, hw2⟩ := hv
  have hL1 := hL.mono hF1
  have hwlen := hw.len
  have hrl := hr.len
  have hgr := hg.rules
  have hgn := hg.nons
  unfold gramCells
  (iterate 3 refine ze hT zr zr zr zr zr ?_)
  refine WT.allocT hT zr zr zr zr zr zr (fun i9 hi9 => ?_)
  refine zs hT 0 0 zr zr zr zr zr zr zr zr zr zr zr zr ?_; refine ze hT zr zr zr zr zr ?_; refine WT.nil ?_; refine AW.seq ?_; refine AW.reg ?_; refine zl hT 0 zr zr zr zr zr zr me zr ?_; refine ze hT zr zr zr zr zr ?_
  refine WT.callF0 Tryd.func44 zr zr zr zr zr zr (esets_spec _ hL1 g hg.valid hr hw (by omega) hw2) (fun F2 v hF2 hv => ?_)
  obtain ⟨sa, sc, L, rfl, hS, hSo⟩ := hv
  have hL2 := hL1.mono hF2
  have hr2 := hr.mono hF2
  have hw22 := hw.mono hF2
  have hSl := hSo.len
  (iterate 5 refine ze hT zr zr zr zr zr ?_); refine WT.nil ?_; (iterate 2 refine AW.seq ?_); refine AW.reg ?_
  refine WT.callV Tryd.func45 zr zr zr zr zr zr (Abs.Spec.fact rfl hL2) (fun v hv => ?_)
  subst hv
  (iterate 10 refine ze hT zr zr zr zr zr ?_); refine za zr zr zr zr zr zr (by omega) ?_; (iterate 2 refine ze hT zr zr zr zr zr ?_); refine WT.nil ?_
  refine AW.cond rfl (fun h => (by simp at h)) (fun _ => ?_)
  refine AW.skip ?_; refine AW.seq ?_; refine AW.reg ?_; (iterate 3 refine ze hT zr zr zr zr zr ?_)
  refine WT.callV Tryd.func30 zr zr zr zr zr zr (below_spec _ kx (wn + 1) (by omega) (by omega)) (fun v hv => ?_)
  subst hv
  have hk := below_lt kx (show 0 < wn + 1 by omega)
  generalize below kx (wn + 1) = k at hk ⊢
  refine ze hT zr zr zr zr zr ?_; refine WT.nil ?_; (iterate 2 refine AW.seq ?_); refine AW.reg ?_; (iterate 2 refine ze hT zr zr zr zr zr ?_)
  refine WT.idxL hT hS zr zr zr zr zr zr zr zr zr (by omega) (fun lk hlk b1 off1 ro1 cs1 lx1 hb1 hp1 hrel1 => ?_)
  obtain ⟨la, ln, lc, rfl, hla⟩ := hrel1
  have hlal := hla.len
  obtain ⟨l0, rfl, hnd, hl0, hmem⟩ := hSo.at_ k lk hlk
  have hsl : (sortedSet l0).length = l0.length := (sort_facts ltItem_swo l0).1.length_eq
  have hsm : ∀ x, x ∈ sortedSet l0 ↔ EI g w k x := fun x => by rw [← hmem]; exact (sort_facts ltItem_swo l0).1.mem_iff
  refine zi (fo := 0) hT (by assumption) (by assumption) zr zr zr zr zr zr ?_; (iterate 2 refine ze hT zr zr zr zr zr ?_); refine WT.nil ?_
  refine AW.cond rfl (fun h => ?_) (fun h => ?_)
  · have h : ln = 0 := by simp at h; omega
    have hno : ∀ x, ¬ EI g w k x := fun x hx => by
      have h1 := (hsm x).2 hx
      have h2 : sortedSet l0 = [] := List.eq_nil_of_length_eq_zero (by omega)
      rw [h2] at h1; cases h1
    refine AW.seq ?_; refine AW.reg ?_; (iterate 3 refine ze hT zr zr zr zr zr ?_)
    refine WT.split 54 rfl (fun _ => ?_) (fun hk0 => ?_)
    · (iterate 5 refine zx zr zr zr zr ?_); (iterate 2 refine ze hT zr zr zr zr zr ?_); refine WT.nil ?_
      exact AW.ret ⟨_, [], ⟨_, _, rfl, rfl, rfl⟩, (by repeat (first | exact List.Sublist.refl _ | refine List.Sublist.cons _ ?_)), rfl, rfl⟩
    · have hk0 : k = 0 := by simp at hk0; omega
      subst hk0
      refine ze hT zr zr zr zr zr ?_; refine zl hT 0 zr zr zr zr zr zr me zr ?_; refine ze hT zr zr zr zr zr ?_
      refine WT.callLend 0 Tryd.func46 zr zr zr zr zr zr zr (fun G hG hBG => ruleAny_spec G (hr2.mono hG) (by omega) (fun r => decide (r.left = g.start)) (first := []) (capt := [.pointer (some ⟨i9, 0, none⟩)]) Tryd.func47 rfl (fun r hrg b n d hb => items1_spec G (hBG _ _ (List.mem_cons_self ..)) r)) (fun v hv => ?_)
      have hany : g.rules.any (fun r => decide (r.left = g.start)) = false := by
        rw [List.any_eq_false]
        intro r hrg he
        obtain ⟨i, hi, rfl⟩ := List.getElem_of_mem hrg
        exact hno _ (.start (List.getElem?_eq_getElem hi) (by simpa using he))
      rw [hany] at hv
      subst hv
      (iterate 3 refine ze hT zr zr zr zr zr ?_); refine WT.nil ?_
      exact AW.ret ⟨_, [], ⟨_, _, rfl, rfl, rfl⟩, (by repeat (first | exact List.Sublist.refl _ | refine List.Sublist.cons _ ?_)), rfl, rfl⟩
  · have h : ln ≠ 0 := by simp at h; omega
    refine AW.skip ?_; refine AW.seq ?_
    refine AW.draw (ps := [(3, 10), (3, 13), (8, 13), (9, 13), (12, 13)]) rfl rfl ?_
    (iterate 2 refine ze hT zr zr zr zr zr ?_)
    refine WT.idxL hT hS zr zr zr zr zr zr zr zr zr (by omega) (fun lk2 hlk2 b2 off2 ro2 cs2 lx2 hb2 hp2 hrel2 => ?_)
    obtain rfl : sortedSet l0 = lk2 := by rw [hlk] at hlk2; exact Option.some.inj hlk2
    obtain ⟨la2, ln2, lc2, rfl, hla2⟩ := hrel2
    have hlal2 := hla2.len
    refine zi (fo := 0) hT (by assumption) (by assumption) zr zr zr zr zr zr ?_; (iterate 3 refine ze hT zr zr zr zr zr ?_)
    refine WT.idxL hT hS zr zr zr zr zr zr zr zr zr (by omega) (fun lk3 hlk3 b3 off3 ro3 cs3 lx3 hb3 hp3 hrel3 => ?_)
    obtain rfl : sortedSet l0 = lk3 := by rw [hlk] at hlk3; exact Option.some.inj hlk3
    obtain ⟨la3, ln3, lc3, rfl, hla3⟩ := hrel3
    have hlal3 := hla3.len
    obtain rfl : ln2 = ln3 := by omega
    obtain rfl : ln = ln2 := by omega
    refine zi (fo := 0) hT (by assumption) (by assumption) zr zr zr zr zr zr ?_; refine ze hT zr zr zr zr zr ?_
    refine WT.callV Tryd.func30 zr zr zr zr zr zr (below_spec _ nx ln (by omega) (by omega)) (fun v hv => ?_)
    subst hv
    have hq := below_lt nx (show 0 < ln by omega)
    generalize below nx ln = q at hq ⊢
    skip
    refine WT.idxL hT hla2 zr zr zr zr zr zr zr zr zr (by omega) (fun x hxq b4 off4 ro4 cs4 lx4 hb4 hp4 hrel4 => ?_)
    subst hrel4
    have hei := (hsm x).1 (List.mem_of_getElem? hxq)
    refine zi (fo := 0) hT (by assumption) (by assumption) zr zr zr zr zr zr ?_
    refine WT.allocT hT zr zr zr zr zr zr (fun i12 hi12 => ?_)
    refine zs hT 0 0 zr zr zr zr zr zr zr zr zr zr zr zr ?_; refine WT.nil ?_
    refine ⟨(by repeat (first | exact trivial | refine recs_pair rfl rfl (by first | exact keep0 | exact keep1 (keeps_frz (by assumption)) | exact kp 0 0 me me | exact kp 1 1 me me | exact kp 2 2 me me | exact kp 3 3 me me | exact kp 4 4 me me | exact kp 5 5 me me | exact kp 6 6 me me | exact kp 0 1 me me | exact kp 1 2 me me | exact kp 2 3 me me | exact kp 3 4 me me | exact kp 4 5 me me | exact kp 5 6 me me | exact kp 6 7 me me) ?_)), ?_⟩
    obtain ⟨r, hrx, hdot, hfrm⟩ := hei.ok
    have hrxl := (List.getElem?_eq_some_iff.1 hrx).1
    have hrl2 := hr2.len
    (iterate 2 refine AW.seq ?_); refine AW.draw (ps := []) zr zr ?_; refine ze hT zr zr zr zr zr ?_; refine zl hT 0 zr zr zr zr zr zr me zr ?_; (iterate 3 refine ze hT zr zr zr zr zr ?_); refine zl hT 0 zr zr zr zr zr zr me zr ?_; refine ze hT zr zr zr zr zr ?_; refine zl hT 1 zr zr zr zr zr zr me zr ?_; (iterate 4 refine ze hT zr zr zr zr zr ?_)
    refine WT.split 77 rfl (fun h => (by simp at h; omega)) (fun _ => ?_)
    skip
    refine WT.split 85 rfl (fun h => (by simp at h; omega)) (fun _ => ?_)
    refine ze hT zr zr zr zr zr ?_; refine zl hT 0 zr zr zr zr zr zr me zr ?_; (iterate 4 refine ze hT zr zr zr zr zr ?_); refine zl hT 0 zr zr zr zr zr zr me zr ?_; refine ze hT zr zr zr zr zr ?_; refine zl hT 1 zr zr zr zr zr zr me zr ?_; refine ze hT zr zr zr zr zr ?_; refine zl hT 0 zr zr zr zr zr zr me zr ?_
    refine WT.split 90 rfl (fun h => (by simp at h; omega)) (fun _ => ?_)
    skip
    refine WT.idxL hT hr2 zr zr zr zr zr zr zr zr zr (by omega) (fun r1 hr1 b5 off5 ro5 cs5 lx5 hb5 hp5 hrel5 => ?_)
    obtain rfl : r = r1 := by rw [hrx] at hr1; exact Option.some.inj hr1
    obtain ⟨ra, rn, rc, rfl, hra⟩ := hrel5
    have hral := hra.len
    refine ze hT zr zr zr zr zr ?_; refine zi hT (by assumption) (by assumption) zr zr zr zr zr zr ?_; (iterate 4 refine ze hT zr zr zr zr zr ?_)
    refine WT.split 103 rfl (fun h => (by simp at h; omega)) (fun _ => ?_)
    refine ze hT zr zr zr zr zr ?_; refine zl hT 0 zr zr zr zr zr zr me zr ?_; (iterate 4 refine ze hT zr zr zr zr zr ?_); refine zl hT 0 zr zr zr zr zr zr me zr ?_; (iterate 3 refine ze hT zr zr zr zr zr ?_); refine WT.nil ?_; refine And.intro trivial ?_
    refine AW.cond rfl (fun h => (by simp at h; omega)) (fun _ => ?_)
    refine AW.skip ?_; refine AW.seq ?_; refine AW.reg ?_; refine zl hT 1 zr zr zr zr zr zr me zr ?_
    refine WT.callN Tryd.func48 zr zr zr zr zr zr (copyOf_spec _ g hr2 (by omega) (fun q hq => by have := (hg.ok q hq).2.1; omega)) (fun F3 v B3 hF3 hv => ?_)
    obtain ⟨ha, hc, rfl, hb3⟩ := hv
    have hr3 := hr2.mono hF3
    have hw3 := hw22.mono hF3
    have hL3 := hL2.mono hF3
    unfold gramCells
    skip
    refine WT.allocT hT zr zr zr zr zr zr (fun i13 hi13 => ?_)
    refine zs hT 0 0 zr zr zr zr zr zr zr zr zr zr zr zr ?_; refine WT.nil ?_; refine AW.seq ?_
    refine AW.draw (ps := [(4, 6)]) rfl rfl ?_
    refine ze hT zr zr zr zr zr ?_; refine zl hT 3 zr zr zr zr zr zr me zr ?_; refine WT.add1 zr zr zr zr zr zr (by omega) ?_; refine ze hT zr zr zr zr zr ?_; refine zl hT 3 zr zr zr zr zr zr me zr ?_; refine ze hT zr zr zr zr zr ?_; refine zs hT 0 0 zr zr zr zr zr zr zr zr zr zr zr zr ?_; refine ze hT zr zr zr zr zr ?_; refine zs hT 0 0 zr zr zr zr zr zr zr zr zr zr zr zr ?_; refine WT.nil ?_
    refine ⟨(by repeat (first | exact trivial | refine recs_pair rfl rfl (by first | exact keep0 | exact keep1 (keeps_frz (by assumption)) | exact kp 0 0 me me | exact kp 1 1 me me | exact kp 2 2 me me | exact kp 3 3 me me | exact kp 4 4 me me | exact kp 5 5 me me | exact kp 6 6 me me | exact kp 0 1 me me | exact kp 1 2 me me | exact kp 2 3 me me | exact kp 3 4 me me | exact kp 4 5 me me | exact kp 5 6 me me | exact kp 6 7 me me) ?_)), ?_⟩
    refine AW.seq ?_
    refine AW.draw (ps := [(1, 14), (1, 16), (3, 14)]) rfl rfl ?_
    refine ze hT zr zr zr zr zr ?_; refine zl hT 0 zr zr zr zr zr zr me zr ?_; refine ze hT zr zr zr zr zr ?_; refine zl hT 3 zr zr zr zr zr zr me zr ?_; refine ze hT zr zr zr zr zr ?_; refine zl hT 3 zr zr zr zr zr zr me zr ?_; refine ze hT zr zr zr zr zr ?_; refine zl hT 2 zr zr zr zr zr zr me zr ?_
    refine WT.idxL hT hr3 zr zr zr zr zr zr zr zr zr (by omega) (fun r1 hr1 b6 off6 ro6 cs6 lx6 hb6 hp6 hrel6 => ?_)
    obtain rfl : r = r1 := by rw [hrx] at hr1; exact Option.some.inj hr1
    obtain ⟨rb, rn2, rd, rfl, hrb⟩ := hrel6
    have hrbl := hrb.len
    refine ze hT zr zr zr zr zr ?_; refine zi hT (by assumption) (by assumption) zr zr zr zr zr zr ?_; refine ze hT zr zr zr zr zr ?_; refine zl hT 2 zr zr zr zr zr zr me zr ?_
    obtain ⟨ya, yc, hys, hya⟩ := hrb.slice (C := CC) (lo := 0) (hi := x.dot) (Nat.zero_le _) (by omega) hT (t := 62) zr zr zr none (some (.int .i64 (x.dot : Nat))) rfl rfl
    refine WT.slice zr zr zr zr zr zr zr zr hys ?_
    rw [List.drop_zero] at hya
    have hrr := (hg.ok r (List.mem_of_getElem? hrx)).2.1
    skip
    refine WT.callN Tryd.func49 zr zr zr zr zr zr (symClone_spec _ hya (by omega)) (fun F4 v B4 hF4 hv => ?_)
    obtain ⟨ca, cc, rfl, hcv⟩ := hv
    refine WT.freezeAll 0 rfl rfl (fun F5 hF5 hB5 => ?_)
    have hca := hcv.arr hF5 hB5
    have hb5 := (hb3.mono hF4).mono hF5
    have hL5 := (hL3.mono hF4).mono hF5
    have hw5 := (hw3.mono hF4).mono hF5
    refine ze hT zr zr zr zr zr ?_
    refine WT.buildT hT zr zr zr zr zr zr zr zr zr zr zr zr zr zr (fun i14 hi14 => ?_)
    refine WT.appendT (ys := [⟨g.nons, r.right.take x.dot⟩]) hT 3 hb5 rfl (fun _ => rfl) zr zr zr zr zr zr zr zr zr zr zr (fun h0 s0 => news_own hT s0 0 zr zr zr zr) (Cells.single (R := tRule) (x := ⟨g.nons, r.right.take x.dot⟩) ⟨_, _, _, rfl, hca⟩) rfl (by decide) (by first | omega | (dsimp only at *; omega)) (fun a3 c3 B6 hB6 => ?_)
    refine ze hT zr zr zr zr zr ?_; refine zs hT 2 0 zr zr zr zr zr zr zr zr zr zr zr zr ?_; refine WT.nil ?_
    refine ⟨(by repeat (first | exact trivial | refine recs_pair rfl rfl (by first | exact keep0 | exact keep1 (keeps_frz (by assumption)) | exact kp 0 0 me me | exact kp 1 1 me me | exact kp 2 2 me me | exact kp 3 3 me me | exact kp 4 4 me me | exact kp 5 5 me me | exact kp 6 6 me me | exact kp 0 1 me me | exact kp 1 2 me me | exact kp 2 3 me me | exact kp 3 4 me me | exact kp 4 5 me me | exact kp 5 6 me me | exact kp 6 7 me me) ?_)), ?_⟩
    refine AW.freezeAll 3 rfl rfl (fun F6 hF6 hB6' => ?_)
    have hr6 := hB6.arr hF6 hB6'
    have hw6 := hw5.mono hF6
    have hL6 := hL5.mono hF6
    refine AW.seq ?_; refine AW.draw (ps := []) zr zr ?_; refine zl hT 2 zr zr zr zr zr zr me zr ?_; (iterate 2 refine ze hT zr zr zr zr zr ?_); refine zl hT 4 zr zr zr zr zr zr me zr ?_; refine ze hT zr zr zr zr zr ?_
    obtain ⟨za, zc, hzs, hza⟩ := hw6.slice (C := CC) (lo := x.frm) (hi := k) (by omega) (by omega) hT (t := 22) zr zr zr (some (.int .i64 (x.frm : Nat))) (some (.int .i64 (k : Nat))) rfl rfl
    refine WT.slice zr zr zr zr zr zr zr zr hzs ?_
    have hzl := hza.len
    have hzk : ((w.take k).drop x.frm).length = k - x.frm := by simp; omega
    skip
    have hder := derives_iff.2 (headGram_der hei hrx (by omega))
    rw [← hzk] at hder
    refine WT.callV Tryd.func16 zr zr zr zr zr zr (accepts_spec _ hL6 (headGram g (r.right.take x.dot)) (headGram_valid hg (List.mem_of_getElem? hrx) _) hr6 hza (by omega) (fun t ht => hw2 t (List.mem_of_mem_take (List.mem_of_mem_drop ht)))) (fun v hv => ?_)
    have hst : (headGram g (r.right.take x.dot)).start = g.nons := rfl
    rw [hst, hder] at hv
    subst hv
    (iterate 5 refine ze hT zr zr zr zr zr ?_); refine WT.nil ?_; refine And.intro trivial ?_; refine AW.seq ?_; refine AW.reg ?_; (iterate 6 refine ze hT zr zr zr zr zr ?_); refine WT.nil ?_
    exact AW.ret ⟨_, [], ⟨_, _, rfl, rfl, rfl⟩, (by repeat (first | exact List.Sublist.refl _ | refine List.Sublist.cons _ ?_)), rfl, rfl⟩
end Go.Proofs.D

