/-
  Walks: what functions of the program do, over the abstract machine.
-/
import Derived.Test.YtfgmockkpaacmaaDoorWk0
set_option linter.unusedVariables false
set_option maxRecDepth 20000
set_option maxHeartbeats 0
open Go Go.Abs Go.Proofs Go.Proofs.D
namespace Go.Proofs.D

theorem own_drop (a b : Nat × Blk) (BS BL BX : List (Nat × Blk)) (own : Own) : OwnLe ((a :: (BS ++ BL)) :: BX :: own) ((a :: (BS ++ (BL ++ (b :: BX)))) :: own) := by
  refine ⟨(a :: (BS ++ (BL ++ BX))) ++ own.flatten, ?_, List.Perm.of_eq (by simp)⟩
  simp only [List.flatten_cons]
  refine List.Sublist.append_right (List.Sublist.cons_cons _ (List.Sublist.append_left (List.Sublist.append_left (List.sublist_cons_self _ _) _) _)) _

/-! ### Start -/
theorem cstart_spec (F : Frz) (g : Gram) (hg : ∀ r ∈ g.rules, r.right.length ≤ 4) (hgl : g.rules.length ≤ 32) {Q : Nat → Item → Prop} (hQ : QInv g Q) (hst : ∀ i r, g.rules[i]? = some r → r.left = g.start → Q 0 ⟨i, 0, 0⟩)
    {a : Option Addr} {m c : Nat} (hr : Arr tRule F a m c g.rules) :
    Abs.Spec CC 60 [.agg ⟨gramCells g a m c⟩] F [] fun F' v o =>
      ∃ B', o = [B'] ∧ ∃ q s, v = .pointer (some ⟨q.ic, 0, none⟩) ∧ B' = cB g q s ∧ COk g Q q F' s ∧ s.k = 0 ∧ (∀ i r, g.rules[i]? = some r → r.left = g.start → (⟨i, 0, 0⟩ : Item) ∈ s.last) ∧ ∀ x ∈ s.last, ItemClosed g.rules (LS s) s.k x := by
  unfold gramCells
  refine Abs.Spec.fn (n := 17) Tryd.func60 rfl rfl fun own => ?_
  refine AW.seq (AW.reg ?_)
  refine WT.boxT zr zr zr zr zr zr (fun i1 hi1 => ?_)
  refine ze hT zr zr zr zr zr ?_; refine WT.nil ?_; refine AW.seq ?_; refine AW.reg ?_; refine zl hT 0 zr zr zr zr zr zr me zr ?_; refine ze hT zr zr zr zr zr ?_
  refine WT.boxT zr zr zr zr zr zr (fun ic hic => ?_)
  refine ze hT zr zr zr zr zr ?_; refine WT.nil ?_; refine AW.seq ?_; refine AW.reg ?_; refine ze hT zr zr zr zr zr ?_
  refine WT.call1F 0 Tryd.func107 zr zr zr zr zr zr zr (fun _ => rfl) (cset_spec F (ic := ic) (n := 0) (BS := []) (BL := []) (Bld.nil_ tRaw F) (Bld.nil_ tRaw F) (by decide) ⟨rfl, rfl, rfl, rfl⟩) (fun F1 v B1 hF1 hv => ?_)
  obtain ⟨sa, sc, la, lc, BS, BL, im, hs, hl, rfl⟩ := hv
  have h0 : COk g Q ⟨ic, a, m, c⟩ F1 ⟨0, [], [], sa, sc, BS, [], la, lc, BL, [], im, [], none, 0, 0, []⟩ :=
    ⟨hr.mono hF1, hs, hl, rfl, rfl, fun j l h => by simp at h, fun y => by simp [Abs.look], Bld.nil_ _ _, List.nodup_nil, fun j l h => by simp at h, fun x h => by simp at h, Nat.zero_le _, fun j l h => by simp at h⟩
  refine WT.nil ?_; refine AW.seq ?_; refine AW.reg ?_; (iterate 2 refine ze hT zr zr zr zr zr ?_); refine zl hT 1 zr zr zr zr zr zr me zr ?_
  refine WT.callV Tryd.func87 zr zr zr zr zr zr (gN_spec _ _) (fun v hv => ?_)
  subst hv
  refine WT.call1F 0 Tryd.func108 zr zr zr zr zr zr zr (fun _ => rfl) (cpredict_spec _ g hg hgl hQ h0 ⟨false, g.start⟩ (fun _ i r hr hl => hst i r hr hl)) (fun F2 v B2 hF2 hv => ?_)
  obtain ⟨s1, rfl, h1, hg1, hin⟩ := hv
  refine WT.nil ?_; refine AW.seq ?_; refine AW.reg ?_; refine ze hT zr zr zr zr zr ?_
  refine WT.call1F 0 Tryd.func109 zr zr zr zr zr zr zr (fun _ => rfl) (ccomplete_spec _ g hg hgl hQ h1) (fun F3 v B3 hF3 hv => ?_)
  obtain ⟨s2, rfl, h2, hg2, hcl⟩ := hv
  refine WT.nil ?_; refine AW.seq ?_; refine AW.reg ?_; (iterate 2 refine ze hT zr zr zr zr zr ?_); refine WT.nil ?_
  refine AW.perm (perm_to1 _ _ _) ?_
  exact AW.ret ⟨_, [_], ⟨_, _, rfl, rfl, rfl⟩, (by repeat (first | exact List.Sublist.refl _ | refine List.Sublist.cons _ ?_)), _, rfl, ⟨ic, a, m, c⟩, s2, rfl, rfl, h2, hg2.k.trans hg1.k, fun i r hr hl => hg2.mem (hin i r hr rfl hl), hcl⟩

/-! ### Put -/
theorem cput_spec (F : Frz) (g : Gram) (hg : ∀ r ∈ g.rules, r.right.length ≤ 4) (hgl : g.rules.length ≤ 32) {Q : Nat → Item → Prop} (hQ : QInv g Q) {q : ChP} {s : CSt} (h : COk g Q q F s) (hk : s.k < 20) (t : Nat)
    (hsc : ∀ x, Q s.k x → nextOf g.rules x = some ⟨true, t⟩ → Q (s.k + 1) (stepItem x)) :
    Abs.Spec CC 68 [.pointer (some ⟨q.ic, 0, none⟩), .int .i64 t] F [cB g q s] fun F' v o =>
      ∃ B', o = [B'] ∧ ∃ s', B' = cB g q s' ∧ COk g Q q F' s' ∧ s'.k = s.k + 1 ∧ s'.old = s.old ++ [s.last] ∧ (∀ x ∈ s.last, nextOf g.rules x = some ⟨true, t⟩ → stepItem x ∈ s'.last) ∧ ∀ x ∈ s'.last, ItemClosed g.rules (LS s') s'.k x := by
  have hfew := h.few hg hgl hQ
  have hxl := h.last.len
  have huk := h.uk
  have husl := h.usl
  have holdl := h.oldl
  refine Abs.Spec.fn (n := 55) Tryd.func68 rfl rfl fun own => ?_
  refine AW.seq (AW.draw (ps := []) rfl rfl ?_)
  (iterate 3 refine ze hT zr zr zr zr zr ?_); refine zl hT 0 zr zr zr zr zr zr me zr ?_; (iterate 3 refine ze hT zr zr zr zr zr ?_); refine zl hT 0 zr zr zr zr zr zr me zr ?_; refine ze hT zr zr zr zr zr ?_; refine zb zr zr zr zr zr zr (by omega) ?_
  refine WT.know (v' := .int .i64 (s.k : Nat)) 18 rfl (by congr 1; omega) ?_
  refine WT.vidx hT h.list.vec zr zr zr zr zr zr zr zr zr (by omega) (fun b1 hb1 => ?_)
  refine WT.wld1 (v := .slice s.xa s.xn s.xc) hT 0 h.list.vec hb1 huk zr zr zr zr zr zr subL zr zr zr (fun l h => h.1) ?_
  refine ze hT zr zr zr zr zr ?_; refine WT.nil ?_; refine And.intro trivial ?_; refine AW.seq ?_; refine AW.reg ?_; refine ze hT zr zr zr zr zr ?_
  refine WT.le (own_drop _ _ _ _ _ _) ?_
  refine WT.freezeAll 1 rfl rfl (fun F1 hF1 hB1 => ?_)
  have hold := h.last.frozen hF1 hB1
  have h' := h.mono hF1
  refine WT.call1F 0 Tryd.func107 zr zr zr zr zr zr zr (fun _ => rfl) (cset_spec F1 (ic := q.ic) h'.sets h'.list (by omega) ⟨rfl, rfl, rfl, rfl⟩) (fun F2 v B2 hF2 hv => ?_)
  obtain ⟨sa, sc, la, lc, BS, BL, im, hs2, hl2, rfl⟩ := hv
  have hold2 := hold.mono hF2
  have hpass : ∀ j l, (s.old ++ [s.last])[j]? = some l → s.old[j]? = some l ∨ (j = s.k ∧ l = s.last) := by
    intro j l hj
    rcases Nat.lt_or_ge j s.old.length with h1 | h1
    · rw [List.getElem?_append_left h1] at hj; exact .inl hj
    · rw [List.getElem?_append_right h1] at hj
      have := (List.getElem?_eq_some_iff.1 hj).1
      simp at this
      have e : j - s.old.length = 0 := by omega
      rw [e] at hj
      exact .inr ⟨by omega, by simpa using hj.symm⟩
  have h0 : COk g Q q F2 ⟨s.k + 1, s.old ++ [s.last], [], sa, sc, BS, s.vs ++ [.map (some s.im)], la, lc, BL, s.us ++ [.slice s.xa s.xn s.xc], im, [], none, 0, 0, []⟩ := by
    refine ⟨h'.rules.mono hF2, hs2, hl2, by simp [husl], by simp [holdl], fun j l hj => ?_, fun y => by simp [Abs.look], Bld.nil_ _ _, List.nodup_nil, fun j l hj x hx => ?_, fun x h => by simp at h, by dsimp only; omega, fun j l hj => ?_⟩
    · rcases hpass j l hj with h1 | ⟨rfl, rfl⟩
      · obtain ⟨a, n, c, h2, h3⟩ := (h'.mono hF2).olds j l h1
        exact ⟨a, n, c, by show (s.us ++ [_])[j]? = _; rw [List.getElem?_append_left (List.getElem?_eq_some_iff.1 h2).1]; exact h2, h3⟩
      · exact ⟨_, _, _, huk, hold2⟩
    · rcases hpass j l hj with h1 | ⟨rfl, rfl⟩
      · exact h.qold j l h1 x hx
      · exact h.qlast x hx
    · rcases hpass j l hj with h1 | ⟨rfl, rfl⟩
      · exact h.olen j l h1
      · omega
  refine WT.nil ?_; (iterate 2 refine AW.seq ?_); refine AW.reg ?_; (iterate 3 refine ze hT zr zr zr zr zr ?_); refine WT.nil ?_
  refine AW.range (S := CSt) (fun _ => []) (fun u => cB g q u :: [] :: own)
    (fun j u G => COk g Q q G u ∧ Grows ⟨s.k + 1, s.old ++ [s.last], [], sa, sc, BS, s.vs ++ [.map (some s.im)], la, lc, BL, s.us ++ [.slice s.xa s.xn s.xc], im, [], none, 0, 0, []⟩ u (fun _ => True) ∧ ∀ y ∈ s.last.take j, nextOf g.rules y = some ⟨true, t⟩ → stepItem y ∈ u.last) s.xn
    ⟨s.k + 1, s.old ++ [s.last], [], sa, sc, BS, s.vs ++ [.map (some s.im)], la, lc, BL, s.us ++ [.slice s.xa s.xn s.xc], im, [], none, 0, 0, []⟩
    zr zr zr zr zr zr zr zr zr (by omega) rfl rfl (fun _ => rfl) (fun _ => rfl) (SubK.of_map rfl) (OwnLe.refl _) ⟨h0, Grows.refl _ _, fun y hy => by simp at hy⟩ ?_ ?_
  · intro j u F4 hF4 hj hP4
    obtain ⟨hu, hgu, hin⟩ := hP4
    have hku : u.k = s.k + 1 := hgu.k
    have hya4 := hold2.mono hF4
    have hfew4 := hu.few hg hgl hQ
    refine AW.seq ?_; refine AW.reg ?_
    refine WT.idxL hT hya4 zr zr zr zr zr zr zr zr zr (by omega) (fun y hyj b7 off7 ro7 cs7 lx7 hb7 hp7 hrel7 => ?_)
    obtain rfl : lx7 = _ := hrel7
    have hQy := h.qlast y (List.mem_of_getElem? hyj)
    have hyok := hQ.ok _ _ hQy
    have next : ∀ w : CSt, Grows u w (fun _ => True) → (nextOf g.rules y = some ⟨true, t⟩ → stepItem y ∈ w.last) → ∀ z ∈ s.last.take (j + 1), nextOf g.rules z = some ⟨true, t⟩ → stepItem z ∈ w.last := by
      intro w hw h1 z hz hn
      rw [List.take_add_one, hyj] at hz
      rcases List.mem_append.1 hz with hz | hz
      · exact hw.mem (hin z hz hn)
      · simp at hz; subst hz; exact h1 hn
    refine zi (fo := 0) hT (by assumption) (by assumption) zr zr zr zr zr zr ?_
    refine WT.allocT hT zr zr zr zr zr zr (fun i9 hi9 => ?_)
    refine zs hT 0 0 zr zr zr zr zr zr zr zr zr zr zr zr ?_; refine WT.nil ?_; refine AW.seq ?_; refine AW.reg ?_; refine ze hT zr zr zr zr zr ?_; refine zl hT 0 zr zr zr zr zr zr me zr ?_
    refine WT.callLend 1 Tryd.func113 zr zr zr zr zr zr zr (fun G hG hBG => cnext_spec G g hg (hBG _ _ (List.mem_cons_self ..)) (hu.rules.mono hG) hyok) (fun v hv => ?_)
    rcases hv with ⟨hno2, _, rfl⟩ | ⟨z, hzn, rfl⟩
    · (iterate 3 refine ze hT zr zr zr zr zr ?_)
      refine WT.allocT hT zr zr zr zr zr zr (fun i10 hi10 => ?_)
      refine zs hT 0 0 zr zr zr zr zr zr zr zr zr zr zr zr ?_; refine ze hT zr zr zr zr zr ?_; refine WT.nil ?_; refine AW.seq ?_
      refine AW.draw (ps := [(2, 4)]) rfl rfl ?_
      (iterate 2 refine ze hT zr zr zr zr zr ?_); (iterate 4 refine zx zr zr zr zr ?_); refine ze hT zr zr zr zr zr ?_; refine WT.nil ?_
      refine ⟨(by repeat (first | exact trivial | refine recs_pair rfl rfl (by first | exact keep0 | exact keep1 (keeps_frz (by assumption)) | exact kp 0 0 me me | exact kp 1 1 me me | exact kp 2 2 me me | exact kp 3 3 me me | exact kp 4 4 me me | exact kp 5 5 me me | exact kp 6 6 me me | exact kp 0 1 me me | exact kp 1 2 me me | exact kp 2 3 me me | exact kp 3 4 me me | exact kp 4 5 me me | exact kp 5 6 me me | exact kp 6 7 me me) ?_)), ?_⟩
      skip
      refine AW.cond rfl (fun h => (by cases h)) (fun _ => ?_)
      refine AW.skip ?_
      exact ⟨u, SubK.of_map rfl, (by repeat (first | exact OwnLe.refl _ | refine OwnLe.skip _ ?_)), hu, hgu, next u (Grows.refl _ _) (fun h => by rw [hno2] at h; cases h)⟩
    · (iterate 3 refine ze hT zr zr zr zr zr ?_)
      refine WT.allocT hT zr zr zr zr zr zr (fun i10 hi10 => ?_)
      refine zs hT 0 0 zr zr zr zr zr zr zr zr zr zr zr zr ?_; refine ze hT zr zr zr zr zr ?_; refine WT.nil ?_; refine AW.seq ?_
      refine AW.draw (ps := [(2, 4)]) rfl rfl ?_
      (iterate 2 refine ze hT zr zr zr zr zr ?_); refine zl hT 0 zr zr zr zr zr zr me zr ?_; refine ze hT zr zr zr zr zr ?_
      refine WT.callV Tryd.func114 zr zr zr zr zr zr (gT_spec _ _) (fun v hv => ?_)
      subst hv
      refine zq hT zr zr zr zr zr zr zr ?_; refine ze hT zr zr zr zr zr ?_; refine WT.nil ?_
      refine ⟨(by repeat (first | exact trivial | refine recs_pair rfl rfl (by first | exact keep0 | exact keep1 (keeps_frz (by assumption)) | exact kp 0 0 me me | exact kp 1 1 me me | exact kp 2 2 me me | exact kp 3 3 me me | exact kp 4 4 me me | exact kp 5 5 me me | exact kp 6 6 me me | exact kp 0 1 me me | exact kp 1 2 me me | exact kp 2 3 me me | exact kp 3 4 me me | exact kp 4 5 me me | exact kp 5 6 me me | exact kp 6 7 me me) ?_)), ?_⟩
      skip
      refine AW.cond rfl (fun hc => ?_) (fun hc => ?_)
      · have hz : z = (⟨true, t⟩ : Sym) := by
          have h1 := sym_eq z ⟨true, t⟩
          rw [show ((z.term == true) && (((z.n : Int) == (t : Int)) && true)) = true from hc] at h1
          exact of_decide_eq_true h1.symm
        have hyd : y.dot ≤ 4 := by
          obtain ⟨ry, hy1, hy2, _⟩ := hyok
          have := hg ry (List.mem_of_getElem? hy1)
          omega
        refine AW.reg ?_; (iterate 2 refine ze hT zr zr zr zr zr ?_); refine zl hT 1 zr zr zr zr zr zr me zr ?_; refine ze hT zr zr zr zr zr ?_; refine zl hT 1 zr zr zr zr zr zr me zr ?_; refine za zr zr zr zr zr zr (by omega) ?_; refine ze hT zr zr zr zr zr ?_; refine zl hT 1 zr zr zr zr zr zr me zr ?_; refine ze hT zr zr zr zr zr ?_
        refine WT.know (v' := .agg ⟨[.int .i64 (y.rule : Nat), .int .i64 ((y.dot + 1 : Nat) : Int), .int .i64 (y.frm : Nat)]⟩) 50 rfl (by simp) ?_
        refine WT.call1F 2 Tryd.func115 zr zr zr zr zr zr zr (fun _ => rfl) (cadd_spec _ g hu (by omega) (stepItem y) (by rw [hku]; exact hsc y hQy (by rw [hzn, hz]))) (fun F5 v B5 hF5 hv => ?_)
        obtain ⟨w, rfl, hw, hgw, hmem⟩ := hv
        refine WT.nil ?_
        have hgw' := hgw.mono (P' := fun _ => True) (fun _ _ => trivial)
        exact ⟨w, SubK.of_map rfl, (by repeat (first | exact OwnLe.refl _ | refine OwnLe.skip _ ?_)), hw, hgu.trans hgw', next w hgw' (fun _ => hmem)⟩
      · have hz : z ≠ (⟨true, t⟩ : Sym) := by
          have h1 := sym_eq z ⟨true, t⟩
          rw [show ((z.term == true) && (((z.n : Int) == (t : Int)) && true)) = false from hc] at h1
          exact of_decide_eq_false h1.symm
        refine AW.skip ?_
        exact ⟨u, SubK.of_map rfl, (by repeat (first | exact OwnLe.refl _ | refine OwnLe.skip _ ?_)), hu, hgu, next u (Grows.refl _ _) (fun h => by rw [hzn] at h; exact absurd (Option.some.inj h) hz)⟩
  · intro u F4 hF4 hP4
    obtain ⟨hu, hgu, hin⟩ := hP4
    rw [List.take_of_length_le (by omega)] at hin
    refine AW.reg ?_; refine ze hT zr zr zr zr zr ?_
    refine WT.call1F 0 Tryd.func109 zr zr zr zr zr zr zr (fun _ => rfl) (ccomplete_spec _ g hg hgl hQ hu) (fun F5 v B5 hF5 hv => ?_)
    obtain ⟨w, rfl, hw, hgw, hcl⟩ := hv
    refine WT.le (own2 := cB g q w :: own) (OwnLe.flat (List.Perm.of_eq (by simp))) ?_
    refine WT.nil ?_
    exact ⟨_, [_], rfl, (by repeat (first | exact List.Sublist.refl _ | refine List.Sublist.cons _ ?_)), _, rfl, w, rfl, hw, hgw.k.trans hgu.k, hgw.old.trans hgu.old, fun x hx hn => hgw.mem (hin x hx hn), hcl⟩
end Go.Proofs.D

set_option linter.unusedVariables false
set_option maxRecDepth 20000
set_option maxHeartbeats 0
open Go Go.Abs Go.Proofs Go.Proofs.D
namespace Go.Proofs.D

theorem vec_repB {F : Frz} {i n : Nat} (z : Bool) : Vec tBool F (some ⟨i, 0, none⟩) n (bif n == 0 then 0 else 1) [(i, .cells false (List.replicate n (.bool z)))] (List.replicate n z) := by
  refine ⟨by simp, ?_, fun h => ?_, fun h => (by cases h), fun p hp => (by cases hp; rfl), .inr ⟨i, _, rfl, rfl, ?_, by decide⟩⟩
  · cases n <;> simp [tBool]
  · cases n with
    | zero => rfl
    | succ n => simp at h
  · induction n with
    | zero => exact .nil
    | succ n ih =>
      rw [List.replicate_succ, List.replicate_succ]
      exact Cells.cons (R := tBool) (l := [.bool z]) rfl ih

structure NB where
  xs : List Bool
  B : List (Nat × Blk)

theorem cnextT_spec (G : Frz) (g : Gram) (hg : ∀ r ∈ g.rules, r.right.length ≤ 4) (hgl : g.rules.length ≤ 32) (hgt : g.terms ≤ 1000) (hsym : ∀ r ∈ g.rules, ∀ y ∈ r.right, SymOk g.terms g.nons y) {Q : Nat → Item → Prop} (hQ : QInv g Q) {q : ChP} {s : CSt} (h : COk g Q q G s) (hB : ∀ i b, (i, b) ∈ cB g q s → G i = some b) :
    Abs.Spec CC 67 [.pointer (some ⟨q.ic, 0, none⟩)] G [] fun F' v o =>
      ∃ B', o = [B'] ∧ ∃ a' c' xs, v = .slice a' g.terms c' ∧ Vec tBool F' a' g.terms c' B' xs ∧ ∀ t, t < g.terms → (xs[t]? = some true ↔ ∃ x ∈ s.last, nextOf g.rules x = some ⟨true, t⟩) := by
  have hfew := h.few hg hgl hQ
  have hxl := h.last.len
  have huk := h.uk
  have hsm := h.small
  have hic : G q.ic = some (.cells false [.int .i64 g.terms, .int .i64 g.nons, .int .i64 g.start, .slice q.ra q.rm q.rc, .slice s.sa (s.k + 1) s.sc, .slice s.la (s.k + 1) s.lc]) := hB _ _ (List.mem_cons_self ..)
  have hla := h.list.frozen (Frz.le.refl G) (fun i b hb => hB i b (subL _ hb))
  have hxa := h.last.frozen (Frz.le.refl G) (fun i b hb => hB i b (subX _ hb))
  refine Abs.Spec.fn (n := 48) Tryd.func67 rfl rfl fun own => ?_
  refine AW.seq ?_; refine AW.reg ?_; refine ze hT zr zr zr zr zr ?_; refine WT.nil ?_; refine AW.seq ?_; refine AW.reg ?_; (iterate 4 refine ze hT zr zr zr zr zr ?_); refine zf hT (by assumption) zr zr zr zr zr zr ?_
  refine WT.makeT (by_ := 1) hT zr zr zr zr zr zr zr zr zr zr zr zr (by omega) (fun io hio => ?_)
  have hv0 := vec_repB (F := G) (i := io) (n := g.terms) false
  refine ze hT zr zr zr zr zr ?_; refine WT.nil ?_; (iterate 2 refine AW.seq ?_); refine AW.draw (ps := []) zr zr ?_; (iterate 3 refine ze hT zr zr zr zr zr ?_); refine zf hT (by assumption) zr zr zr zr zr zr ?_; (iterate 3 refine ze hT zr zr zr zr zr ?_); refine zf hT (by assumption) zr zr zr zr zr zr ?_; refine ze hT zr zr zr zr zr ?_; refine zb zr zr zr zr zr zr (by omega) ?_
  refine WT.know (v' := .int .i64 (s.k : Nat)) 23 rfl (by congr 1; omega) ?_
  refine WT.idxL hT hla zr zr zr zr zr zr zr zr zr (by have := h.usl; simp; omega) (fun v hv b off ro cs lx hb1 hp1 hrel => ?_)
  obtain rfl : v = .slice s.xa s.xn s.xc := by rw [huk] at hv; exact (Option.some.inj hv).symm
  obtain ⟨rfl, _⟩ := hrel
  refine zi (fo := 0) hT (by assumption) (by assumption) zr zr zr zr zr zr ?_; (iterate 2 refine ze hT zr zr zr zr zr ?_); refine WT.nil ?_; refine And.intro trivial ?_
  refine AW.range (S := NB) (fun _ => []) (fun u => u.B :: own)
    (fun j u F => Vec tBool F (some ⟨io, 0, none⟩) g.terms (bif g.terms == 0 then 0 else 1) u.B u.xs ∧ ∀ t, t < g.terms → (u.xs[t]? = some true ↔ ∃ x ∈ s.last.take j, nextOf g.rules x = some ⟨true, t⟩)) s.xn ⟨_, _⟩
    zr zr zr zr zr zr zr zr zr (by omega) rfl rfl (fun _ => rfl) (fun _ => rfl) (SubK.of_map rfl) (OwnLe.refl _) ⟨hv0, fun t ht => ?_⟩ ?_ ?_
  · simp [List.getElem?_replicate]
  · intro j u F1 hF1 hj hP
    obtain ⟨hv, hin⟩ := hP
    have hxa1 := hxa.mono hF1
    have hrules := h.rules.mono hF1
    have hic1 := hF1 _ _ hic
    refine AW.seq ?_; refine AW.reg ?_
    refine WT.idxL hT hxa1 zr zr zr zr zr zr zr zr zr (by omega) (fun y hyj b7 off7 ro7 cs7 lx7 hb7 hp7 hrel7 => ?_)
    obtain rfl : lx7 = _ := hrel7
    have hyok := hQ.ok _ _ (h.qlast y (List.mem_of_getElem? hyj))
    have htk : s.last.take (j + 1) = s.last.take j ++ [y] := by rw [List.take_add_one, hyj]; rfl
    refine zi (fo := 0) hT (by assumption) (by assumption) zr zr zr zr zr zr ?_
    refine WT.allocT hT zr zr zr zr zr zr (fun i5 hi5 => ?_)
    refine zs hT 0 0 zr zr zr zr zr zr zr zr zr zr zr zr ?_; refine WT.nil ?_; refine AW.seq ?_; refine AW.reg ?_; refine ze hT zr zr zr zr zr ?_; refine zl hT 0 zr zr zr zr zr zr me zr ?_
    refine WT.callV Tryd.func113 zr zr zr zr zr zr (cnext_spec F1 g hg hic1 hrules hyok) (fun v hv' => ?_)
    rcases hv' with ⟨hno2, _, rfl⟩ | ⟨z, hzn, rfl⟩
    · (iterate 3 refine ze hT zr zr zr zr zr ?_)
      refine WT.allocT hT zr zr zr zr zr zr (fun i6 hi6 => ?_)
      refine zs hT 0 0 zr zr zr zr zr zr zr zr zr zr zr zr ?_; refine ze hT zr zr zr zr zr ?_; refine WT.nil ?_; refine AW.seq ?_; refine AW.reg ?_; (iterate 2 refine ze hT zr zr zr zr zr ?_); (iterate 2 refine zx zr zr zr zr ?_); refine ze hT zr zr zr zr zr ?_; refine WT.nil ?_
      refine AW.cond rfl (fun h => (by cases h)) (fun _ => ?_)
      refine AW.skip ?_
      refine ⟨u, SubK.of_map rfl, (by repeat (first | exact OwnLe.refl _ | refine OwnLe.skip _ ?_)), hv, fun t ht => ?_⟩
      rw [hin t ht, htk]
      simp [hno2]
    · have hzt : z.term = true → z.n < g.terms := fun hzt => by
        unfold nextOf at hzn
        cases hr : g.rules[y.rule]? with
        | none => rw [hr] at hzn; cases hzn
        | some r =>
          rw [hr] at hzn
          have := hsym r (List.mem_of_getElem? hr) z (List.mem_of_getElem? (show r.right[y.dot]? = some z from hzn))
          rw [SymOk, if_pos hzt] at this
          exact this
      (iterate 3 refine ze hT zr zr zr zr zr ?_)
      refine WT.allocT hT zr zr zr zr zr zr (fun i6 hi6 => ?_)
      refine zs hT 0 0 zr zr zr zr zr zr zr zr zr zr zr zr ?_; refine ze hT zr zr zr zr zr ?_; refine WT.nil ?_; refine AW.seq ?_; refine AW.reg ?_; (iterate 3 refine ze hT zr zr zr zr zr ?_); refine zl hT 0 zr zr zr zr zr zr me zr ?_; refine ze hT zr zr zr zr zr ?_; refine WT.nil ?_
      refine AW.cond rfl (fun hc => ?_) (fun hc => ?_)
      · have hc : z.term = true := hc
        have hzn' : nextOf g.rules y = some ⟨true, z.n⟩ := by rw [hzn]; cases z; simp only at hc; rw [hc]
        have hlt := hzt hc
        have hvl := hv.len
        obtain ⟨w, hw⟩ : ∃ w, u.xs[z.n]? = some w := ⟨_, List.getElem?_eq_getElem (by omega)⟩
        refine AW.reg ?_; (iterate 2 refine ze hT zr zr zr zr zr ?_); refine zl hT 0 zr zr zr zr zr zr me zr ?_
        refine WT.vidx hT hv zr zr zr zr zr zr zr zr zr hlt (fun b5 hb5 => ?_)
        refine WT.vst (y := true) hT 2 hv hb5 hw zr zr zr zr zr zr zr (fun _ => rfl) rfl (fun B6 hB6 => ?_)
        refine WT.nil ?_
        refine ⟨⟨u.xs.set z.n true, B6⟩, SubK.of_map rfl, (by repeat (first | exact OwnLe.refl _ | refine OwnLe.skip _ ?_)), hB6, fun t ht => ?_⟩
        show (u.xs.set z.n true)[t]? = some true ↔ _
        rw [htk]
        by_cases e : t = z.n
        · subst e
          rw [List.getElem?_set_self (by omega)]
          simp only [true_iff]
          exact ⟨y, by simp, hzn'⟩
        · rw [List.getElem?_set_ne (fun h => e h.symm), hin t ht]
          constructor
          · rintro ⟨x, hx, hn⟩; exact ⟨x, List.mem_append_left _ hx, hn⟩
          · rintro ⟨x, hx, hn⟩
            rcases List.mem_append.1 hx with hx | hx
            · exact ⟨x, hx, hn⟩
            · simp at hx; subst hx
              rw [hzn'] at hn
              injection hn with hn; injection hn with _ hn
              exact absurd hn.symm e
      · have hc : z.term = false := hc
        refine AW.skip ?_
        refine ⟨u, SubK.of_map rfl, (by repeat (first | exact OwnLe.refl _ | refine OwnLe.skip _ ?_)), hv, fun t ht => ?_⟩
        rw [hin t ht, htk]
        constructor
        · rintro ⟨x, hx, hn⟩; exact ⟨x, List.mem_append_left _ hx, hn⟩
        · rintro ⟨x, hx, hn⟩
          rcases List.mem_append.1 hx with hx | hx
          · exact ⟨x, hx, hn⟩
          · simp at hx; subst hx
            rw [hzn] at hn
            injection hn with hn
            rw [hn] at hc; cases hc
  · intro u F1 hF1 hP
    obtain ⟨hv, hin⟩ := hP
    rw [List.take_of_length_le (by omega)] at hin
    refine AW.seq ?_; refine AW.reg ?_; (iterate 2 refine ze hT zr zr zr zr zr ?_); refine WT.nil ?_
    exact AW.ret ⟨_, [_], ⟨_, _, rfl, rfl, rfl⟩, (by repeat (first | exact List.Sublist.refl _ | refine List.Sublist.cons _ ?_)), _, rfl, _, _, u.xs, rfl, hv, hin⟩
end Go.Proofs.D

set_option linter.unusedVariables false
set_option maxRecDepth 20000
set_option maxHeartbeats 0
open Go Go.Abs Go.Proofs Go.Proofs.D
namespace Go.Proofs.D

/-! ### feed.New -/
theorem feed11_spec (F : Frz) {ie : Nat} {ro : Bool} {ea : Option Addr} {en ec : Nat} {E : List Bool} (hi : F ie = some (.cells ro [.slice ea en ec])) (hE : Arr tBool F ea en ec E) (y : Sym) (hy : y.term = true ∨ y.n < E.length) :
    Abs.Spec CC 59 [.agg ⟨[.bool y.term, .int .i64 y.n]⟩, .pointer (some ⟨ie, 0, none⟩)] F [] fun _ v o => o = [] ∧ v = .bool (!y.term && !(E.getD y.n false)) := by
  have hEl := hE.len
  refine Abs.Spec.fn (n := 15) Tryd.func59 rfl rfl fun own => ?_
  refine AW.seq (AW.reg ?_)
  refine WT.boxT zr zr zr zr zr zr (fun i2 hi2 => ?_)
  refine ze hT zr zr zr zr zr ?_; refine WT.nil ?_; refine AW.seq ?_; refine AW.reg ?_; refine ze hT zr zr zr zr zr ?_; refine zl hT 0 zr zr zr zr zr zr me zr ?_; (iterate 2 refine ze hT zr zr zr zr zr ?_)
  refine WT.split 7 rfl (fun hty => ?_) (fun hty => ?_)
  · have hty : y.term = false := by simpa using hty
    have hyn : y.n < E.length := by rcases hy with h | h; rw [hty] at h; cases h; exact h
    refine zf hT (by assumption) zr zr zr zr zr zr ?_; refine ze hT zr zr zr zr zr ?_; refine zl hT 0 zr zr zr zr zr zr me zr ?_
    refine WT.idxL hT hE zr zr zr zr zr zr zr zr zr hyn (fun z hz b3 off3 ro3 cs3 lx3 hb3 hp3 hrel3 => ?_)
    obtain rfl : lx3 = _ := hrel3
    refine zi (fo := 0) hT (by assumption) (by assumption) zr zr zr zr zr zr ?_; (iterate 3 refine ze hT zr zr zr zr zr ?_); refine WT.nil ?_
    refine AW.ret ⟨_, [], ⟨_, _, rfl, rfl, rfl⟩, (by repeat (first | exact List.Sublist.refl _ | refine List.Sublist.cons _ ?_)), rfl, ?_⟩
    rw [hty, List.getD_eq_getElem?_getD, hz]; rfl
  · have hty : y.term = true := by simpa using hty
    (iterate 6 refine zx zr zr zr zr ?_); (iterate 2 refine ze hT zr zr zr zr zr ?_); refine WT.nil ?_
    refine AW.ret ⟨_, [], ⟨_, _, rfl, rfl, rfl⟩, (by repeat (first | exact List.Sublist.refl _ | refine List.Sublist.cons _ ?_)), rfl, ?_⟩
    rw [hty]; rfl

theorem feed1_spec (F : Frz) {ie : Nat} {ro : Bool} {ea : Option Addr} {en ec : Nat} {E : List Bool} (hi : F ie = some (.cells ro [.slice ea en ec])) (hE : Arr tBool F ea en ec E) (r : Rule) (hr : ∀ y ∈ r.right, y.term = true ∨ y.n < E.length) {b : Option Addr} {n d : Nat} (hb : Arr tSym F b n d r.right) (hn : n ≤ 1000000) :
    Abs.Spec CC 57 [.agg ⟨[.int .i64 r.left, .slice b n d]⟩, .pointer (some ⟨ie, 0, none⟩)] F [] fun _ v o => o = [] ∧ v = .bool (r.right.any fun y => !y.term && !(E.getD y.n false)) := by
  refine Abs.Spec.fn (n := 8) Tryd.func57 rfl rfl fun own => ?_
  refine AW.seq (AW.reg ?_)
  refine WT.boxT zr zr zr zr zr zr (fun i2 hi2 => ?_)
  refine ze hT zr zr zr zr zr ?_; refine WT.nil ?_; refine AW.seq ?_; refine AW.reg ?_; refine ze hT zr zr zr zr zr ?_; refine zl hT 0 zr zr zr zr zr zr me zr ?_; refine ze hT zr zr zr zr zr ?_
  refine WT.callV Tryd.func58 zr zr zr zr zr zr (symAny_spec _ hb hn (fun y => !y.term && !(E.getD y.n false)) (first := []) (capt := [.pointer (some ⟨ie, 0, none⟩)]) Tryd.func59 rfl (fun y hy => feed11_spec _ hi hE y (hr y hy))) (fun v hv => ?_)
  subst hv
  refine ze hT zr zr zr zr zr ?_; refine WT.nil ?_
  exact AW.ret ⟨_, [], ⟨_, _, rfl, rfl, rfl⟩, (by repeat (first | exact List.Sublist.refl _ | refine List.Sublist.cons _ ?_)), rfl, rfl⟩

def QI (g : Gram) : Nat → Item → Prop := fun k x => ItemOk g.rules k x

theorem nextOf_some {rs : List Rule} {x : Item} {y : Sym} (h : nextOf rs x = some y) : ∃ r, rs[x.rule]? = some r ∧ r.right[x.dot]? = some y := by
  unfold nextOf at h
  cases hr : rs[x.rule]? with
  | none => rw [hr] at h; cases h
  | some r => rw [hr] at h; exact ⟨r, rfl, h⟩

theorem QI_inv (g : Gram) : QInv g (QI g) where
  ok := fun _ _ h => h
  predict := fun k x n i r _ _ hr _ => ⟨r, hr, Nat.zero_le _, Nat.le_refl _⟩
  complete := fun k x y r hx hr hd hy hn => by
    obtain ⟨ry, h1, h2, h3⟩ := hy
    obtain ⟨r', h4, h5⟩ := nextOf_some hn
    rw [h1] at h4
    obtain rfl := Option.some.inj h4
    obtain ⟨_, _, _, h6⟩ := hx
    have := (List.getElem?_eq_some_iff.1 h5).1
    exact ⟨ry, h1, by show y.dot + 1 ≤ _; omega, by show y.frm ≤ k; omega⟩

theorem QI_scan (g : Gram) (k t : Nat) : ∀ x, QI g k x → nextOf g.rules x = some ⟨true, t⟩ → QI g (k + 1) (stepItem x) := fun x hx hn => by
  obtain ⟨rx, h1, h2, h3⟩ := hx
  obtain ⟨r', h4, h5⟩ := nextOf_some hn
  rw [h1] at h4
  obtain rfl := Option.some.inj h4
  have := (List.getElem?_eq_some_iff.1 h5).1
  exact ⟨rx, h1, by show x.dot + 1 ≤ _; omega, by show x.frm ≤ k + 1; omega⟩

structure FSt where
  fi : Nat
  ga : Option Addr
  gm : Nat
  gc : Nat
  q : ChP
  s : CSt
  wa : Option Addr
  wn : Nat
  wc : Nat
  BW : List (Nat × Blk)
  w : List Nat
  E : List Bool

def fCells (g : Gram) (f : FSt) : List Value := [.int .i64 g.terms, .int .i64 g.nons, .int .i64 g.start, .slice f.ga f.gm f.gc, .pointer (some ⟨f.q.ic, 0, none⟩), .slice f.wa f.wn f.wc]
noncomputable def fB (g : Gram) (f : FSt) : List (Nat × Blk) := (f.fi, .cells false (fCells g f)) :: (f.BW ++ cB (trimmed f.E g) f.q f.s)

structure FOk (g : Gram) (F : Frz) (f : FSt) : Prop where
  rules : Arr tRule F f.ga f.gm f.gc g.rules
  ends : EndsIn g f.E
  chart : COk (trimmed f.E g) (QI (trimmed f.E g)) f.q F f.s
  k : f.s.k = f.w.length
  sets : Sets (trimmed f.E g) f.w (LS f.s)
  word : Bld tNat F f.wa f.wn f.wc f.BW f.w
  ok : ∀ t ∈ f.w, t < g.terms

theorem FOk.mono {g : Gram} {F G : Frz} {f : FSt} (h : FOk g F f) (hF : Frz.le F G) : FOk g G f := ⟨h.rules.mono hF, h.ends, h.chart.mono hF, h.k, h.sets, h.word.mono hF, h.ok⟩

theorem trim_right {g : Gram} (hg : Valid g) (E : List Bool) : ∀ r ∈ (trimmed E g).rules, r.right.length ≤ 4 := fun r hr => (hg.right r (List.mem_filter.1 hr).1).2.1
theorem trim_len {g : Gram} (hg : Valid g) (E : List Bool) : (trimmed E g).rules.length ≤ 32 := Nat.le_trans (List.length_filter_le _ _) hg.range.rules
theorem trim_sym {g : Gram} (hg : Valid g) (E : List Bool) : ∀ r ∈ (trimmed E g).rules, ∀ y ∈ r.right, SymOk (trimmed E g).terms (trimmed E g).nons y := fun r hr => (hg.right r (List.mem_filter.1 hr).1).2.2

theorem own_merge {A B : List (Nat × Blk)} {rest own : Own} (h : OwnLe own rest) : OwnLe ((A ++ B) :: own) (A :: B :: rest) :=
  (OwnLe.cons (A ++ B) h).trans (OwnLe.flat (List.Perm.of_eq (by simp)))

theorem feedNew_spec (F : Frz) (g : Gram) (hg : Valid g) {a : Option Addr} {m c : Nat} (hr : Arr tRule F a m c g.rules) :
    Abs.Spec CC 14 [.agg ⟨gramCells g a m c⟩] F [] fun F' v o => ∃ B', o = [B'] ∧ ∃ f, v = .tuple ⟨[.pointer (some ⟨f.fi, 0, none⟩), .int .i64 0]⟩ ∧ B' = fB g f ∧ FOk g F' f ∧ f.w = [] := by
  have hrl := hr.len
  have hgr := hg.range.rules
  have hr4 : ∀ r ∈ g.rules, r.right.length ≤ 1000000 := fun r h => by have := (hg.right r h).2.1; omega
  unfold gramCells
  refine Abs.Spec.fn (n := 28) Tryd.func14 rfl rfl fun own => ?_
  refine AW.seq (AW.reg ?_)
  refine WT.boxT zr zr zr zr zr zr (fun i1 hi1 => ?_)
  (iterate 2 refine ze hT zr zr zr zr zr ?_); refine WT.nil ?_; refine AW.seq ?_; refine AW.reg ?_; refine zl hT 0 zr zr zr zr zr zr me zr ?_
  refine WT.callF0 Tryd.func54 zr zr zr zr zr zr (uends_spec _ g hg hr) (fun F1 v hF1 hv => ?_)
  obtain ⟨ea, ec, E, rfl, hE, hEi⟩ := hv
  have hr1 := hr.mono hF1
  (iterate 3 refine ze hT zr zr zr zr zr ?_)
  refine WT.allocT hT zr zr zr zr zr zr (fun i4 hi4 => ?_)
  refine zs hT 0 0 zr zr zr zr zr zr zr zr zr zr zr zr ?_; refine ze hT zr zr zr zr zr ?_; refine WT.nil ?_; (iterate 2 refine AW.seq ?_); refine AW.reg ?_; (iterate 2 refine ze hT zr zr zr zr zr ?_); refine WT.nil ?_
  refine AW.cond rfl (fun h => (by cases h)) (fun _ => ?_)
  refine AW.skip ?_; refine AW.seq ?_; refine AW.reg ?_; refine zl hT 1 zr zr zr zr zr zr me zr ?_
  refine WT.callN Tryd.func55 zr zr zr zr zr zr (copy_spec _ g hr1 (by omega) hr4) (fun F2 v B2 hF2 hv => ?_)
  obtain ⟨ca, cc, rfl, hc⟩ := hv
  have hr2 := hr1.mono hF2
  have hE2 := hE.mono hF2
  unfold gramCells
  skip
  refine WT.allocT hT zr zr zr zr zr zr (fun i6 hi6 => ?_)
  refine zs hT 0 0 zr zr zr zr zr zr zr zr zr zr zr zr ?_; refine WT.nil ?_; refine AW.seq ?_; refine AW.reg ?_; refine ze hT zr zr zr zr zr ?_; refine zl hT 0 zr zr zr zr zr zr me zr ?_; refine ze hT zr zr zr zr zr ?_
  refine WT.freezeAll 2 rfl rfl (fun F3 hF3 hB3 => ?_)
  have hie := hB3 i4 _ (List.mem_cons_self ..)
  have hr3 := hr2.mono hF3
  have hE3 := hE2.mono hF3
  refine WT.callF (oin := [B2]) Tryd.func56 zr zr zr zr zr zr (deleteFunc_spec F3 (hc.mono hF3) (by omega) (fun r => r.right.any fun y => !y.term && !(E.getD y.n false)) (first := []) (capt := [.pointer (some ⟨i4, 0, none⟩)]) Tryd.func57 rfl (fun G hG r hrg b n d hb => feed1_spec G (hG _ _ hie) (hE3.mono hG) r (fun y hy => ?_) hb (by have := hb.len; have := (hg.right r hrg).2.1; omega))) (List.Perm.swap _ _ _) (fun F4 v oout hF4 hv => ?_)
  · have := (hg.right r hrg).2.2 y hy
    unfold SymOk at this
    cases hty : y.term with
    | true => exact .inl rfl
    | false => rw [if_neg (by simp [hty])] at this; rw [hEi.len]; exact .inr this
  obtain ⟨rfl, xa, xn, xc, rfl, hx⟩ := hv
  have hr4' := hr3.mono hF4
  refine ze hT zr zr zr zr zr ?_; refine zs hT 0 0 zr zr zr zr zr zr zr zr zr zr zr zr ?_; refine WT.nil ?_; refine AW.seq ?_
  refine AW.draw (ps := [(2, 1)]) rfl rfl ?_
  refine zl hT 2 zr zr zr zr zr zr me zr ?_
  refine WT.callN Tryd.func55 zr zr zr zr zr zr (copy_spec _ g hr4' (by omega) hr4) (fun F5 v B5 hF5 hv => ?_)
  obtain ⟨da, dc, rfl, hd⟩ := hv
  refine WT.freezeAll 0 rfl rfl (fun F6 hF6 hB6 => ?_)
  have hd6 := hd.frozen hF6 hB6
  have hx6 := (hx.mono hF5).mono hF6
  unfold gramCells
  refine zl hT 1 zr zr zr zr zr zr me zr ?_
  refine WT.callN Tryd.func60 zr zr zr zr zr zr (cstart_spec F6 (trimmed E g) (trim_right hg E) (trim_len hg E) (QI_inv _) (fun i r hr' _ => ⟨r, hr', Nat.zero_le _, Nat.le_refl _⟩) hx6) (fun F7 v B7 hF7 hv => ?_)
  obtain ⟨q, s, rfl, rfl, hs, hk, hin, hcl⟩ := hv
  refine ze hT zr zr zr zr zr ?_
  refine WT.boxT zr zr zr zr zr zr (fun fi hfi => ?_)
  (iterate 2 refine ze hT zr zr zr zr zr ?_); refine WT.nil ?_
  refine ⟨(by repeat (first | exact trivial | refine recs_pair rfl rfl (by first | exact keep0 | exact keep1 (keeps_frz (by assumption)) | exact kp 0 0 me me | exact kp 1 1 me me | exact kp 2 2 me me | exact kp 3 3 me me | exact kp 4 4 me me | exact kp 5 5 me me | exact kp 6 6 me me | exact kp 0 1 me me | exact kp 1 2 me me | exact kp 2 3 me me | exact kp 3 4 me me | exact kp 4 5 me me | exact kp 5 6 me me | exact kp 6 7 me me) ?_)), ?_⟩
  skip
  refine AW.le (own2 := fB g ⟨fi, da, m, dc, q, s, none, 0, 0, [], [], E⟩ :: own) (own_merge (A := [(fi, .cells false (fCells g ⟨fi, da, m, dc, q, s, none, 0, 0, [], [], E⟩))]) (by repeat (first | exact OwnLe.refl _ | refine OwnLe.skip _ ?_))) ?_
  have hls : LS s 0 = s.last := by unfold LS; rw [if_pos hk.symm]
  refine AW.ret ⟨_, [_], ⟨_, _, rfl, ⟨_, _, rfl, rfl, rfl⟩, rfl⟩, (by repeat (first | exact List.Sublist.refl _ | refine List.Sublist.cons _ ?_)), _, rfl, ⟨fi, da, m, dc, q, s, none, 0, 0, [], [], E⟩, rfl, rfl, ⟨hd6.mono hF7, hEi, hs, hk, ⟨?_, ?_, ?_, ?_⟩, Bld.nil_ _ _, fun t h => by cases h⟩, rfl⟩
  · intro k hk0 x hx
    obtain rfl : k = 0 := Nat.le_zero.1 hk0
    rw [hls] at hx
    have := hs.qlast x hx
    rw [hk] at this; exact this
  · intro i r hr' hl
    rw [hls]; exact hin i r hr' hl
  · intro k hk0 x hx
    obtain rfl : k = 0 := Nat.le_zero.1 hk0
    rw [hls] at hx
    have := hcl x hx
    rw [hk] at this; exact this
  · intro k t h; simp at h
end Go.Proofs.D

set_option linter.unusedVariables false
set_option maxRecDepth 20000
set_option maxHeartbeats 0
open Go Go.Abs Go.Proofs Go.Proofs.D
namespace Go.Proofs.D

/-- What can come next: terminals behind a dot, then whether the word is one of the grammar. -/
structure NextOk (g : Gram) (f : FSt) (xs : List Bool) : Prop where
  len : xs.length = g.terms + 1
  term : ∀ t, t < g.terms → (xs[t]? = some true ↔ ∃ x ∈ f.s.last, nextOf (trimmed f.E g).rules x = some ⟨true, t⟩)
  done : xs[g.terms]? = some (derives g f.w g.start 0 f.w.length)

theorem fsubW {g : Gram} {f : FSt} : ∀ z, z ∈ f.BW → z ∈ fB g f := fun z hz => by unfold fB; simp [hz]
theorem fsubC {g : Gram} {f : FSt} : ∀ z, z ∈ cB (trimmed f.E g) f.q f.s → z ∈ fB g f := fun z hz => by unfold fB; simp [hz]

theorem Vec.boolAny {F G : Frz} {a : Option Addr} {n c : Nat} {B : List (Nat × Blk)} {xs : List Bool} (h : Vec tBool F a n c B xs) : Vec tBool G a n c B xs := by
  have cells : ∀ {cs : List Value} {xs : List Bool}, Cells tBool F cs xs → Cells tBool G cs xs := by
    intro cs xs h
    induction h with
    | nil => exact .nil
    | cons h1 _ ih => exact .cons h1 ih
  exact ⟨h.len, h.cap, h.zero, h.nil, h.spot, h.el.imp id fun ⟨i, cs, h1, h2, h3, h4⟩ => ⟨i, cs, h1, h2, cells h3, h4⟩⟩

theorem feedNext_spec (G : Frz) (hL : Laid G) (g : Gram) (hg : Valid g) {f : FSt} (h : FOk g G f) (hw : f.w.length ≤ 12) (hB : ∀ i b, (i, b) ∈ fB g f → G i = some b) :
    Abs.Spec CC 17 [.pointer (some ⟨f.fi, 0, none⟩)] G [] fun F' v o => ∃ B', o = [B'] ∧ ∃ a' c' xs, v = .slice a' (g.terms + 1) c' ∧ Vec tBool F' a' (g.terms + 1) c' B' xs ∧ NextOk g f xs := by
  have hfi : G f.fi = some (.cells false [.int .i64 g.terms, .int .i64 g.nons, .int .i64 g.start, .slice f.ga f.gm f.gc, .pointer (some ⟨f.q.ic, 0, none⟩), .slice f.wa f.wn f.wc]) := hB _ _ (List.mem_cons_self ..)
  have hgt := hg.range.terms
  have hgn := hg.range.nons
  have hgs := hg.range.start
  have hwa := h.word.frozen (Frz.le.refl G) (fun i b hb => hB i b (fsubW _ hb))
  have hwl := hwa.len
  refine Abs.Spec.fn (n := 36) Tryd.func17 rfl rfl fun own => ?_
  refine AW.seq ?_; refine AW.reg ?_; refine ze hT zr zr zr zr zr ?_; refine WT.nil ?_; refine AW.seq ?_
  refine AW.draw (ps := [(8, 4), (12, 4), (18, 4), (18, 13), (26, 4), (26, 13), (27, 4), (27, 13)]) rfl rfl ?_
  (iterate 3 refine ze hT zr zr zr zr zr ?_); refine zf hT (by assumption) zr zr zr zr zr zr ?_
  refine WT.callN Tryd.func67 zr zr zr zr zr zr (cnextT_spec G (trimmed f.E g) (trim_right hg _) (trim_len hg _) (by show g.terms ≤ 1000; omega) (trim_sym hg _) (QI_inv _) h.chart (fun i b hb => hB i b (fsubC _ hb))) (fun F1 v B1 hF1 hv => ?_)
  obtain ⟨na, nc, xs, rfl, hv, hxs⟩ := hv
  have hfi1 := hF1 _ _ hfi
  have hL1 := hL.mono hF1
  have hwa1 := hwa.mono hF1
  (iterate 3 refine ze hT zr zr zr zr zr ?_); refine zf hT (by assumption) zr zr zr zr zr zr ?_; (iterate 3 refine ze hT zr zr zr zr zr ?_); refine zf hT (by assumption) zr zr zr zr zr zr ?_
  refine WT.callF0 Tryd.func66 zr zr zr zr zr zr (ends_spec F1 hL1 g hg (h.rules.mono hF1) hwa1 (by omega)) (fun F2 v hF2 hv2 => ?_)
  obtain ⟨ea, ec, E, rfl, hE, hE2⟩ := hv2
  have hfi2 := hF2 _ _ hfi1
  have hElen := hE2.ok.size
  (iterate 4 refine ze hT zr zr zr zr zr ?_); refine zf hT (by assumption) zr zr zr zr zr zr ?_
  refine WT.idxL hT hE zr zr zr zr zr zr zr zr zr (by omega) (fun row hrow b1 off ro cs lx hb1 hp1 hrel => ?_)
  obtain ⟨a2, n2, c2, rfl, hrow2⟩ := hrel
  have hrl := hE2.ok.row row (List.mem_of_getElem? hrow)
  refine zi (fo := 0) hT (by assumption) (by assumption) zr zr zr zr zr zr ?_
  refine WT.idxL (j := 0) hT hrow2 zr zr zr zr zr zr zr zr zr (by omega) (fun x hx b3 off3 ro3 cs3 lx3 hb3 hp3 hrel3 => ?_)
  obtain rfl : lx3 = _ := hrel3
  have hxb := hE2.ok.bit row (List.mem_of_getElem? hrow) x (List.mem_of_getElem? hx)
  have pwl : 2 ^ (f.w.length + 1) ≤ 4294967296 := Nat.pow_le_pow_right (j := 32) (by decide) (by omega)
  have e : derives g f.w g.start 0 f.w.length = x.testBit f.wn := by
    rw [Bool.eq_iff_iff, derives_iff, ← hE2.iff _ _ _ (Nat.zero_le _), ← hwl]
    constructor
    · rintro ⟨row', x', h3, h4, h5⟩
      rw [hrow] at h3; cases h3
      rw [hx] at h4; cases h4
      exact h5
    · intro hb; exact ⟨row, x, hrow, hx, hb⟩
  have e2 : (((x / 2 ^ f.wn &&& 1 : Nat) : Int) == 1) = derives g f.w g.start 0 f.w.length := by
    rw [shift_bit, e]; cases x.testBit f.wn <;> rfl
  refine zi (fo := 0) hT (by assumption) (by assumption) zr zr zr zr zr zr ?_; (iterate 3 refine ze hT zr zr zr zr zr ?_); refine zf hT (by assumption) zr zr zr zr zr zr ?_; refine ze hT zr zr zr zr zr ?_
  refine WT.shr32 (x := x) (y := f.wn) zr zr zr zr zr zr (by omega) ?_
  refine WT.and32 (x := x / 2 ^ f.wn) (y := 1) zr zr zr zr zr zr (Nat.lt_of_le_of_lt (Nat.div_le_self _ _) (by omega)) (by decide) ?_
  have hxne : xs ≠ [] := by
    intro e; subst e
    have h1 := hv.len
    have h2 : (trimmed f.E g).terms = g.terms := rfl
    simp at h1; omega
  have hvb := (hv.mono hF2).bld hxne
  have hxl : xs.length = g.terms := hv.len.symm
  refine ze hT zr zr zr zr zr ?_
  refine WT.buildT hT zr zr zr zr zr zr zr zr zr zr zr zr zr zr (fun i9 hi9 => ?_)
  refine WT.appendT (ys := [((x / 2 ^ f.wn &&& 1 : Nat) : Int) == 1]) hT 1 hvb rfl (fun _ => rfl) zr zr zr zr zr zr zr zr zr zr zr (fun h0 s0 => news_own hT s0 0 zr zr zr zr) (Cells.single (R := tBool) (x := (((x / 2 ^ f.wn &&& 1 : Nat) : Int) == 1)) rfl) rfl (by decide) (by show (g.terms + 1) * 1 ≤ _; omega) (fun a3 c3 B3 hB3 => ?_)
  refine ze hT zr zr zr zr zr ?_; refine WT.nil ?_
  refine ⟨(by repeat (first | exact trivial | refine recs_pair rfl rfl (by first | exact keep0 | exact keep1 (keeps_frz (by assumption)) | exact kp 0 0 me me | exact kp 1 1 me me | exact kp 2 2 me me | exact kp 3 3 me me | exact kp 4 4 me me | exact kp 5 5 me me | exact kp 6 6 me me | exact kp 0 1 me me | exact kp 1 2 me me | exact kp 2 3 me me | exact kp 3 4 me me | exact kp 4 5 me me | exact kp 5 6 me me | exact kp 6 7 me me) ?_)), ?_⟩
  skip
  refine AW.ret ⟨_, [_], ⟨_, _, rfl, rfl, rfl⟩, (by repeat (first | exact List.Sublist.refl _ | refine List.Sublist.cons _ ?_)), _, rfl, a3, c3, _, rfl, hB3.vec, ⟨?_, fun t ht => ?_, ?_⟩⟩
  · simp [hxl]
  · rw [List.getElem?_append_left (by omega)]
    exact hxs t ht
  · rw [List.getElem?_append_right (by omega), hxl, Nat.sub_self]
    exact congrArg some e2

theorem own_feed (a : Nat × Blk) (BW C : List (Nat × Blk)) (own : Own) : OwnLe ([a] :: BW :: C :: own) ((a :: (BW ++ C)) :: own) := OwnLe.flat (List.Perm.of_eq (by simp))
theorem own_feed' (a : Nat × Blk) (BW C : List (Nat × Blk)) (own : Own) : OwnLe ((a :: (BW ++ C)) :: own) ([a] :: BW :: C :: own) := OwnLe.flat (List.Perm.of_eq (by simp))

theorem LS_put {s s' : CSt} (hk : s'.k = s.k + 1) (hol : s.old.length = s.k) (ho : s'.old = s.old ++ [s.last]) {j : Nat} (hj : j ≤ s.k) : LS s' j = LS s j := by
  unfold LS
  rw [if_neg (by omega), ho]
  by_cases h : j = s.k
  · rw [if_pos h, List.getD_eq_getElem?_getD, List.getElem?_append_right (by omega), show j - s.old.length = 0 by omega]; rfl
  · rw [if_neg h, List.getD_eq_getElem?_getD, List.getD_eq_getElem?_getD, List.getElem?_append_left (by omega)]

theorem sets_put {g : Gram} {w : List Nat} {t : Nat} {s s' : CSt} (h : Sets g w (LS s)) (hw : s.k = w.length) (hok : ∀ x ∈ s'.last, ItemOk g.rules s'.k x) (hk : s'.k = s.k + 1) (hol : s.old.length = s.k) (ho : s'.old = s.old ++ [s.last])
    (hsc : ∀ x ∈ s.last, nextOf g.rules x = some ⟨true, t⟩ → stepItem x ∈ s'.last) (hcl : ∀ x ∈ s'.last, ItemClosed g.rules (LS s') s'.k x) : Sets g (w ++ [t]) (LS s') := by
  have hL : ∀ j, j ≤ s.k → LS s' j = LS s j := fun j hj => LS_put hk hol ho hj
  have hN : LS s' (s.k + 1) = s'.last := by unfold LS; rw [if_pos hk.symm]
  have hS : LS s s.k = s.last := by unfold LS; rw [if_pos rfl]
  refine ⟨fun k hk1 x hx => ?_, fun i r hr hl => ?_, fun k hk1 x hx => ?_, fun k t' ht x hx hn => ?_⟩
  · simp only [List.length_append, List.length_singleton] at hk1
    rcases Nat.lt_or_ge k (s.k + 1) with h1 | h1
    · rw [hL k (by omega)] at hx; exact h.ok k (by omega) x hx
    · obtain rfl : k = s.k + 1 := by omega
      rw [hN] at hx; rw [← hk]; exact hok x hx
  · rw [hL 0 (Nat.zero_le _)]; exact h.start i r hr hl
  · simp only [List.length_append, List.length_singleton] at hk1
    rcases Nat.lt_or_ge k (s.k + 1) with h1 | h1
    · rw [hL k (by omega)] at hx
      obtain ⟨c1, c2⟩ := h.closed k (by omega) x hx
      obtain ⟨_, _, _, hf⟩ := h.ok k (by omega) x hx
      refine ⟨fun n i r hn hr hl => ?_, fun r hr hd y hy hn => ?_⟩
      · rw [hL k (by omega)]; exact c1 n i r hn hr hl
      · rw [hL x.frm (by omega)] at hy
        rw [hL k (by omega)]; exact c2 r hr hd y hy hn
    · obtain rfl : k = s.k + 1 := by omega
      rw [hN] at hx
      have := hcl x hx
      rw [hk] at this; exact this
  · rcases Nat.lt_or_ge k w.length with h1 | h1
    · rw [List.getElem?_append_left h1] at ht
      rw [hL k (by omega)] at hx
      have h2 := h.scan k t' ht x hx hn
      rw [hL (k + 1) (by omega)]; exact h2
    · rw [List.getElem?_append_right h1] at ht
      have := (List.getElem?_eq_some_iff.1 ht).1
      simp at this
      have e : k = s.k := by omega
      subst e
      rw [hw, Nat.sub_self] at ht
      obtain rfl : t = t' := by simpa using ht
      rw [hL _ (Nat.le_refl _), hS] at hx
      rw [hN]; exact hsc x hx hn

theorem feedPut_spec (F : Frz) (g : Gram) (hg : Valid g) {f : FSt} (h : FOk g F f) (hw : f.w.length < 12) (t : Nat) (ht : t < g.terms) :
    Abs.Spec CC 18 [.pointer (some ⟨f.fi, 0, none⟩), .int .i64 t] F [fB g f] fun F' v o => ∃ B', o = [B'] ∧ ∃ f', B' = fB g f' ∧ FOk g F' f' ∧ f'.fi = f.fi ∧ f'.E = f.E ∧
      (((∃ x ∈ f.s.last, nextOf (trimmed f.E g).rules x = some ⟨true, t⟩) ∧ v = .int .i64 0 ∧ f'.w = f.w ++ [t]) ∨ ((¬ ∃ x ∈ f.s.last, nextOf (trimmed f.E g).rules x = some ⟨true, t⟩) ∧ v = .int .i64 10 ∧ f'.w = f.w)) := by
  have hgt := hg.range.terms
  have hwl := h.word.len
  have hk := h.k
  refine Abs.Spec.fn (n := 47) Tryd.func18 rfl rfl fun own => ?_
  refine AW.le (own_feed _ _ _ _) ?_
  refine AW.seq ?_; refine AW.reg ?_; refine ze hT zr zr zr zr zr ?_; refine WT.nil ?_; (iterate 2 refine AW.seq ?_); refine AW.reg ?_; (iterate 8 refine ze hT zr zr zr zr zr ?_); refine zl hT 0 zr zr zr zr zr zr me zr ?_; (iterate 2 refine ze hT zr zr zr zr zr ?_); refine WT.nil ?_
  refine AW.cond rfl (fun h => (by simp at h; omega)) (fun _ => ?_)
  refine AW.skip ?_; (iterate 2 refine AW.seq ?_); refine AW.reg ?_; (iterate 3 refine ze hT zr zr zr zr zr ?_); refine zl hT 0 zr zr zr zr zr zr me zr ?_; (iterate 2 refine ze hT zr zr zr zr zr ?_); refine WT.nil ?_
  refine AW.cond rfl (fun h => (by simp at h; omega)) (fun _ => ?_)
  refine AW.skip ?_; (iterate 2 refine AW.seq ?_); refine AW.reg ?_; (iterate 3 refine ze hT zr zr zr zr zr ?_); refine zl hT 0 zr zr zr zr zr zr me zr ?_
  refine WT.callLendN (P := fun v B' => ∃ a' c' xs, v = .slice a' g.terms c' ∧ Vec tBool F a' g.terms c' B' xs ∧ ∀ t, t < g.terms → (xs[t]? = some true ↔ ∃ x ∈ f.s.last, nextOf (trimmed f.E g).rules x = some ⟨true, t⟩)) 2 Tryd.func67 zr zr zr zr zr zr zr (fun G hG hBG => Spec.mono (cnextT_spec G (trimmed f.E g) (trim_right hg _) (trim_len hg _) (by show g.terms ≤ 1000; omega) (trim_sym hg _) (QI_inv _) (h.chart.mono hG) hBG) (fun F' v o _ hv => by
    obtain ⟨B', e, a2, c2, xs, e2, hv, hx⟩ := hv
    exact ⟨B', e, a2, c2, xs, e2, Vec.boolAny hv, hx⟩)) (fun v BN hv => ?_)
  obtain ⟨na, nc, xs, rfl, hv, hxs⟩ := hv
  have hxl : xs.length = g.terms := hv.len.symm
  obtain ⟨z, hz⟩ : ∃ z, xs[t]? = some z := ⟨_, List.getElem?_eq_getElem (by omega)⟩
  refine ze hT zr zr zr zr zr ?_
  refine WT.vidx hT hv zr zr zr zr zr zr zr zr zr ht (fun b5 hb5 => ?_)
  refine WT.vld1 hT 0 hv hb5 hz zr zr zr zr zr zr zr zr zr (fun l h => h) ?_
  refine ze hT zr zr zr zr zr ?_; refine WT.nil ?_
  refine AW.cond rfl (fun hc => ?_) (fun hc => ?_)
  · have hc : z = false := by simpa using hc
    have hno : ¬ ∃ x ∈ f.s.last, nextOf (trimmed f.E g).rules x = some ⟨true, t⟩ := by
      rw [← hxs t ht, hz, hc]; simp
    refine AW.seq ?_; refine AW.reg ?_; refine ze hT zr zr zr zr zr ?_; refine WT.nil ?_
    refine AW.le (OwnLe.skip _ (own_feed' _ _ _ _)) ?_
    exact AW.ret ⟨_, [_], ⟨_, _, rfl, rfl, rfl⟩, (by repeat (first | exact List.Sublist.refl _ | refine List.Sublist.cons _ ?_)), _, rfl, f, rfl, h, rfl, rfl, .inr ⟨hno, rfl, rfl⟩⟩
  · have hc : z = true := by simpa using hc
    have hyes : ∃ x ∈ f.s.last, nextOf (trimmed f.E g).rules x = some ⟨true, t⟩ := by
      rw [← hxs t ht, hz, hc]
    refine AW.skip ?_; refine AW.seq ?_; refine AW.reg ?_; (iterate 3 refine ze hT zr zr zr zr zr ?_); refine zl hT 1 zr zr zr zr zr zr me zr ?_; refine ze hT zr zr zr zr zr ?_
    refine WT.call1F 3 Tryd.func68 zr zr zr zr zr zr zr (fun _ => rfl) (cput_spec F (trimmed f.E g) (trim_right hg _) (trim_len hg _) (QI_inv _) h.chart (by omega) t (QI_scan _ _ _)) (fun F1 v B1 hF1 hv1 => ?_)
    obtain ⟨s', rfl, hs', hk', hold, hsc, hcl⟩ := hv1
    refine WT.nil ?_; refine AW.seq ?_; refine AW.reg ?_; (iterate 4 refine ze hT zr zr zr zr zr ?_); refine zl hT 1 zr zr zr zr zr zr me zr ?_; refine ze hT zr zr zr zr zr ?_
    refine WT.buildT hT zr zr zr zr zr zr zr zr zr zr zr zr zr zr (fun i43 hi43 => ?_)
    refine WT.appendT (ys := [t]) hT 3 (h.word.mono hF1) rfl (fun _ => rfl) zr zr zr zr zr zr zr zr zr zr zr (fun h0 s0 => news_own hT s0 0 zr zr zr zr) (Cells.single (R := tNat) (x := t) rfl) rfl (by decide) (by first | omega | (dsimp only at *; omega)) (fun wa' wc' BW' hBW' => ?_)
    (iterate 2 refine ze hT zr zr zr zr zr ?_); refine zs hT 2 0 zr zr zr zr zr zr zr zr zr zr zr zr ?_; refine WT.nil ?_; refine AW.seq ?_; refine AW.reg ?_; refine ze hT zr zr zr zr zr ?_; refine WT.nil ?_
    refine AW.le (OwnLe.skip _ (OwnLe.skip _ (own_feed' _ _ _ _))) ?_
    refine AW.ret ⟨_, [_], ⟨_, _, rfl, rfl, rfl⟩, (by repeat (first | exact List.Sublist.refl _ | refine List.Sublist.cons _ ?_)), _, rfl, { f with s := s', wa := wa', wn := f.wn + 1, wc := wc', BW := BW', w := f.w ++ [t] }, rfl, ⟨h.rules.mono hF1, h.ends, hs', ?_, ?_, hBW', ?_⟩, rfl, rfl, .inl ⟨hyes, rfl, rfl⟩⟩
    · show s'.k = (f.w ++ [t]).length
      rw [hk', hk]; simp
    · exact sets_put h.sets hk (fun x hx => hs'.qlast x hx) hk' h.chart.oldl hold hsc hcl
    · intro t' ht'
      rcases List.mem_append.1 ht' with h1 | h1
      · exact h.ok t' h1
      · simp at h1; subst h1; exact ht
end Go.Proofs.D

set_option linter.unusedVariables false
set_option maxRecDepth 20000
set_option maxHeartbeats 0
open Go Go.Abs Go.Proofs Go.Proofs.D
namespace Go.Proofs.D

theorem feedWords_law (F : Frz) (hL : Laid F) {a b : Option Addr} {m n c d : Nat} {l w0 : List Int} (hl : Arr tInt F a m c l) (hw0 : Arr tInt F b n d w0) (hm : n ≤ 9223372036854775807) :
    Abs.Spec CC 3 [.slice a m c, .slice b n d] F [] fun _ v o => o = [] ∧ v = .bool true := by
  refine Abs.Spec.fn (n := 107) Tryd.func3 rfl rfl fun own => ?_
  refine AW.seq ?_; refine AW.reg ?_; refine ze hT zr zr zr zr zr ?_; refine WT.nil ?_; refine AW.seq ?_; refine AW.reg ?_; (iterate 2 refine ze hT zr zr zr zr zr ?_)
  refine WT.callF0 Tryd.func13 zr zr zr zr zr zr (made_spec _ hl hw0 hm 9 (by decide)) (fun F1 v hF1 hv => ?_)
  obtain ⟨g, ga, gm, gc, wa, wn, wc, w, rfl, hg, hr, hw, hw1, hw2⟩ := hv
  have hL1 := hL.mono hF1
  have hwlen := hw.len
  have hgt := hg.terms
  unfold gramCells
  (iterate 3 refine ze hT zr zr zr zr zr ?_)
  refine WT.allocT hT zr zr zr zr zr zr (fun i5 hi5 => ?_)
  refine zs hT 0 0 zr zr zr zr zr zr zr zr zr zr zr zr ?_; refine ze hT zr zr zr zr zr ?_; refine WT.nil ?_; refine AW.seq ?_; refine AW.reg ?_; refine zl hT 0 zr zr zr zr zr zr me zr ?_
  refine WT.callN Tryd.func14 zr zr zr zr zr zr (feedNew_spec _ g hg.valid hr) (fun F2 v B2 hF2 hv => ?_)
  obtain ⟨f0, rfl, rfl, hf0, hfw0⟩ := hv
  have hL2 := hL1.mono hF2
  have hr2 := hr.mono hF2
  have hw22 := hw.mono hF2
  (iterate 5 refine ze hT zr zr zr zr zr ?_); refine WT.nil ?_; (iterate 2 refine AW.seq ?_); refine AW.reg ?_
  refine WT.callV Tryd.func15 zr zr zr zr zr zr (Abs.Spec.fact rfl hL2) (fun v hv => ?_)
  subst hv
  (iterate 7 refine ze hT zr zr zr zr zr ?_)
  refine WT.ptrEqNil hT zr zr zr zr zr zr zr zr ?_
  refine ze hT zr zr zr zr zr ?_; refine WT.nil ?_
  refine AW.cond rfl (fun h => (by cases h)) (fun _ => ?_)
  refine AW.skip ?_; refine AW.seq ?_; refine AW.reg ?_; refine zl hT 1 zr zr zr zr zr zr me zr ?_; refine ze hT zr zr zr zr zr ?_
  refine WT.callV Tryd.func16 zr zr zr zr zr zr (accepts_spec _ hL2 g hg.valid hr2 hw22 (by omega) hw2) (fun v hv => ?_)
  subst hv
  (iterate 5 refine ze hT zr zr zr zr zr ?_); refine WT.nil ?_; (iterate 2 refine AW.seq ?_); refine AW.reg ?_; (iterate 2 refine ze hT zr zr zr zr zr ?_); refine za zr zr zr zr zr zr (by omega) ?_; refine ze hT zr zr zr zr zr ?_; refine WT.nil ?_
  refine AW.know (v' := .int .i64 ((wn + 1 : Nat) : Int)) 44 rfl (by rw [Int.natCast_add]; rfl) ?_
  refine AW.range (S := FSt) (fun _ => []) (fun f => fB g f :: [(i5, .cells false [.int .i64 g.terms, .int .i64 g.nons, .int .i64 g.start, .slice ga gm gc])] :: own)
    (fun i f G => FOk g G f ∧ f.w = w.take i ∧ f.fi = f0.fi) (wn + 1) f0
    zr zr zr zr zr zr zr zr zr (by omega) rfl rfl (fun _ => rfl) (fun _ => rfl) (SubK.of_map rfl) (OwnLe.refl _) ⟨hf0, by rw [hfw0, List.take_zero], rfl⟩ ?_ ?_
  · intro i f F3 hF3 hi hP
    obtain ⟨hf, hfw, hfi⟩ := hP
    have hL3 := hL2.mono hF3
    have hr3 := hr2.mono hF3
    have hw3 := hw22.mono hF3
    have hfl : f.w.length = i := by rw [hfw, List.length_take]; omega
    refine AW.seq ?_; refine AW.reg ?_; (iterate 2 refine ze hT zr zr zr zr zr ?_); refine WT.nil ?_; refine AW.seq ?_; refine AW.draw (ps := []) zr zr ?_; refine zl hT 1 zr zr zr zr zr zr me zr ?_; (iterate 2 refine ze hT zr zr zr zr zr ?_)
    obtain ⟨a', c', hs, ha'⟩ := hw3.slice (C := CC) (lo := 0) (hi := i) (Nat.zero_le _) (by omega) hT (t := 22) zr zr zr none (some (.int .i64 (i : Nat))) rfl rfl
    refine WT.slice zr zr zr zr zr zr zr zr hs ?_
    rw [List.drop_zero, ← hfw] at ha'
    refine WT.callV Tryd.func16 zr zr zr zr zr zr (accepts_spec _ hL3 g hg.valid hr3 ha' (by omega) hf.ok) (fun v hv => ?_)
    subst hv
    (iterate 5 refine ze hT zr zr zr zr zr ?_); refine WT.nil ?_; refine And.intro trivial ?_; refine AW.seq ?_; refine AW.reg ?_; refine ze hT zr zr zr zr zr ?_
    have nspec : ∀ G, Frz.le F3 G → (∀ i b, (i, b) ∈ fB g f → G i = some b) → Abs.Spec CC 17 [.pointer (some ⟨f0.fi, 0, none⟩)] G [] fun F' v o => ∃ B', o = [B'] ∧ ∃ a' c' xs, v = .slice a' (g.terms + 1) c' ∧ Vec tBool F3 a' (g.terms + 1) c' B' xs ∧ NextOk g f xs := fun G hG hBG => by
      have h1 := feedNext_spec G (hL3.mono hG) g hg.valid (hf.mono hG) (by omega) hBG
      rw [hfi] at h1
      exact Spec.mono h1 (fun F' v o _ hv => by
        obtain ⟨B', e, a2, c2, xs, e2, hv, hx⟩ := hv
        exact ⟨B', e, a2, c2, xs, e2, Vec.boolAny hv, hx⟩)
    refine WT.callLendN (P := fun v B' => ∃ a' c' xs, v = .slice a' (g.terms + 1) c' ∧ Vec tBool F3 a' (g.terms + 1) c' B' xs ∧ NextOk g f xs) 0 Tryd.func17 zr zr zr zr zr zr zr nspec (fun v BN hv => ?_)
    obtain ⟨na, nc, xs, rfl, hv, hxs⟩ := hv
    refine WT.freezeAll 0 rfl rfl (fun F4 hF4 hB4 => ?_)
    have hna := hv.arr hF4 hB4
    have hf4 := hf.mono hF4
    have hw4 := hw3.mono hF4
    have hxl := hxs.len
    refine ze hT zr zr zr zr zr ?_; refine WT.nil ?_; (iterate 2 refine AW.seq ?_); refine AW.reg ?_; (iterate 6 refine ze hT zr zr zr zr zr ?_); refine zl hT 2 zr zr zr zr zr zr me zr ?_; refine za zr zr zr zr zr zr (by omega) ?_; (iterate 3 refine ze hT zr zr zr zr zr ?_)
    refine WT.split 68 rfl (fun h => (by simp at h)) (fun _ => ?_)
    (iterate 2 refine ze hT zr zr zr zr zr ?_); refine zl hT 2 zr zr zr zr zr zr me zr ?_
    refine WT.idxL hT hna zr zr zr zr zr zr zr zr zr (by omega) (fun z hz b3 off3 ro3 cs3 lx3 hb3 hp3 hrel3 => ?_)
    obtain rfl : lx3 = _ := hrel3
    obtain rfl : z = derives g f.w g.start 0 f.w.length := by rw [hxs.done] at hz; exact (Option.some.inj hz).symm
    refine zi (fo := 0) hT (by assumption) (by assumption) zr zr zr zr zr zr ?_; refine ze hT zr zr zr zr zr ?_; refine zv hT zr zr zr zr zr zr zr zr ?_; refine ze hT zr zr zr zr zr ?_; refine WT.nil ?_
    refine AW.cond rfl (fun h => (by simp at h)) (fun _ => ?_)
    refine AW.skip ?_; refine AW.seq ?_; refine AW.reg ?_; (iterate 4 refine ze hT zr zr zr zr zr ?_); refine WT.nil ?_
    refine AW.cond rfl (fun h => ?_) (fun h => ?_)
    · have h : i < wn := by simpa using h
      refine AW.seq ?_; refine AW.reg ?_; (iterate 3 refine ze hT zr zr zr zr zr ?_)
      refine WT.idxL hT hw4 zr zr zr zr zr zr zr zr zr (by omega) (fun y hy b5 off5 ro5 cs5 lx5 hb5 hp5 hrel5 => ?_)
      obtain rfl : lx5 = _ := hrel5
      have hyt := hw2 y (List.mem_of_getElem? hy)
      refine zi (fo := 0) hT (by assumption) (by assumption) zr zr zr zr zr zr ?_
      refine WT.idxL hT hna zr zr zr zr zr zr zr zr zr (by omega) (fun z hz b6 off6 ro6 cs6 lx6 hb6 hp6 hrel6 => ?_)
      obtain rfl : lx6 = _ := hrel6
      have hiff := hxs.term y hyt
      rw [hz] at hiff
      refine zi (fo := 0) hT (by assumption) (by assumption) zr zr zr zr zr zr ?_; refine ze hT zr zr zr zr zr ?_; refine WT.nil ?_; refine AW.seq ?_; refine AW.reg ?_; (iterate 3 refine ze hT zr zr zr zr zr ?_)
      refine WT.idxL hT hw4 zr zr zr zr zr zr zr zr zr (by omega) (fun y' hy' b7 off7 ro7 cs7 lx7 hb7 hp7 hrel7 => ?_)
      obtain rfl : y = y' := by rw [hy] at hy'; exact Option.some.inj hy'
      obtain rfl : lx7 = _ := hrel7
      refine zi (fo := 0) hT (by assumption) (by assumption) zr zr zr zr zr zr ?_
      have pspec := feedPut_spec F4 g hg.valid hf4 (by omega) y hyt
      rw [hfi] at pspec
      refine WT.call1F 1 Tryd.func18 zr zr zr zr zr zr zr (fun _ => rfl) pspec (fun F5 v B5 hF5 hv5 => ?_)
      obtain ⟨f', rfl, hf', hfi', hfE, hv5⟩ := hv5
      rcases hv5 with ⟨hyes, rfl, hfw'⟩ | ⟨hno, rfl, hfw'⟩
      · obtain rfl : z = true := by simpa using hiff.2 hyes
        (iterate 2 refine ze hT zr zr zr zr zr ?_); refine zv hT zr zr zr zr zr zr zr zr ?_; (iterate 3 refine ze hT zr zr zr zr zr ?_)
        refine WT.split 99 rfl (fun _ => ?_) (fun _ => ?_)
        · (iterate 4 refine ze hT zr zr zr zr zr ?_); refine WT.nil ?_
          refine AW.cond rfl (fun h => (by cases h)) (fun _ => ?_)
          refine AW.seq ?_; refine AW.reg ?_; (iterate 2 refine ze hT zr zr zr zr zr ?_); refine WT.nil ?_
          refine AW.cond rfl (fun h => (by cases h)) (fun _ => ?_)
          refine AW.skip ?_
          exact ⟨f', SubK.of_map rfl, (by repeat (first | exact OwnLe.refl _ | refine OwnLe.skip _ ?_)), hf', by rw [hfw', hfw, List.take_add_one, hy]; rfl, hfi'⟩
        · (iterate 2 refine zx zr zr zr zr ?_); (iterate 2 refine ze hT zr zr zr zr zr ?_); refine WT.nil ?_
          refine AW.cond rfl (fun h => (by cases h)) (fun _ => ?_)
          refine AW.seq ?_; refine AW.reg ?_; (iterate 2 refine ze hT zr zr zr zr zr ?_); refine WT.nil ?_
          refine AW.cond rfl (fun h => (by cases h)) (fun _ => ?_)
          refine AW.skip ?_
          exact ⟨f', SubK.of_map rfl, (by repeat (first | exact OwnLe.refl _ | refine OwnLe.skip _ ?_)), hf', by rw [hfw', hfw, List.take_add_one, hy]; rfl, hfi'⟩
      · obtain rfl : z = false := by
          cases z with
          | false => rfl
          | true => exact absurd (hiff.1 rfl) hno
        (iterate 2 refine ze hT zr zr zr zr zr ?_); refine zv hT zr zr zr zr zr zr zr zr ?_; (iterate 3 refine ze hT zr zr zr zr zr ?_)
        refine WT.split 99 rfl (fun hwh => ?_) (fun _ => ?_)
        · exfalso
          have hd := (der_trimmed hf.ends.closed (derives_iff.1 hwh)).1
          have ht : w[f.w.length]? = some y := by rw [hfl]; exact hy
          have hv' : w.take f.w.length = f.w := by rw [hfl, hfw]
          obtain ⟨x, hx, hn⟩ := earley_viable hf.sets hv' ht hd
          refine hno ⟨x, ?_, hn⟩
          unfold LS at hx
          rw [if_pos hf.k.symm] at hx
          exact hx
        · (iterate 2 refine zx zr zr zr zr ?_); (iterate 2 refine ze hT zr zr zr zr zr ?_); refine WT.nil ?_
          refine AW.cond rfl (fun h => (by cases h)) (fun _ => ?_)
          refine AW.seq ?_; refine AW.reg ?_; (iterate 2 refine ze hT zr zr zr zr zr ?_); refine WT.nil ?_
          refine AW.cond rfl (fun _ => ?_) (fun h => (by cases h))
          refine AW.seq ?_; refine AW.reg ?_; refine ze hT zr zr zr zr zr ?_; refine WT.nil ?_
          exact AW.ret ⟨_, [], ⟨_, _, rfl, rfl, rfl⟩, (by repeat (first | exact List.Sublist.refl _ | refine List.Sublist.cons _ ?_)), rfl, rfl⟩
    · have h : i = wn := by simp at h; omega
      refine AW.skip ?_
      exact ⟨f, SubK.of_map rfl, (by repeat (first | exact OwnLe.refl _ | refine OwnLe.skip _ ?_)), hf4, by rw [hfw, List.take_of_length_le (by omega), List.take_of_length_le (by omega)], hfi⟩
  · intro f F3 hF3 hP
    refine AW.seq ?_; refine AW.reg ?_; refine ze hT zr zr zr zr zr ?_; refine WT.nil ?_
    exact AW.ret ⟨_, [], ⟨_, _, rfl, rfl, rfl⟩, (by repeat (first | exact List.Sublist.refl _ | refine List.Sublist.cons _ ?_)), rfl, rfl⟩
end Go.Proofs.D

