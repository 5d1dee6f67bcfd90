/-
  Walks: what functions of the program do, over the abstract machine.
-/
import Derived.Test.YtbfmpklhcbfnaaaGreatDoorWk1
set_option linter.unusedVariables false
set_option maxRecDepth 20000
set_option maxHeartbeats 0
open Go Go.Abs Go.Proofs Go.Proofs.D
namespace Go.Proofs.D

/-! ### numbers compared -/
def cmpNats : List Nat → List Nat → Int
  | [], [] => 0
  | [], _ :: _ => -1
  | _ :: _, [] => 1
  | a :: l, b :: m => if cmpInt a b = 0 then cmpNats l m else cmpInt a b

theorem cmpNats_take : ∀ (j : Nat) (l m : List Nat), j ≤ l.length → j ≤ m.length → (∀ i (h1 : i < l.length) (h2 : i < m.length), i < j → cmpInt l[i] m[i] = 0) → cmpNats l m = cmpNats (l.drop j) (m.drop j)
  | 0, l, m, _, _, _ => by simp
  | j + 1, [], m, h, _, _ => by simp at h
  | j + 1, _ :: _, [], _, h, _ => by simp at h
  | j + 1, a :: l, b :: m, h1, h2, h => by
    have h0 := h 0 (by simp) (by simp) (by omega)
    simp only [List.getElem_cons_zero] at h0
    simp only [cmpNats, h0, if_true, List.drop_succ_cons]
    exact cmpNats_take j l m (by simpa using h1) (by simpa using h2) (fun i h3 h4 h5 => h (i + 1) (by simpa using h3) (by simpa using h4) (by omega))

theorem numCompare_spec (F : Frz) {a b : Option Addr} {m n c d : Nat} {xs ys : List Nat} (hx : Arr tNat F a m c xs) (hy : Arr tNat F b n d ys) (hm : m ≤ 1000000) (hn : n ≤ 1000000) :
    Abs.Spec CC 33 [.slice a m c, .slice b n d] F [] fun _ v o => o = [] ∧ v = .int .i64 (cmpNats xs ys) := by
  refine Abs.Spec.fn (n := 36) Tryz.func33 rfl rfl fun own => ?_
  have hxlen := hx.len
  have hylen := hy.len
  refine AW.seq ?_; refine AW.reg ?_; refine ze hT zr zr zr zr zr ?_; refine WT.nil ?_; (iterate 2 refine AW.seq ?_); refine AW.reg ?_; (iterate 3 refine ze hT zr zr zr zr zr ?_); refine WT.nil ?_
  refine AW.range (S := Unit) (fun _ => []) (fun _ => _) (fun j _ _ => j ≤ n ∧ ∀ i (h1 : i < xs.length) (h2 : i < ys.length), i < j → cmpInt xs[i] ys[i] = 0) m () zr zr zr zr zr zr zr zr zr (by omega) rfl rfl (fun _ => rfl) (fun _ => rfl) (SubK.of_map rfl) (OwnLe.refl _) ⟨by omega, by omega⟩ ?_ ?_
  · intro j _ F1 hF1 hj hP
    obtain ⟨hjn, hP⟩ := hP
    have hx1 := hx.mono hF1
    have hy1 := hy.mono hF1
    refine AW.seq ?_; refine AW.reg ?_; refine ze hT zr zr zr zr zr ?_
    refine WT.idxL hT hx1 zr zr zr zr zr zr zr zr zr (by omega) (fun x hxj b1 off ro cs lx hb hp hrel => ?_)
    obtain rfl : lx = _ := hrel
    refine zi (fo := 0) hT (by assumption) (by assumption) zr zr zr zr zr zr ?_; (iterate 2 refine ze hT zr zr zr zr zr ?_); refine WT.nil ?_; (iterate 2 refine AW.seq ?_); refine AW.reg ?_; (iterate 4 refine ze hT zr zr zr zr zr ?_); refine WT.nil ?_
    refine AW.cond rfl (fun hc => ?_) (fun hc => ?_)
    · have hc : n ≤ j := by simp at hc; omega
      refine AW.seq ?_; refine AW.reg ?_; refine ze hT zr zr zr zr zr ?_; refine WT.nil ?_
      refine AW.ret ⟨_, [], ⟨_, _, rfl, rfl, rfl⟩, (by repeat (first | exact List.Sublist.refl _ | refine List.Sublist.cons _ ?_)), rfl, ?_⟩
      rw [cmpNats_take j xs ys (by omega) (by omega) hP, List.drop_of_length_le (show ys.length ≤ j by omega), List.drop_eq_getElem_cons (show j < xs.length by omega)]
      rfl
    · have hc : j < n := by simp at hc; omega
      refine AW.skip ?_; refine AW.seq ?_; refine AW.reg ?_; (iterate 2 refine ze hT zr zr zr zr zr ?_)
      refine WT.idxL hT hy1 zr zr zr zr zr zr zr zr zr (by omega) (fun y hyj b2 off2 ro2 cs2 ly hb2 hp2 hrel2 => ?_)
      obtain rfl : ly = _ := hrel2
      refine zi (fo := 0) hT (by assumption) (by assumption) zr zr zr zr zr zr ?_; refine ze hT zr zr zr zr zr ?_; refine WT.nil ?_; refine AW.seq ?_; refine AW.reg ?_; (iterate 2 refine ze hT zr zr zr zr zr ?_)
      refine WT.callV Tryz.func77 zr zr zr zr zr zr (compare_spec _ x y) (fun v hv => ?_)
      subst hv
      have ex : xs[j]'(by omega) = x := by rw [List.getElem?_eq_getElem (by omega)] at hxj; simpa using hxj
      have ey : ys[j]'(by omega) = y := by rw [List.getElem?_eq_getElem (by omega)] at hyj; simpa using hyj
      refine ze hT zr zr zr zr zr ?_; refine WT.nil ?_; refine AW.seq ?_; refine AW.reg ?_; (iterate 2 refine ze hT zr zr zr zr zr ?_); refine WT.nil ?_
      refine AW.cond rfl (fun hc2 => ?_) (fun hc2 => ?_)
      · have hc2 : cmpInt x y ≠ 0 := by simpa using hc2
        refine AW.seq ?_; refine AW.reg ?_; (iterate 2 refine ze hT zr zr zr zr zr ?_); refine WT.nil ?_
        refine AW.ret ⟨_, [], ⟨_, _, rfl, rfl, rfl⟩, (by repeat (first | exact List.Sublist.refl _ | refine List.Sublist.cons _ ?_)), rfl, ?_⟩
        rw [cmpNats_take j xs ys (by omega) (by omega) hP, List.drop_eq_getElem_cons (show j < xs.length by omega), List.drop_eq_getElem_cons (show j < ys.length by omega)]
        simp [cmpNats, ex, ey, hc2, tupleA]
      · have hc2 : cmpInt x y = 0 := by simpa using hc2
        refine AW.skip ?_
        refine ⟨(), SubK.of_map rfl, (by repeat (first | exact OwnLe.refl _ | refine OwnLe.skip _ ?_)), by omega, fun i h1 h2 h3 => ?_⟩
        rcases Nat.lt_or_ge i j with h4 | h4
        · exact hP i h1 h2 h4
        · have : i = j := by omega
          subst this
          rw [ex, ey]; exact hc2
  · intro _ F1 hF1 hP
    obtain ⟨hjn, hP⟩ := hP
    (iterate 2 refine AW.seq ?_); refine AW.reg ?_; (iterate 5 refine ze hT zr zr zr zr zr ?_); refine WT.nil ?_
    have e := cmpNats_take m xs ys (by omega) (by omega) hP
    rw [List.drop_of_length_le (show xs.length ≤ m by omega)] at e
    refine AW.cond rfl (fun hc => ?_) (fun hc => ?_)
    · have hc : m < n := by simp at hc; omega
      refine AW.seq ?_; refine AW.reg ?_; refine ze hT zr zr zr zr zr ?_; refine WT.nil ?_
      refine AW.ret ⟨_, [], ⟨_, _, rfl, rfl, rfl⟩, (by repeat (first | exact List.Sublist.refl _ | refine List.Sublist.cons _ ?_)), rfl, ?_⟩
      rw [e, List.drop_eq_getElem_cons (show m < ys.length by omega)]; rfl
    · have hc : m = n := by simp at hc; omega
      refine AW.skip ?_; refine AW.seq ?_; refine AW.reg ?_; refine ze hT zr zr zr zr zr ?_; refine WT.nil ?_
      refine AW.ret ⟨_, [], ⟨_, _, rfl, rfl, rfl⟩, (by repeat (first | exact List.Sublist.refl _ | refine List.Sublist.cons _ ?_)), rfl, ?_⟩
      rw [e, List.drop_of_length_le (show ys.length ≤ m by omega)]; rfl

/-! ### packs with numbers -/
structure NPack where
  rule : Nat
  kids : List Nat
deriving DecidableEq

def tNPack : Ty NPack where
  size := 2
  rel := fun F l x => ∃ a n c, l = [.int .i64 x.rule, .slice a n c] ∧ Arr tNat F a n c x.kids ∧ x.kids.length ≤ 1000000
  len := fun _ _ _ h => by obtain ⟨a, n, c, rfl, _⟩ := h; rfl
  one := fun _ _ _ h => by obtain ⟨a, n, c, rfl, _⟩ := h; rfl
  mono := fun _ _ _ _ hF h => by obtain ⟨a, n, c, e, h, hb⟩ := h; exact ⟨a, n, c, e, h.mono hF, hb⟩

def cmpNPack (x y : NPack) : Int := orInt [cmpInt x.rule y.rule, cmpNats x.kids y.kids]

theorem npackCmp_spec (F : Frz) {lx ly : List Value} (x y : NPack) (hx : tNPack.rel F lx x) (hy : tNPack.rel F ly y) : Abs.Spec CC 128 [.agg ⟨lx⟩, .agg ⟨ly⟩] F [] fun _ v o => o = [] ∧ v = .int .i64 (cmpNPack x y) := by
  obtain ⟨xa, xn, xc, rfl, hxa, hxb⟩ := hx
  obtain ⟨ya, yn, yc, rfl, hya, hyb⟩ := hy
  have hxl := hxa.len
  have hyl := hya.len
  refine Abs.Spec.fn (n := 17) Tryz.func128 rfl rfl fun own => ?_
  refine AW.seq (AW.reg ?_)
  refine WT.boxT zr zr zr zr zr zr (fun i2 hi2 => ?_)
  refine WT.boxT zr zr zr zr zr zr (fun i3 hi3 => ?_)
  refine ze hT zr zr zr zr zr ?_; refine WT.nil ?_; refine AW.seq ?_
  refine AW.draw (ps := [(6, 4), (8, 4)]) rfl rfl ?_
  refine ze hT zr zr zr zr zr ?_; refine zl hT 1 zr zr zr zr zr zr me zr ?_; refine ze hT zr zr zr zr zr ?_; refine zl hT 0 zr zr zr zr zr zr me zr ?_
  refine WT.callV Tryz.func77 zr zr zr zr zr zr (compare_spec _ _ _) (fun v hv => ?_)
  subst hv
  refine ze hT zr zr zr zr zr ?_; refine zl hT 1 zr zr zr zr zr zr me zr ?_; refine ze hT zr zr zr zr zr ?_; refine zl hT 0 zr zr zr zr zr zr me zr ?_
  refine WT.callV Tryz.func33 zr zr zr zr zr zr (numCompare_spec _ hxa hya (by omega) (by omega)) (fun v hv => ?_)
  subst hv
  skip
  refine WT.buildT hT zr zr zr zr zr zr zr zr zr zr zr zr zr zr (fun i9 hi9 => ?_)
  refine WT.callLend 0 Tryz.func129 zr zr zr zr zr zr zr (fun G hG hBG => or_spec G (l := [cmpInt x.rule y.rule, cmpNats x.kids y.kids]) (Bld.frozen (F := F) (B := [(i9, .cells false [.int .i64 (cmpInt x.rule y.rule), .int .i64 (cmpNats x.kids y.kids)])]) ⟨rfl, .inr ⟨i9, _, rfl, rfl, rfl, Cells.cons (l := [_]) rfl (Cells.single (x := cmpNats x.kids y.kids) rfl), by decide⟩⟩ hG hBG) (by decide)) (fun v hv => ?_)
  subst hv
  refine ze hT zr zr zr zr zr ?_; refine WT.nil ?_
  refine ⟨(by repeat (first | exact trivial | refine recs_pair rfl rfl (by first | exact keep0 | exact keep1 (keeps_frz (by assumption)) | exact kp 0 0 me me | exact kp 1 1 me me | exact kp 2 2 me me | exact kp 3 3 me me | exact kp 4 4 me me | exact kp 5 5 me me | exact kp 6 6 me me | exact kp 0 1 me me | exact kp 1 2 me me | exact kp 2 3 me me | exact kp 3 4 me me | exact kp 4 5 me me | exact kp 5 6 me me | exact kp 6 7 me me) ?_)), ?_⟩
  skip
  exact AW.ret ⟨_, [], ⟨_, _, rfl, rfl, rfl⟩, (by repeat (first | exact List.Sublist.refl _ | refine List.Sublist.cons _ ?_)), rfl, rfl⟩

/-- No later pack is before an earlier one. -/
def PSorted (xs : List NPack) : Prop := ∀ (i j : Nat) (x y : NPack), i < j → xs[i]? = some x → xs[j]? = some y → ¬ cmpNPack y x < 0

theorem insP_spec (F : Frz) {a0 : Option Addr} {m c : Nat} {xs : List NPack} (hv : Arr tNPack F a0 m c xs) (hs : PSorted xs) (a b : Nat) (ha : a ≤ 1000000) (hb : b ≤ m) (hm : m ≤ 1000000) :
    Abs.Spec CC 192 [.slice a0 m c, .int .i64 a, .int .i64 b, .func (.func 128) ⟨[]⟩ ⟨[]⟩] F [] fun F' v o => o = [] ∧ v = .tuple ⟨[]⟩ := by
  have hvl := hv.len
  refine Abs.Spec.fn (n := 53) Tryz.func192 rfl rfl fun own => ?_
  refine AW.seq ?_; refine AW.reg ?_; refine ze hT zr zr zr zr zr ?_; refine WT.add1 zr zr zr zr zr zr (by omega) ?_; refine ze hT zr zr zr zr zr ?_; refine WT.nil ?_
  refine AW.block ?_
  refine AW.loopR (S := Nat) (fun s => [(8, .int .i64 (s : Nat))]) (fun s => own) (fun s G => a + 1 ≤ s) (fun s => b - s) (a + 1)
    (SubK.of_map rfl) (OwnLe.refl _) (Nat.le_refl _) ?_
  intro s F1 hF1 hP
  have hv1 := hv.mono hF1
  (iterate 2 refine AW.seq ?_); refine AW.reg ?_; (iterate 3 refine ze hT zr zr zr zr zr ?_); refine WT.nil ?_
  refine AW.cond rfl (fun h => ?_) (fun h => ?_)
  · have h : s < b := by simpa using h
    refine AW.skip ?_; refine AW.seq ?_
    refine AW.block ?_
    refine AW.seq ?_; refine AW.reg ?_; (iterate 2 refine ze hT zr zr zr zr zr ?_); refine WT.nil ?_
    refine AW.block ?_
    refine AW.loopR (S := Unit) (fun u => []) (fun u => own) (fun u G => True) (fun u => 0) ()
      (SubK.of_map rfl) (OwnLe.refl _) trivial ?_
    intro u F2 hF2 _
    have hv2 := hv1.mono hF2
    (iterate 2 refine AW.seq ?_); refine AW.draw (ps := []) zr zr ?_; (iterate 4 refine ze hT zr zr zr zr zr ?_)
    refine WT.split 21 rfl (fun hja => ?_) (fun hja => absurd hja (by simp; omega))
    (iterate 3 refine ze hT zr zr zr zr zr ?_)
    refine WT.idxL hT hv2 zr zr zr zr zr zr zr zr zr (by omega) (fun y hy b1 off ro cs ly hb1 hp1 hrel1 => ?_)
    obtain ⟨ya, yn, yc, hly, hya⟩ := id hrel1
    subst hly
    refine zi (fo := 0) hT (by assumption) (by assumption) zr zr zr zr zr zr ?_; (iterate 2 refine ze hT zr zr zr zr zr ?_); refine WT.sub1 zr zr zr zr zr zr (by omega) ?_
    refine WT.idxL hT hv2 zr zr zr zr zr zr zr zr zr (by omega) (fun x hx b2 off2 ro2 cs2 lx hb2 hp2 hrel2 => ?_)
    obtain ⟨xa, xn, xc, hlx, hxa⟩ := id hrel2
    subst hlx
    refine zi (fo := 0) hT (by assumption) (by assumption) zr zr zr zr zr zr ?_
    refine WT.callC Tryz.func128 zr zr zr zr zr zr zr zr (npackCmp_spec _ y x hrel1 hrel2) (fun v hv => ?_)
    subst hv
    have hno := hs (s - 1) s x y (by omega) hx hy
    (iterate 2 refine ze hT zr zr zr zr zr ?_); refine WT.nil ?_; refine And.intro trivial ?_
    refine AW.cond rfl (fun h => absurd h (by simpa using hno)) (fun _ => ?_)
    refine AW.exit ?_
    refine AW.reg ?_; refine ze hT zr zr zr zr zr ?_; refine WT.add1 zr zr zr zr zr zr (by omega) ?_; refine ze hT zr zr zr zr zr ?_; refine WT.nil ?_
    exact ⟨s + 1, by omega, SubK.of_map rfl, OwnLe.refl _, by omega⟩
  · have h : ¬ s < b := by simpa using h
    refine AW.exit ?_
    skip
    refine ⟨_, [], rfl, (by repeat (first | exact List.Sublist.refl _ | refine List.Sublist.cons _ ?_)), rfl, rfl⟩

theorem symP_spec {xs : List NPack} (hs : PSorted xs) : ∀ (N : Nat) (F : Frz) {a0 : Option Addr} {len cc : Nat} (hv : Arr tNPack F a0 len cc xs) (a m b : Nat) (hN : b - a < N) (ham : a < m) (hmb : m < b) (hb : b ≤ len) (hm : len ≤ 1000000),
    Abs.Spec CC 193 [.slice a0 len cc, .int .i64 a, .int .i64 m, .int .i64 b, .func (.func 128) ⟨[]⟩ ⟨[]⟩] F [] fun F' v o => o = [] ∧ v = .tuple ⟨[]⟩
  | 0, F, a0, len, cc, hv, a, m, b, hN, _, _, _, _ => absurd hN (Nat.not_lt_zero _)
  | N + 1, F, a0, len, cc, hv, a, m, b, hN, ham, hmb, hb, hm => by
    have hvl := hv.len
    refine Abs.Spec.fn (n := 220) Tryz.func193 rfl rfl fun own => ?_
    (iterate 2 refine AW.seq ?_); refine AW.reg ?_; (iterate 2 refine ze hT zr zr zr zr zr ?_); refine WT.subN zr zr zr zr zr zr (by omega) ?_; refine ze hT zr zr zr zr zr ?_; refine WT.nil ?_
    refine AW.cond rfl (fun h => ?_) (fun h => ?_)
    · have h : m = a + 1 := by simp at h; omega
      refine AW.seq ?_; refine AW.reg ?_; (iterate 2 refine ze hT zr zr zr zr zr ?_); refine WT.nil ?_; refine AW.seq ?_; refine AW.reg ?_; (iterate 2 refine ze hT zr zr zr zr zr ?_); refine WT.nil ?_; refine AW.seq ?_
      refine AW.block ?_
      refine AW.loopR (S := Nat) (fun s => [(11, .int .i64 (s : Nat))]) (fun s => own) (fun s G => m ≤ s ∧ s ≤ b) (fun s => s) b
        (SubK.of_map rfl) (OwnLe.refl _) ⟨by omega, Nat.le_refl _⟩ ?_
      intro s F1 hF1 hP
      have hv1 := hv.mono hF1
      obtain ⟨hms, hsb⟩ := hP
      (iterate 2 refine AW.seq ?_); refine AW.reg ?_; (iterate 3 refine ze hT zr zr zr zr zr ?_); refine WT.nil ?_
      refine AW.cond rfl (fun h2 => ?_) (fun h2 => ?_)
      · have h2 : m < s := by simpa using h2
        refine AW.skip ?_
        refine AW.block ?_
        refine AW.seq ?_; refine AW.reg ?_; (iterate 2 refine ze hT zr zr zr zr zr ?_); refine WT.addN zr zr zr zr zr zr (by omega) ?_
        refine WT.conv hT (k2 := .u64) zr zr zr zr zr zr zr zr (wrapU64 (by omega)) ?_
        refine WT.shV zr zr zr zr zr zr (by decide) (shr64 (x := m + s) (y := 1) (by decide)) ?_
        refine WT.conv hT (k2 := .i64) zr zr zr zr zr zr zr zr (wrap64 (by omega)) ?_
        rw [Nat.pow_one]
        refine ze hT zr zr zr zr zr ?_; refine WT.nil ?_; refine AW.seq ?_; refine AW.draw (ps := []) zr zr ?_; (iterate 3 refine ze hT zr zr zr zr zr ?_)
        refine WT.idxL hT hv1 zr zr zr zr zr zr zr zr zr (by omega) (fun y hy b1 off ro cs ly hb1 hp1 hrel1 => ?_)
        obtain ⟨ya, yn, yc, hly, hya⟩ := id hrel1
        subst hly
        refine zi (fo := 0) hT (by assumption) (by assumption) zr zr zr zr zr zr ?_; (iterate 2 refine ze hT zr zr zr zr zr ?_)
        refine WT.idxL hT hv1 zr zr zr zr zr zr zr zr zr (by omega) (fun x hx b2 off2 ro2 cs2 lx hb2 hp2 hrel2 => ?_)
        obtain ⟨xa, xn, xc, hlx, hxa⟩ := id hrel2
        subst hlx
        refine zi (fo := 0) hT (by assumption) (by assumption) zr zr zr zr zr zr ?_
        refine WT.callC Tryz.func128 zr zr zr zr zr zr zr zr (npackCmp_spec _ y x hrel1 hrel2) (fun v hv => ?_)
        subst hv
        have hno := hs a ((m + s) / 2) x y (by omega) hx hy
        refine ze hT zr zr zr zr zr ?_; refine WT.nil ?_; refine And.intro trivial ?_
        refine AW.cond rfl (fun h => absurd h (by simpa using hno)) (fun _ => ?_)
        refine AW.reg ?_; (iterate 2 refine ze hT zr zr zr zr zr ?_); refine WT.nil ?_
        exact ⟨(m + s) / 2, by omega, SubK.of_map rfl, OwnLe.refl _, by omega, by omega⟩
      · have h2 : s = m := by simp at h2; omega
        refine AW.exit ?_
        (iterate 2 refine AW.seq ?_); refine AW.reg ?_; (iterate 2 refine ze hT zr zr zr zr zr ?_); refine WT.nil ?_
        refine AW.block ?_
        refine AW.loopR (S := Unit) (fun s => []) (fun s => own) (fun s G => True) (fun s => 0) ()
          (SubK.of_map rfl) (OwnLe.refl _) trivial ?_
        intro u F2 hF2 _
        (iterate 2 refine AW.seq ?_); refine AW.reg ?_; (iterate 2 refine ze hT zr zr zr zr zr ?_); refine WT.sub1 zr zr zr zr zr zr (by omega) ?_; refine ze hT zr zr zr zr zr ?_; refine WT.nil ?_
        refine AW.cond rfl (fun h3 => (by simp at h3; omega)) (fun _ => ?_)
        refine AW.exit ?_
        skip
        exact AW.ret ⟨_, [], rfl, (by repeat (first | exact List.Sublist.refl _ | refine List.Sublist.cons _ ?_)), rfl, rfl⟩
    · have h : m ≠ a + 1 := by intro e; subst e; simp at h
      refine AW.skip ?_; (iterate 2 refine AW.seq ?_); refine AW.reg ?_; (iterate 2 refine ze hT zr zr zr zr zr ?_); refine WT.subN zr zr zr zr zr zr (by omega) ?_; refine ze hT zr zr zr zr zr ?_; refine WT.nil ?_
      refine AW.cond rfl (fun h' => ?_) (fun h' => ?_)
      · have h' : b = m + 1 := by simp at h'; omega
        refine AW.seq ?_; refine AW.reg ?_; (iterate 2 refine ze hT zr zr zr zr zr ?_); refine WT.nil ?_; refine AW.seq ?_; refine AW.reg ?_; (iterate 2 refine ze hT zr zr zr zr zr ?_); refine WT.nil ?_; refine AW.seq ?_
        refine AW.block ?_
        refine AW.loopR (S := Nat) (fun s => [(14, .int .i64 (s : Nat))]) (fun s => own) (fun s G => a ≤ s ∧ s ≤ m) (fun s => m - s) a
          (SubK.of_map rfl) (OwnLe.refl _) ⟨Nat.le_refl _, by omega⟩ ?_
        intro s F1 hF1 hP
        have hv1 := hv.mono hF1
        obtain ⟨hms, hsb⟩ := hP
        (iterate 2 refine AW.seq ?_); refine AW.reg ?_; (iterate 3 refine ze hT zr zr zr zr zr ?_); refine WT.nil ?_
        refine AW.cond rfl (fun h2 => ?_) (fun h2 => ?_)
        · have h2 : s < m := by simpa using h2
          refine AW.skip ?_
          refine AW.block ?_
          refine AW.seq ?_; refine AW.reg ?_; (iterate 2 refine ze hT zr zr zr zr zr ?_); refine WT.addN zr zr zr zr zr zr (by omega) ?_
          refine WT.conv hT (k2 := .u64) zr zr zr zr zr zr zr zr (wrapU64 (by omega)) ?_
          refine WT.shV zr zr zr zr zr zr (by decide) (shr64 (x := s + m) (y := 1) (by decide)) ?_
          refine WT.conv hT (k2 := .i64) zr zr zr zr zr zr zr zr (wrap64 (by omega)) ?_
          rw [Nat.pow_one]
          refine ze hT zr zr zr zr zr ?_; refine WT.nil ?_; refine AW.seq ?_; refine AW.draw (ps := []) zr zr ?_; (iterate 3 refine ze hT zr zr zr zr zr ?_)
          refine WT.idxL hT hv1 zr zr zr zr zr zr zr zr zr (by omega) (fun y hy b1 off ro cs ly hb1 hp1 hrel1 => ?_)
          obtain ⟨ya, yn, yc, hly, hya⟩ := id hrel1
          subst hly
          refine zi (fo := 0) hT (by assumption) (by assumption) zr zr zr zr zr zr ?_; (iterate 2 refine ze hT zr zr zr zr zr ?_)
          refine WT.idxL hT hv1 zr zr zr zr zr zr zr zr zr (by omega) (fun x hx b2 off2 ro2 cs2 lx hb2 hp2 hrel2 => ?_)
          obtain ⟨xa, xn, xc, hlx, hxa⟩ := id hrel2
          subst hlx
          refine zi (fo := 0) hT (by assumption) (by assumption) zr zr zr zr zr zr ?_
          refine WT.callC Tryz.func128 zr zr zr zr zr zr zr zr (npackCmp_spec _ y x hrel1 hrel2) (fun v hv => ?_)
          subst hv
          have hno := hs ((s + m) / 2) m x y (by omega) hx hy
          (iterate 2 refine ze hT zr zr zr zr zr ?_); refine WT.nil ?_; refine And.intro trivial ?_
          refine AW.cond rfl (fun _ => ?_) (fun h => absurd h (by simpa using hno))
          refine AW.reg ?_; refine ze hT zr zr zr zr zr ?_; refine WT.add1 zr zr zr zr zr zr (by omega) ?_; refine ze hT zr zr zr zr zr ?_; refine WT.nil ?_
          exact ⟨(s + m) / 2 + 1, by omega, SubK.of_map rfl, OwnLe.refl _, by omega, by omega⟩
        · have h2 : s = m := by simp at h2; omega
          subst h2
          refine AW.exit ?_
          (iterate 2 refine AW.seq ?_); refine AW.reg ?_; (iterate 2 refine ze hT zr zr zr zr zr ?_); refine WT.nil ?_
          refine AW.block ?_
          refine AW.loopR (S := Unit) (fun s => []) (fun s => own) (fun s G => True) (fun s => 0) ()
            (SubK.of_map rfl) (OwnLe.refl _) trivial ?_
          intro u F2 hF2 _
          (iterate 2 refine AW.seq ?_); refine AW.reg ?_; (iterate 3 refine ze hT zr zr zr zr zr ?_); refine WT.nil ?_
          refine AW.cond rfl (fun h3 => (by simp at h3)) (fun _ => ?_)
          refine AW.exit ?_
          skip
          exact AW.ret ⟨_, [], rfl, (by repeat (first | exact List.Sublist.refl _ | refine List.Sublist.cons _ ?_)), rfl, rfl⟩
      · have h' : b ≠ m + 1 := by intro e; subst e; simp at h'
        refine AW.skip ?_; refine AW.seq ?_; refine AW.reg ?_; (iterate 2 refine ze hT zr zr zr zr zr ?_); refine WT.addN zr zr zr zr zr zr (by omega) ?_
        refine WT.conv hT (k2 := .u64) zr zr zr zr zr zr zr zr (wrapU64 (by omega)) ?_
        refine WT.shV zr zr zr zr zr zr (by decide) (shr64 (x := a + b) (y := 1) (by decide)) ?_
        refine WT.conv hT (k2 := .i64) zr zr zr zr zr zr zr zr (wrap64 (by omega)) ?_
        rw [Nat.pow_one]
        obtain ⟨mid, hmid⟩ : ∃ mid, (a + b) / 2 = mid := ⟨_, rfl⟩
        rw [hmid]
        refine ze hT zr zr zr zr zr ?_; refine WT.nil ?_; refine AW.seq ?_; refine AW.reg ?_; (iterate 2 refine ze hT zr zr zr zr zr ?_); refine WT.addN zr zr zr zr zr zr (by omega) ?_; refine ze hT zr zr zr zr zr ?_; refine WT.nil ?_; refine AW.seq ?_; refine AW.reg ?_; (iterate 2 refine ze hT zr zr zr zr zr ?_); refine WT.nil ?_; (iterate 2 refine AW.seq ?_); refine AW.reg ?_; (iterate 3 refine ze hT zr zr zr zr zr ?_); refine WT.nil ?_
        refine AW.jnT (S := Nat × Nat) (fun s => [(20, .int .i64 (s.1 : Nat)), (21, .int .i64 (s.2 : Nat))]) (fun s => own) (fun s G => (mid < m ∧ s.1 = mid + m - b ∧ s.2 = mid) ∨ (m ≤ mid ∧ s.1 = a ∧ s.2 = m)) ?_ (fun s F1 hF1 hP => ?_)
        · refine AW.cond rfl (fun h2 => ?_) (fun h2 => ?_)
          · have h2 : mid < m := by simp at h2; omega
            refine AW.seq ?_; refine AW.reg ?_; (iterate 2 refine ze hT zr zr zr zr zr ?_); refine WT.subN zr zr zr zr zr zr (by omega) ?_; refine ze hT zr zr zr zr zr ?_; refine WT.nil ?_; refine AW.reg ?_; (iterate 2 refine ze hT zr zr zr zr zr ?_); refine WT.nil ?_
            exact ⟨(mid + m - b, mid), SubK.of_map rfl, OwnLe.refl _, .inl ⟨h2, rfl, rfl⟩⟩
          · have h2 : m ≤ mid := by simp at h2; omega
            refine AW.seq ?_; refine AW.reg ?_; (iterate 2 refine ze hT zr zr zr zr zr ?_); refine WT.nil ?_; refine AW.reg ?_; (iterate 2 refine ze hT zr zr zr zr zr ?_); refine WT.nil ?_
            exact ⟨(a, m), SubK.of_map rfl, OwnLe.refl _, .inr ⟨h2, rfl, rfl⟩⟩
        · obtain ⟨st, r⟩ := s
          dsimp only at hP ⊢
          have hv1 := hv.mono hF1
          have hst : st ≤ r := by omega
          have hrm : r ≤ m ∧ r ≤ mid := by omega
          refine AW.seq ?_; refine AW.reg ?_; refine ze hT zr zr zr zr zr ?_; refine WT.sub1 zr zr zr zr zr zr (by omega) ?_; refine ze hT zr zr zr zr zr ?_; refine WT.nil ?_; refine AW.seq ?_
          refine AW.block ?_
          refine AW.loopR (S := Nat) (fun s => [(20, .int .i64 (s : Nat))]) (fun s => own) (fun s G => st ≤ s ∧ s ≤ r) (fun s => r - s) st
            (SubK.of_map rfl) (OwnLe.refl _) ⟨Nat.le_refl _, hst⟩ ?_
          intro u F2 hF2 hP2
          obtain ⟨hu1, hu2⟩ := hP2
          have hv2 := hv1.mono hF2
          (iterate 2 refine AW.seq ?_); refine AW.reg ?_; (iterate 3 refine ze hT zr zr zr zr zr ?_); refine WT.nil ?_
          refine AW.cond rfl (fun h2 => ?_) (fun h2 => ?_)
          · have h2 : u < r := by simpa using h2
            refine AW.skip ?_
            refine AW.block ?_
            refine AW.seq ?_; refine AW.reg ?_; (iterate 2 refine ze hT zr zr zr zr zr ?_); refine WT.addN zr zr zr zr zr zr (by omega) ?_
            refine WT.conv hT (k2 := .u64) zr zr zr zr zr zr zr zr (wrapU64 (by omega)) ?_
            refine WT.shV zr zr zr zr zr zr (by decide) (shr64 (x := u + r) (y := 1) (by decide)) ?_
            refine WT.conv hT (k2 := .i64) zr zr zr zr zr zr zr zr (wrap64 (by omega)) ?_
            rw [Nat.pow_one]
            obtain ⟨cx, hcx⟩ : ∃ cx, (u + r) / 2 = cx := ⟨_, rfl⟩
            rw [hcx]
            have hc1 : u ≤ cx ∧ cx < r := by omega
            refine ze hT zr zr zr zr zr ?_; refine WT.nil ?_; refine AW.seq ?_; refine AW.draw (ps := []) zr zr ?_; (iterate 4 refine ze hT zr zr zr zr zr ?_); refine WT.subN zr zr zr zr zr zr (by omega) ?_
            refine WT.idxL hT hv2 zr zr zr zr zr zr zr zr zr (by omega) (fun y hy b1 off ro cs ly hb1 hp1 hrel1 => ?_)
            obtain ⟨ya, yn, yc, hly, hya⟩ := id hrel1
            subst hly
            refine zi (fo := 0) hT (by assumption) (by assumption) zr zr zr zr zr zr ?_; (iterate 2 refine ze hT zr zr zr zr zr ?_)
            refine WT.idxL hT hv2 zr zr zr zr zr zr zr zr zr (by omega) (fun x hx b2 off2 ro2 cs2 lx hb2 hp2 hrel2 => ?_)
            obtain ⟨xa, xn, xc, hlx, hxa⟩ := id hrel2
            subst hlx
            refine zi (fo := 0) hT (by assumption) (by assumption) zr zr zr zr zr zr ?_
            refine WT.callC Tryz.func128 zr zr zr zr zr zr zr zr (npackCmp_spec _ y x hrel1 hrel2) (fun v hv => ?_)
            subst hv
            have hno := hs cx _ x y (by omega) hx hy
            (iterate 2 refine ze hT zr zr zr zr zr ?_); refine WT.nil ?_; refine And.intro trivial ?_
            refine AW.cond rfl (fun _ => ?_) (fun h => absurd h (by simpa using hno))
            refine AW.reg ?_; refine ze hT zr zr zr zr zr ?_; refine WT.add1 zr zr zr zr zr zr (by omega) ?_; refine ze hT zr zr zr zr zr ?_; refine WT.nil ?_
            exact ⟨cx + 1, by omega, SubK.of_map rfl, OwnLe.refl _, by omega, by omega⟩
          · have h2 : u = r := by simp at h2; omega
            subst h2
            refine AW.exit ?_
            refine AW.seq ?_; refine AW.reg ?_; (iterate 2 refine ze hT zr zr zr zr zr ?_); refine WT.subN zr zr zr zr zr zr (by omega) ?_; refine ze hT zr zr zr zr zr ?_; refine WT.nil ?_; (iterate 2 refine AW.seq ?_); refine AW.reg ?_; (iterate 4 refine ze hT zr zr zr zr zr ?_)
            rcases hP with ⟨hq, _, hu⟩ | ⟨hq, _, hu⟩
            · subst hu
              have he : u + m - u = m := by omega
              refine WT.split 181 rfl (fun e => ?_) (fun e => absurd e (by simp; omega))
              (iterate 4 refine ze hT zr zr zr zr zr ?_); refine WT.nil ?_
              refine AW.cond rfl (fun e => absurd e (by simp)) (fun _ => ?_)
              refine AW.skip ?_; (iterate 2 refine AW.seq ?_); refine AW.reg ?_; (iterate 4 refine ze hT zr zr zr zr zr ?_)
              refine WT.split 195 rfl (fun e => ?_) (fun e => absurd e (by simp; omega))
              (iterate 4 refine ze hT zr zr zr zr zr ?_); refine WT.nil ?_
              refine AW.cond rfl (fun e => absurd e (by simp)) (fun _ => ?_)
              refine AW.skip ?_; refine AW.seq ?_; refine AW.reg ?_; (iterate 4 refine ze hT zr zr zr zr zr ?_)
              refine WT.split 209 rfl (fun e => ?_) (fun e => absurd e (by simp; omega))
              (iterate 4 refine ze hT zr zr zr zr zr ?_); refine WT.nil ?_
              refine AW.cond rfl (fun _ => ?_) (fun e => absurd e (by simp; omega))
              rw [he]
              refine AW.reg ?_; (iterate 5 refine ze hT zr zr zr zr zr ?_)
              refine WT.callV Tryz.func193 zr zr zr zr zr zr (symP_spec hs N _ hv2 u m b (by omega) (by omega) hmb hb hm) (fun v hv => ?_)
              refine WT.nil ?_
              refine ⟨_, [], rfl, (by repeat (first | exact List.Sublist.refl _ | refine List.Sublist.cons _ ?_)), rfl, rfl⟩
            · subst hu
              have he : mid + u - u = mid := by omega
              refine WT.split 181 rfl (fun e => absurd e (by simp)) (fun e => ?_)
              (iterate 3 refine zx zr zr zr zr ?_); refine ze hT zr zr zr zr zr ?_; refine WT.nil ?_
              refine AW.cond rfl (fun e => absurd e (by simp)) (fun _ => ?_)
              refine AW.skip ?_; (iterate 2 refine AW.seq ?_); refine AW.reg ?_; (iterate 4 refine ze hT zr zr zr zr zr ?_)
              refine WT.split 195 rfl (fun e => ?_) (fun e => absurd e (by simp; omega))
              (iterate 4 refine ze hT zr zr zr zr zr ?_); refine WT.nil ?_
              rw [he]
              refine AW.cond rfl (fun e => ?_) (fun e => ?_)
              · have e : u < mid := by simpa using e
                refine AW.reg ?_; (iterate 5 refine ze hT zr zr zr zr zr ?_)
                refine WT.callV Tryz.func193 zr zr zr zr zr zr (symP_spec hs N _ hv2 a u mid (by omega) ham e (by omega) hm) (fun v hv => ?_)
                refine WT.nil ?_; refine AW.seq ?_; refine AW.reg ?_; (iterate 4 refine ze hT zr zr zr zr zr ?_)
                refine WT.split 209 rfl (fun e => absurd e (by simp)) (fun e => ?_)
                (iterate 3 refine zx zr zr zr zr ?_); refine ze hT zr zr zr zr zr ?_; refine WT.nil ?_
                refine AW.cond rfl (fun e => absurd e (by simp)) (fun _ => ?_)
                refine AW.skip ?_
                refine ⟨_, [], rfl, (by repeat (first | exact List.Sublist.refl _ | refine List.Sublist.cons _ ?_)), rfl, rfl⟩
              · refine AW.skip ?_; refine AW.seq ?_; refine AW.reg ?_; (iterate 4 refine ze hT zr zr zr zr zr ?_)
                refine WT.split 209 rfl (fun e => absurd e (by simp)) (fun e => ?_)
                (iterate 3 refine zx zr zr zr zr ?_); refine ze hT zr zr zr zr zr ?_; refine WT.nil ?_
                refine AW.cond rfl (fun e => absurd e (by simp)) (fun _ => ?_)
                refine AW.skip ?_
                refine ⟨_, [], rfl, (by repeat (first | exact List.Sublist.refl _ | refine List.Sublist.cons _ ?_)), rfl, rfl⟩


theorem stableP_spec (F : Frz) {a0 : Option Addr} {m c : Nat} {xs : List NPack} (hv : Arr tNPack F a0 m c xs) (hs : PSorted xs) (hm : m ≤ 1000000) :
    Abs.Spec CC 166 [.slice a0 m c, .int .i64 m, .func (.func 128) ⟨[]⟩ ⟨[]⟩] F [] fun F' v o => o = [] ∧ v = .tuple ⟨[]⟩ := by
  have hvl := hv.len
  refine Abs.Spec.fn (n := 63) Tryz.func166 rfl rfl fun own => ?_
  refine AW.seq ?_; refine AW.reg ?_; refine ze hT zr zr zr zr zr ?_; refine WT.nil ?_; refine AW.seq ?_; refine AW.reg ?_; (iterate 3 refine ze hT zr zr zr zr zr ?_); refine WT.nil ?_; refine AW.seq ?_
  refine AW.block ?_
  refine AW.loopR (S := Nat) (fun s => [(7, .int .i64 (s : Nat)), (8, .int .i64 ((s + 20 : Nat) : Int))]) (fun s => own) (fun s G => s ≤ m) (fun s => m - s) 0
    (SubK.of_map rfl) (OwnLe.refl _) (Nat.zero_le _) ?_
  intro s F1 hF1 hP
  have hv1 := hv.mono hF1
  (iterate 2 refine AW.seq ?_); refine AW.reg ?_; (iterate 3 refine ze hT zr zr zr zr zr ?_); refine WT.nil ?_
  refine AW.cond rfl (fun h2 => ?_) (fun h2 => ?_)
  · have h2 : s + 20 ≤ m := by simp at h2; omega
    refine AW.skip ?_
    refine AW.block ?_
    refine AW.seq ?_; refine AW.reg ?_; (iterate 4 refine ze hT zr zr zr zr zr ?_)
    refine WT.callV Tryz.func192 zr zr zr zr zr zr (insP_spec _ hv1 hs s (s + 20) (by omega) h2 hm) (fun v hv' => ?_)
    refine WT.nil ?_; refine AW.seq ?_; refine AW.reg ?_; (iterate 2 refine ze hT zr zr zr zr zr ?_); refine WT.nil ?_; refine AW.reg ?_; (iterate 2 refine ze hT zr zr zr zr zr ?_); refine za zr zr zr zr zr zr (by omega) ?_; refine ze hT zr zr zr zr zr ?_; refine WT.nil ?_
    exact ⟨s + 20, by omega, SubK.of_map rfl, OwnLe.refl _, h2⟩
  · refine AW.exit ?_
    refine AW.seq ?_; refine AW.reg ?_; (iterate 4 refine ze hT zr zr zr zr zr ?_)
    refine WT.callV Tryz.func192 zr zr zr zr zr zr (insP_spec _ hv1 hs s m (by omega) (Nat.le_refl _) hm) (fun v hv' => ?_)
    refine WT.nil ?_
    refine AW.block ?_
    refine AW.loopR (S := Nat × Nat × Nat) (fun s => [(6, .int .i64 (s.1 : Nat)), (7, .int .i64 (s.2.1 : Nat)), (8, .int .i64 (s.2.2 : Nat))]) (fun s => own) (fun s G => 0 < s.1) (fun s => m - s.1) (20, s, s + 20)
      (SubK.of_map rfl) (OwnLe.refl _) (show 0 < 20 by decide) ?_
    intro u F2 hF2 hP2
    have hv2 := hv1.mono hF2
    obtain ⟨bs, ua, ub⟩ := u
    dsimp only at hP2 ⊢
    (iterate 2 refine AW.seq ?_); refine AW.reg ?_; (iterate 3 refine ze hT zr zr zr zr zr ?_); refine WT.nil ?_
    refine AW.cond rfl (fun h3 => ?_) (fun h3 => ?_)
    · have h3 : bs < m := by simpa using h3
      refine AW.skip ?_
      refine AW.block ?_
      refine AW.seq ?_; refine AW.reg ?_; refine ze hT zr zr zr zr zr ?_; refine WT.mul2 zr zr zr zr zr zr (by omega) ?_; (iterate 2 refine ze hT zr zr zr zr zr ?_); refine WT.nil ?_; refine AW.seq ?_
      refine AW.block ?_
      refine AW.loopR (S := Nat × Nat) (fun s => [(7, .int .i64 (s.1 : Nat)), (8, .int .i64 (s.2 : Nat))]) (fun s => own) (fun s G => s.1 ≤ m ∧ s.2 = s.1 + 2 * bs) (fun s => m - s.1) (0, 2 * bs)
        (SubK.of_map rfl) (OwnLe.refl _) ⟨Nat.zero_le _, by omega⟩ ?_
      intro z F3 hF3 hP3
      have hv3 := hv2.mono hF3
      obtain ⟨za, zb⟩ := z
      dsimp only at hP3 ⊢
      obtain ⟨hz1, hz2⟩ := hP3
      subst hz2
      (iterate 2 refine AW.seq ?_); refine AW.reg ?_; (iterate 3 refine ze hT zr zr zr zr zr ?_); refine WT.nil ?_
      refine AW.cond rfl (fun h4 => ?_) (fun h4 => ?_)
      · have h4 : za + 2 * bs ≤ m := by simp at h4; omega
        refine AW.skip ?_
        refine AW.block ?_
        refine AW.seq ?_; refine AW.reg ?_; (iterate 4 refine ze hT zr zr zr zr zr ?_); refine WT.addN zr zr zr zr zr zr (by omega) ?_; (iterate 2 refine ze hT zr zr zr zr zr ?_)
        refine WT.callV Tryz.func193 zr zr zr zr zr zr (symP_spec hs _ _ hv3 za (za + bs) (za + 2 * bs) (Nat.lt_succ_self _) (by omega) (by omega) h4 hm) (fun v hv' => ?_)
        refine WT.nil ?_; refine AW.seq ?_; refine AW.reg ?_; (iterate 2 refine ze hT zr zr zr zr zr ?_); refine WT.nil ?_; refine AW.reg ?_; (iterate 2 refine ze hT zr zr zr zr zr ?_); refine WT.mul2 zr zr zr zr zr zr (by omega) ?_; refine WT.addN zr zr zr zr zr zr (by omega) ?_; refine ze hT zr zr zr zr zr ?_; refine WT.nil ?_
        exact ⟨(za + 2 * bs, za + 2 * bs + 2 * bs), by dsimp only; omega, SubK.of_map rfl, OwnLe.refl _, h4, rfl⟩
      · have h4 : m < za + 2 * bs := by simp at h4; omega
        refine AW.exit ?_
        (iterate 2 refine AW.seq ?_); refine AW.reg ?_; (iterate 2 refine ze hT zr zr zr zr zr ?_); refine WT.addN zr zr zr zr zr zr (by omega) ?_; refine ze hT zr zr zr zr zr ?_; refine WT.nil ?_; refine AW.seq ?_; refine AW.reg ?_; (iterate 3 refine ze hT zr zr zr zr zr ?_); refine WT.nil ?_
        refine AW.cond rfl (fun h5 => ?_) (fun h5 => ?_)
        · have h5 : za + bs < m := by simp at h5; omega
          refine AW.reg ?_; (iterate 5 refine ze hT zr zr zr zr zr ?_)
          refine WT.callV Tryz.func193 zr zr zr zr zr zr (symP_spec hs _ _ hv3 za (za + bs) m (Nat.lt_succ_self _) (by omega) h5 (Nat.le_refl _) hm) (fun v hv' => ?_)
          refine WT.nil ?_; refine AW.reg ?_; refine ze hT zr zr zr zr zr ?_
          refine WT.mulL 2 zr zr zr zr zr zr (by omega) ?_
          refine ze hT zr zr zr zr zr ?_; refine WT.nil ?_
          exact ⟨(bs * 2, za, za + 2 * bs), by dsimp only; omega, SubK.of_map rfl, OwnLe.refl _, by dsimp only; omega⟩
        · refine AW.skip ?_; refine AW.reg ?_; refine ze hT zr zr zr zr zr ?_
          refine WT.mulL 2 zr zr zr zr zr zr (by omega) ?_
          refine ze hT zr zr zr zr zr ?_; refine WT.nil ?_
          exact ⟨(bs * 2, za, za + 2 * bs), by dsimp only; omega, SubK.of_map rfl, OwnLe.refl _, by dsimp only; omega⟩
    · refine AW.exit ?_
      skip
      refine ⟨_, [], rfl, (by repeat (first | exact List.Sublist.refl _ | refine List.Sublist.cons _ ?_)), rfl, rfl⟩

theorem sortStableP_spec (F : Frz) {a0 : Option Addr} {m c : Nat} {xs : List NPack} (hv : Arr tNPack F a0 m c xs) (hs : PSorted xs) (hm : m ≤ 1000000) :
    Abs.Spec CC 127 [.slice a0 m c, .func (.func 128) ⟨[]⟩ ⟨[]⟩] F [] fun F' v o => o = [] ∧ v = .tuple ⟨[]⟩ := by
  refine Abs.Spec.fn (n := 9) Tryz.func127 rfl rfl fun own => ?_
  refine AW.reg ?_; (iterate 4 refine ze hT zr zr zr zr zr ?_)
  refine WT.callV Tryz.func166 zr zr zr zr zr zr (stableP_spec _ hv hs hm) (fun v hv' => ?_)
  refine WT.nil ?_
  refine ⟨_, [], rfl, (by repeat (first | exact List.Sublist.refl _ | refine List.Sublist.cons _ ?_)), rfl, rfl⟩
end Go.Proofs.D

set_option linter.unusedVariables false
set_option maxRecDepth 20000
set_option maxHeartbeats 0
open Go Go.Abs Go.Proofs Go.Proofs.D
namespace Go.Proofs.D

/-! ### the keys of a forest -/
inductive Reachable (g : Gram) (w : List Nat) (E : List (List Nat)) (root : Key) : Key → Prop
  | root : Reachable g w E root root
  | kid {k q : Key} {p : KPack} : Reachable g w E root k → p ∈ packsOf g w E k → q ∈ p.kids → Reachable g w E root q

def GoodKey (g : Gram) (w : List Nat) (k : Key) : Prop := SymOk g.terms g.nons k.sym ∧ k.frm ≤ w.length ∧ k.to ≤ w.length

theorem splits_mem {w : List Nat} {E : List (List Nat)} {to : Nat} : ∀ {l : List Sym} {i : Nat} {ks : List Key}, ks ∈ splits w E to l i → i ≤ w.length → to ≤ w.length → ∀ q ∈ ks, q.sym ∈ l ∧ q.frm ≤ w.length ∧ q.to ≤ w.length
  | [], i, ks, h, _, _, q, hq => by
    unfold splits at h
    split at h
    · rw [List.mem_singleton.1 h] at hq; cases hq
    · cases h
  | s :: l, i, ks, h, hi, hto, q, hq => by
    unfold splits at h
    obtain ⟨m, hm1, hm⟩ := List.mem_flatMap.1 h
    have hm1 := List.mem_range.1 hm1
    split at hm
    · obtain ⟨ks', h2, rfl⟩ := List.mem_map.1 hm
      rcases List.mem_cons.1 hq with rfl | hq
      · exact ⟨List.mem_cons_self .., hi, by show m ≤ _; omega⟩
      · have := splits_mem h2 (by omega) hto q hq
        exact ⟨List.mem_cons_of_mem _ this.1, this.2⟩
    · cases hm

theorem mem_packsOf {g : Gram} {w : List Nat} {E : List (List Nat)} {k : Key} {p : KPack} : p ∈ packsOf g w E k ↔ ∃ r, g.rules[p.rule]? = some r ∧ r.left = k.sym.n ∧ k.sym.term = false ∧ p.kids ∈ splits w E k.to r.right k.frm := by
  unfold packsOf
  rw [List.mem_flatMap]
  constructor
  · rintro ⟨i, hi, hp⟩
    unfold packsAt at hp
    split at hp
    · rename_i r hr
      split at hp
      · rename_i hc
        obtain ⟨ks, hks, rfl⟩ := List.mem_map.1 hp
        exact ⟨r, hr, hc.1, hc.2, hks⟩
      · cases hp
    · cases hp
  · rintro ⟨r, hr, h1, h2, h3⟩
    refine ⟨p.rule, List.mem_range.2 (List.getElem?_eq_some_iff.1 hr).1, ?_⟩
    unfold packsAt
    rw [hr]
    simp only
    rw [if_pos ⟨h1, h2⟩]
    exact List.mem_map.2 ⟨p.kids, h3, by cases p; rfl⟩

theorem good_kid {g : Gram} (hg : Valid g) {w : List Nat} {E : List (List Nat)} {k q : Key} {p : KPack} (hk : GoodKey g w k) (hp : p ∈ packsOf g w E k) (hq : q ∈ p.kids) : GoodKey g w q := by
  obtain ⟨r, hr, _, _, h3⟩ := mem_packsOf.1 hp
  obtain ⟨h4, h5, h6⟩ := splits_mem h3 hk.2.1 hk.2.2 q hq
  exact ⟨(hg.right r (List.mem_of_getElem? hr)).2.2 _ h4, h5, h6⟩

theorem Reachable.good {g : Gram} (hg : Valid g) {w : List Nat} {E : List (List Nat)} {root k : Key} (h : Reachable g w E root k) (hr : GoodKey g w root) : GoodKey g w k := by
  induction h with
  | root => exact hr
  | kid _ hp hq ih => exact good_kid hg ih hp hq

def keyCode (k : Key) : Nat := (if k.sym.term = true then 100 else 0) * 961 + k.sym.n * 961 + k.frm * 31 + k.to

theorem good_few {g : Gram} (hg : Valid g) {w : List Nat} (hw : w.length ≤ 30) {L : List Key} (hL : ∀ k ∈ L, GoodKey g w k) (hn : L.Nodup) : L.length ≤ 200000 := by
  have hgr := hg.range
  have bd : ∀ k ∈ L, k.sym.n < 10 ∧ k.frm ≤ 30 ∧ k.to ≤ 30 := fun k hk => by
    obtain ⟨h1, h2, h3⟩ := hL k hk
    unfold SymOk at h1
    have := hgr.terms
    have := hgr.nons
    split at h1 <;> exact ⟨by omega, by omega, by omega⟩
  have h := nodup_lt 200000 (L.map keyCode) ?_ ?_
  · rwa [List.length_map] at h
  · rw [List.nodup_iff_pairwise_ne, List.pairwise_map]
    refine (List.nodup_iff_pairwise_ne.1 hn).imp_of_mem ?_
    intro a b ha hb hne he
    apply hne
    have h1 := bd a ha
    have h2 := bd b hb
    obtain ⟨⟨at_, an⟩, af, ao⟩ := a
    obtain ⟨⟨bt, bn⟩, bf, bo⟩ := b
    unfold keyCode at he
    simp only at he h1 h2
    simp only [Key.mk.injEq, Sym.mk.injEq]
    cases at_ <;> cases bt <;> simp at he ⊢ <;> omega
  · intro x hx
    obtain ⟨k, hk, rfl⟩ := List.mem_map.1 hx
    have h1 := bd k hk
    unfold keyCode
    split <;> omega

/-! ### the order of packs -/
inductive KLt : List Key → List Key → Prop
  | here {a b : Key} {l m : List Key} : a.sym = b.sym → a.frm = b.frm → a.to < b.to → KLt (a :: l) (b :: m)
  | next {a : Key} {l m : List Key} : KLt l m → KLt (a :: l) (a :: m)

theorem splits_sorted {w : List Nat} {E : List (List Nat)} {to : Nat} : ∀ (l : List Sym) (i : Nat), (splits w E to l i).Pairwise KLt
  | [], i => by unfold splits; split <;> simp
  | s :: l, i => by
    unfold splits
    rw [List.pairwise_flatMap]
    constructor
    · intro m _
      split
      · rw [List.pairwise_map]
        exact (splits_sorted l m).imp .next
      · exact .nil
    · refine List.pairwise_lt_range.imp ?_
      intro m m' hm x hx y hy
      split at hx
      · split at hy
        · obtain ⟨x', _, rfl⟩ := List.mem_map.1 hx
          obtain ⟨y', _, rfl⟩ := List.mem_map.1 hy
          exact .here rfl rfl hm
        · cases hy
      · cases hx

def PLt (p q : KPack) : Prop := p.rule < q.rule ∨ (p.rule = q.rule ∧ KLt p.kids q.kids)

theorem packs_sorted (g : Gram) (w : List Nat) (E : List (List Nat)) (k : Key) : (packsOf g w E k).Pairwise PLt := by
  unfold packsOf
  rw [List.pairwise_flatMap]
  constructor
  · intro i _
    unfold packsAt
    split
    · split
      · rw [List.pairwise_map]
        exact (splits_sorted _ _).imp fun h => .inr ⟨rfl, h⟩
      · exact .nil
    · exact .nil
  · refine List.pairwise_lt_range.imp ?_
    intro i j hij x hx y hy
    have at_ : ∀ {i : Nat} {x : KPack}, x ∈ packsAt g w E k i → x.rule = i := by
      intro i x hx
      unfold packsAt at hx
      split at hx
      · split at hx
        · obtain ⟨_, _, rfl⟩ := List.mem_map.1 hx; rfl
        · cases hx
      · cases hx
    left
    rw [at_ hx, at_ hy]; exact hij

/-! ### nodes -/
structure Node where
  key : Key
  packs : List NPack

def tNode : Ty Node where
  size := 5
  rel := fun F l x => ∃ a n c, l = [.bool x.key.sym.term, .int .i64 x.key.sym.n, .int .i64 x.key.frm, .int .i64 x.key.to, .slice a n c] ∧ Arr tNPack F a n c x.packs
  len := fun _ _ _ h => by obtain ⟨a, n, c, rfl, _⟩ := h; rfl
  one := fun _ _ _ h => by obtain ⟨a, n, c, rfl, _⟩ := h; rfl
  mono := fun _ _ _ _ hF h => by obtain ⟨a, n, c, e, h⟩ := h; exact ⟨a, n, c, e, h.mono hF⟩

/-- A key's place. -/
def place (S : List Key) (k : Key) : Nat := S.idxOf k
def numPack (S : List Key) (p : KPack) : NPack := ⟨p.rule, p.kids.map (place S)⟩
def mkNode (g : Gram) (w : List Nat) (E : List (List Nat)) (S : List Key) (k : Key) : Node := ⟨k, (packsOf g w E k).map (numPack S)⟩

theorem place_at {S : List Key} {k : Key} (h : k ∈ S) : S[place S k]? = some k := by
  unfold place
  rw [List.getElem?_eq_getElem (List.idxOf_lt_length_of_mem h), List.getElem_idxOf]

theorem place_of {S : List Key} (hn : S.Nodup) {k : Key} {i : Nat} (h : S[i]? = some k) : place S k = i := by
  have h1 := place_at (List.mem_of_getElem? h)
  obtain ⟨h2, h3⟩ := List.getElem?_eq_some_iff.1 h
  obtain ⟨h4, h5⟩ := List.getElem?_eq_some_iff.1 h1
  rcases Nat.lt_trichotomy (place S k) i with h6 | h6 | h6
  · exact absurd (h5.trans h3.symm) (List.pairwise_iff_getElem.1 (List.nodup_iff_pairwise_ne.1 hn) _ _ h4 h2 h6)
  · exact h6
  · exact absurd (h3.trans h5.symm) (List.pairwise_iff_getElem.1 (List.nodup_iff_pairwise_ne.1 hn) _ _ h2 h4 h6)

theorem place_lt {S : List Key} (hs : S.Pairwise (fun x y => ltKey x y = true)) {a b : Key} (ha : a ∈ S) (hb : b ∈ S) (h : ltKey a b = true) : place S a < place S b := by
  have h1 := place_at ha
  have h2 := place_at hb
  obtain ⟨h3, h4⟩ := List.getElem?_eq_some_iff.1 h1
  obtain ⟨h5, h6⟩ := List.getElem?_eq_some_iff.1 h2
  rcases Nat.lt_trichotomy (place S a) (place S b) with h7 | h7 | h7
  · exact h7
  · have : a = b := by rw [← h4, ← h6]; simp only [h7]
    subst this
    rw [ltKey_swo.irrefl] at h; cases h
  · have := List.pairwise_iff_getElem.1 hs _ _ h5 h3 h7
    rw [h4, h6] at this
    have h8 := ltKey_swo.trans _ _ _ h this
    rw [ltKey_swo.irrefl] at h8; cases h8

theorem klt_cmp {S : List Key} (hs : S.Pairwise (fun x y => ltKey x y = true)) : ∀ {l m : List Key}, KLt l m → (∀ q ∈ l, q ∈ S) → (∀ q ∈ m, q ∈ S) → 0 < cmpNats (m.map (place S)) (l.map (place S)) ∧ cmpNats (l.map (place S)) (m.map (place S)) < 0 := by
  intro l m h
  induction h with
  | @here a b l m h1 h2 h3 =>
    intro hl hm
    have hlt : place S a < place S b := place_lt hs (hl a (List.mem_cons_self ..)) (hm b (List.mem_cons_self ..)) (by rw [ltKey_iff]; right; exact ⟨h2, .inl h3⟩)
    simp only [List.map_cons, cmpNats]
    have e1 : cmpInt (place S b : Nat) (place S a : Nat) = 1 := by unfold cmpInt; rw [if_neg (by omega), if_pos (by omega)]
    have e2 : cmpInt (place S a : Nat) (place S b : Nat) = -1 := by unfold cmpInt; rw [if_pos (by omega)]
    rw [e1, e2]; simp
  | @next a l m _ ih =>
    intro hl hm
    have e : cmpInt (place S a : Nat) (place S a : Nat) = 0 := by unfold cmpInt; rw [if_neg (by omega), if_neg (by omega)]
    simp only [List.map_cons, cmpNats, e, if_true]
    exact ih (fun q hq => hl q (List.mem_cons_of_mem _ hq)) (fun q hq => hm q (List.mem_cons_of_mem _ hq))

/-- A list of keys that is closed under kids, in order. -/
structure Keys (g : Gram) (w : List Nat) (E : List (List Nat)) (root : Key) (S : List Key) : Prop where
  sorted : S.Pairwise (fun x y => ltKey x y = true)
  reach : ∀ k ∈ S, Reachable g w E root k
  first : root ∈ S
  closed : ∀ k ∈ S, ∀ p ∈ packsOf g w E k, ∀ q ∈ p.kids, q ∈ S

theorem Keys.nodup {g : Gram} {w : List Nat} {E : List (List Nat)} {root : Key} {S : List Key} (h : Keys g w E root S) : S.Nodup := by
  rw [List.nodup_iff_pairwise_ne]
  refine h.sorted.imp ?_
  rintro a b hab rfl
  rw [ltKey_swo.irrefl] at hab; cases hab

theorem Keys.all {g : Gram} {w : List Nat} {E : List (List Nat)} {root : Key} {S : List Key} (h : Keys g w E root S) {k : Key} (hk : Reachable g w E root k) : k ∈ S := by
  induction hk with
  | root => exact h.first
  | kid _ hp hq ih => exact h.closed _ ih _ hp _ hq

theorem plt_cmp {S : List Key} (hs : S.Pairwise (fun x y => ltKey x y = true)) {p q : KPack} (h : PLt p q) (hp : ∀ x ∈ p.kids, x ∈ S) (hq : ∀ x ∈ q.kids, x ∈ S) : 0 < cmpNPack (numPack S q) (numPack S p) ∧ cmpNPack (numPack S p) (numPack S q) < 0 := by
  unfold cmpNPack numPack
  simp only [orInt]
  rcases h with h | ⟨h1, h2⟩
  · have e1 : cmpInt (q.rule : Nat) (p.rule : Nat) = 1 := by unfold cmpInt; rw [if_neg (by omega), if_pos (by omega)]
    have e2 : cmpInt (p.rule : Nat) (q.rule : Nat) = -1 := by unfold cmpInt; rw [if_pos (by omega)]
    rw [e1, e2]; simp
  · have e1 : cmpInt (q.rule : Nat) (p.rule : Nat) = 0 := by unfold cmpInt; rw [if_neg (by omega), if_neg (by omega)]
    have e2 : cmpInt (p.rule : Nat) (q.rule : Nat) = 0 := by unfold cmpInt; rw [if_neg (by omega), if_neg (by omega)]
    obtain ⟨h3, h4⟩ := klt_cmp hs h2 hp hq
    simp only [e1, e2, if_true]
    rw [if_neg (by omega), if_neg (by omega)]
    exact ⟨h3, h4⟩

theorem node_sorted {g : Gram} {w : List Nat} {E : List (List Nat)} {root : Key} {S : List Key} (h : Keys g w E root S) {k : Key} (hk : k ∈ S) : ((packsOf g w E k).map (numPack S)).Pairwise fun x y => 0 < cmpNPack y x ∧ cmpNPack x y < 0 := by
  rw [List.pairwise_map]
  refine (packs_sorted g w E k).imp_of_mem ?_
  intro a b ha hb hab
  exact plt_cmp h.sorted hab (fun x hx => h.closed k hk a ha x hx) (fun x hx => h.closed k hk b hb x hx)

theorem node_psorted {g : Gram} {w : List Nat} {E : List (List Nat)} {root : Key} {S : List Key} (h : Keys g w E root S) {k : Key} (hk : k ∈ S) : PSorted ((packsOf g w E k).map (numPack S)) := by
  intro i j x y hij hx hy
  obtain ⟨h1, h2⟩ := List.getElem?_eq_some_iff.1 hx
  obtain ⟨h3, h4⟩ := List.getElem?_eq_some_iff.1 hy
  have := List.pairwise_iff_getElem.1 (node_sorted h hk) i j h1 h3 hij
  rw [h2, h4] at this
  omega
end Go.Proofs.D

set_option linter.unusedVariables false
set_option maxRecDepth 20000
set_option maxHeartbeats 0
open Go Go.Abs Go.Proofs Go.Proofs.D
namespace Go.Proofs.D

theorem kkey_eq (x y : Key) : (((x.sym.term == y.sym.term) && (((x.sym.n : Int) == (y.sym.n : Int)) && true)) && (((x.frm : Int) == (y.frm : Int)) && (((x.to : Int) == (y.to : Int)) && true))) = decide (x = y) := by
  rw [Bool.eq_iff_iff]
  obtain ⟨⟨xt, xn⟩, xf, xo⟩ := x
  obtain ⟨⟨yt, yn⟩, yf, yo⟩ := y
  simp only [Bool.and_eq_true, beq_iff_eq, decide_eq_true_eq, Key.mk.injEq, Sym.mk.injEq, and_true]
  constructor
  · rintro ⟨⟨rfl, h1⟩, h2, h3⟩; exact ⟨⟨rfl, by omega⟩, by omega, by omega⟩
  · rintro ⟨⟨rfl, rfl⟩, rfl, rfl⟩; exact ⟨⟨rfl, rfl⟩, rfl, rfl⟩

def keyV (x : Key) : Value := .agg ⟨[.bool x.sym.term, .int .i64 x.sym.n, .int .i64 x.frm, .int .i64 x.to]⟩

noncomputable def keyK : KeyTy CC 139 Key where
  key := fun x => .agg ⟨[.bool x.sym.term, .int .i64 x.sym.n, .int .i64 x.frm, .int .i64 x.to]⟩
  ok := fun p => keyT_ok hT 8 _ _ rfl
  eq := fun p q => by
    have h : eqA CC 8 139 (.agg ⟨[.bool p.sym.term, .int .i64 p.sym.n, .int .i64 p.frm, .int .i64 p.to]⟩) (.agg ⟨[.bool q.sym.term, .int .i64 q.sym.n, .int .i64 q.frm, .int .i64 q.to]⟩) = some (decide (p = q)) := by
      rw [← kkey_eq]
      exact eqT_ok hT 8 _ _ _ _ rfl
    by_cases e : p = q
    · exact .inl ⟨e, by rw [h]; simp [e]⟩
    · exact .inr ⟨e, by rw [h]; simp [e]⟩

/-- Packs of the first keys. -/
def packSum (g : Gram) (w : List Nat) (E : List (List Nat)) (L : List Key) : Nat := (L.map fun k => (packsOf g w E k).length).sum

structure IS where
  L : List Key
  a : Option Addr
  c : Nat
  B : List (Nat × Blk)
  se : Ents Key

structure KS where
  a : Option Addr
  n : Nat
  c : Nat
  B : List (Nat × Blk)

structure BS where
  i : Nat
  L : List Key
  a : Option Addr
  c : Nat
  B : List (Nat × Blk)
  pe : Ents Key
  se : Ents Key
  cnt : Nat

/-- The list of keys, and which are seen. -/
structure LInv (g : Gram) (w : List Nat) (E : List (List Nat)) (root : Key) (L : List Key) (se : Ents Key) : Prop where
  nd : L.Nodup
  first : root ∈ L
  reach : ∀ k ∈ L, Reachable g w E root k
  seen : ∀ k, Abs.look se k = if k ∈ L then some (.bool true) else none

structure BInv (g : Gram) (w : List Nat) (E : List (List Nat)) (root : Key) (F : Frz) (s : BS) : Prop where
  l : LInv g w E root s.L s.se
  packs : ∀ j k, j < s.i → s.L[j]? = some k → ∃ a n c, Abs.look s.pe k = some (.slice a n c) ∧ Arr tKPack F a n c (packsOf g w E k)
  closed : ∀ j k, j < s.i → s.L[j]? = some k → ∀ p ∈ packsOf g w E k, ∀ q ∈ p.kids, q ∈ s.L
  cnt : s.cnt = packSum g w E (s.L.take s.i)
  le : s.i ≤ s.L.length

theorem BInv.mono {g : Gram} {w : List Nat} {E : List (List Nat)} {root : Key} {F G : Frz} {s : BS} (h : BInv g w E root F s) (hF : Frz.le F G) : BInv g w E root G s :=
  ⟨h.l, fun j k h1 h2 => by obtain ⟨a, n, c, h3, h4⟩ := h.packs j k h1 h2; exact ⟨a, n, c, h3, h4.mono hF⟩, h.closed, h.cnt, h.le⟩

theorem LInv.add {g : Gram} {w : List Nat} {E : List (List Nat)} {root : Key} {L : List Key} {se : Ents Key} (h : LInv g w E root L se) {k : Key} (hk : k ∉ L) (hr : Reachable g w E root k) : LInv g w E root (L ++ [k]) (mset se k (.bool true)) where
  nd := by
    rw [List.nodup_append]
    exact ⟨h.nd, by simp, fun a ha b hb e => by rw [List.mem_singleton.1 hb] at e; exact hk (e ▸ ha)⟩
  first := List.mem_append_left _ h.first
  reach := fun q hq => by
    rcases List.mem_append.1 hq with hq | hq
    · exact h.reach q hq
    · rw [List.mem_singleton.1 hq]; exact hr
  seen := fun q => by
    rw [Abs.look_mset, h.seen]
    by_cases e : q = k
    · subst e; simp
    · simp [e]

theorem packsOf_len {g : Gram} (hg : Valid g) {w : List Nat} {E : List (List Nat)} {k : Key} (hk : k.to ≤ 30) : (packsOf g w E k).length ≤ 32 * 923521 := by
  unfold packsOf
  have := flat_len (packsAt g w E k) 923521 (List.range g.rules.length) fun i _ => packsAt_len (fun r hr => (hg.right r hr).2.1) hk i
  rw [List.length_range] at this
  exact Nat.le_trans this (Nat.mul_le_mul_right _ (hg.range.rules))

theorem packsOf_len12 {g : Gram} (hg : Valid g) {w : List Nat} {E : List (List Nat)} {k : Key} (hk : k.to ≤ 12) : (packsOf g w E k).length ≤ 913952 := by
  unfold packsOf
  have := flat_len (packsAt g w E k) 28561 (List.range g.rules.length) fun i _ => by
    unfold packsAt
    split
    · rename_i r hr
      split
      · rw [List.length_map]
        have h1 := splits_len (w := w) (E := E) (to := k.to) (l := r.right) (i := k.frm)
        have h2 : (k.to + 1) ^ r.right.length ≤ 13 ^ 4 := Nat.le_trans (Nat.pow_le_pow_left (by omega) _) (Nat.pow_le_pow_right (by decide) (hg.right r (List.mem_of_getElem? hr)).2.1)
        have h3 : 13 ^ 4 = 28561 := by decide
        omega
      · simp
    · simp
  rw [List.length_range] at this
  exact Nat.le_trans this (Nat.le_trans (Nat.mul_le_mul_right _ (hg.range.rules)) (by decide))

theorem packSum_take {g : Gram} {w : List Nat} {E : List (List Nat)} {L : List Key} {i : Nat} {k : Key} (h : L[i]? = some k) : packSum g w E (L.take (i + 1)) = packSum g w E (L.take i) + (packsOf g w E k).length := by
  unfold packSum
  rw [List.take_add_one, h]
  simp

theorem packSum_le {g : Gram} (hg : Valid g) {w : List Nat} {E : List (List Nat)} : ∀ (L : List Key), (∀ k ∈ L, k.to ≤ 30) → packSum g w E L ≤ L.length * (32 * 923521)
  | [], _ => by simp [packSum]
  | k :: L, h => by
    have h1 := packSum_le hg (E := E) (w := w) L fun k hk => h k (List.mem_cons_of_mem _ hk)
    have h2 := packsOf_len hg (E := E) (w := w) (h k (List.mem_cons_self ..))
    unfold packSum at h1 ⊢
    rw [List.map_cons, List.sum_cons, List.length_cons, Nat.add_mul, Nat.one_mul]
    omega

/-- What core.Build answers. -/
def BuildRes (g : Gram) (w : List Nat) (E : List (List Nat)) (root : Key) (most : Nat) (F : Frz) (v : Value) : Prop :=
  (∃ S a n c, v = .tuple ⟨[.agg ⟨[.slice a n c, .int .i64 (place S root : Nat)]⟩, .bool true]⟩ ∧ Keys g w E root S ∧ Arr tNode F a n c (S.map (mkNode g w E S)) ∧ packSum g w E S ≤ most) ∨
  (v = .tuple ⟨[.agg ⟨[.slice none 0 0, .int .i64 0]⟩, .bool false]⟩ ∧ ∃ L : List Key, L.Nodup ∧ (∀ k ∈ L, Reachable g w E root k) ∧ most < packSum g w E L)

theorem build_spec (F : Frz) (hL : Laid F) (g : Gram) (hg : Valid g) {ga : Option Addr} {gm gc : Nat} (hr : Arr tRule F ga gm gc g.rules) {b : Option Addr} {n d : Nat} {w : List Nat} (hw : Arr tNat F b n d w) (hw12 : w.length ≤ 12)
    {a : Option Addr} {m c : Nat} {E : List (List Nat)} (hE : Arr (tList tU32) F a m c E) (hE2 : EndsOk g.nons w.length E) (most : Nat) (hmost : most ≤ 4611686018427387904) :
    Abs.Spec CC 96 [.agg ⟨gramCells g ga gm gc⟩, .slice b n d, .slice a m c, .int .i64 most] F [] fun F' v o => o = [] ∧
      ((stepB w E ⟨false, g.start⟩ 0 w.length = false ∧ v = .tuple ⟨[.agg ⟨[.slice none 0 0, .int .i64 (-1)]⟩, .bool true]⟩) ∨
       (stepB w E ⟨false, g.start⟩ 0 w.length = true ∧ BuildRes g w E ⟨⟨false, g.start⟩, 0, w.length⟩ most F' v)) := by
  unfold gramCells
  have hw1 : w.length ≤ 30 := by omega
  have hrl := hr.len
  have hwl := hw.len
  subst hwl
  have hgr := hg.range
  have hgs := hgr.start
  have hEl := hE2.size
  refine Abs.Spec.fn (n := 187) Tryz.func96 rfl rfl fun own => ?_
  refine AW.seq (AW.reg ?_)
  refine WT.boxT zr zr zr zr zr zr (fun i4 hi4 => ?_)
  refine WT.allocT hT zr zr zr zr zr zr (fun i8 hi8 => ?_)
  refine ze hT zr zr zr zr zr ?_; refine WT.nil ?_; refine AW.seq ?_; refine AW.reg ?_; refine ze hT zr zr zr zr zr ?_; refine zl hT 1 zr zr zr zr zr zr me zr ?_
  refine WT.callV Tryz.func74 zr zr zr zr zr zr (gN_spec _ _) (fun v hv => ?_)
  subst hv
  (iterate 3 refine ze hT zr zr zr zr zr ?_)
  refine WT.allocT hT zr zr zr zr zr zr (fun i10 hi10 => ?_)
  refine zs hT 0 0 zr zr zr zr zr zr zr zr zr zr zr zr ?_; refine WT.nil ?_; (iterate 2 refine AW.seq ?_); refine AW.reg ?_; (iterate 2 refine ze hT zr zr zr zr zr ?_); refine zl hT 2 zr zr zr zr zr zr me zr ?_
  refine WT.idxL hT hE zr zr zr zr zr zr zr zr zr (by omega) (fun row hrow b1 off ro cs lx hb1 hp1 hrel => ?_)
  obtain ⟨a2, n2, c2, rfl, hrow2⟩ := hrel
  have hrwl := hE2.row row (List.mem_of_getElem? hrow)
  refine zi (fo := 0) hT (by assumption) (by assumption) zr zr zr zr zr zr ?_
  refine WT.idxL (j := 0) hT hrow2 zr zr zr zr zr zr zr zr zr (by omega) (fun x hx b3 off3 ro3 cs3 lx3 hb3 hp3 hrel3 => ?_)
  obtain rfl : lx3 = _ := hrel3
  have hxb := hE2.bit row (List.mem_of_getElem? hrow) x (List.mem_of_getElem? hx)
  have pwl : 2 ^ (w.length + 1) ≤ 4294967296 := Nat.pow_le_pow_right (j := 32) (by decide) (by omega)
  have hstep : stepB w E ⟨false, g.start⟩ 0 w.length = x.testBit w.length := by
    unfold stepB
    simp only [hrow, hx]
    simp
  refine zi (fo := 0) hT (by assumption) (by assumption) zr zr zr zr zr zr ?_; (iterate 2 refine ze hT zr zr zr zr zr ?_)
  refine WT.shr32 (x := x) (y := w.length) zr zr zr zr zr zr (by omega) ?_
  refine WT.and32 (x := x / 2 ^ w.length) (y := 1) zr zr zr zr zr zr (Nat.lt_of_le_of_lt (Nat.div_le_self _ _) (by omega)) (by decide) ?_
  rw [shift_bit, ← hstep]
  refine ze hT zr zr zr zr zr ?_; refine WT.nil ?_
  refine AW.cond rfl (fun h => ?_) (fun h => ?_)
  · have h0 : stepB w E ⟨false, g.start⟩ 0 w.length = false := by
      cases e : stepB w E ⟨false, g.start⟩ 0 w.length with
      | false => rfl
      | true => rw [e] at h; simp at h
    refine AW.seq ?_; refine AW.reg ?_; refine ze hT zr zr zr zr zr ?_; refine zs hT 1 0 zr zr zr zr zr zr zr zr zr zr zr zr ?_; refine ze hT zr zr zr zr zr ?_; refine WT.nil ?_
    exact AW.ret ⟨_, [], ⟨_, _, ⟨_, rfl, fun G h0 s0 => loadA_cells (s0.has (p := 1) rfl (List.mem_cons_self ..)) (readT_ok hT rfl)⟩, ⟨_, _, rfl, rfl, rfl⟩, rfl⟩, (by repeat (first | exact List.Sublist.refl _ | refine List.Sublist.cons _ ?_)), rfl, .inl ⟨h0, rfl⟩⟩
  · have h1 : stepB w E ⟨false, g.start⟩ 0 w.length = true := by
      cases e : stepB w E ⟨false, g.start⟩ 0 w.length with
      | false => rw [e] at h; simp at h
      | true => rfl
    have hroot : GoodKey g w ⟨⟨false, g.start⟩, 0, w.length⟩ := ⟨by unfold SymOk; simpa using hgs, Nat.zero_le _, Nat.le_refl _⟩
    generalize hrt : (⟨⟨false, g.start⟩, 0, w.length⟩ : Key) = root at hroot ⊢
    refine AW.skip ?_; refine AW.seq ?_; refine AW.reg ?_
    refine WT.makeMap zr zr zr zr (fun im him => ?_)
    refine ze hT zr zr zr zr zr ?_; refine WT.nil ?_; refine AW.seq ?_; refine AW.reg ?_; refine zl hT 1 zr zr zr zr zr zr me zr ?_
    refine WT.buildT hT zr zr zr zr zr zr zr zr zr zr zr zr zr zr (fun il hil => ?_)
    refine ze hT zr zr zr zr zr ?_; refine WT.nil ?_; refine AW.seq ?_; refine AW.reg ?_
    refine WT.makeMap zr zr zr zr (fun is his => ?_)
    refine zl hT 3 zr zr zr zr zr zr me zr ?_
    refine WT.mapIns keyK (key := ⟨⟨false, g.start⟩, 0, w.length⟩) (m := []) hT 0 0 zr zr zr zr zr zr zr zr zr zr zr zr ?_
    (iterate 2 refine ze hT zr zr zr zr zr ?_); refine WT.nil ?_; refine AW.seq ?_; refine AW.reg ?_; refine ze hT zr zr zr zr zr ?_; refine WT.nil ?_; (iterate 2 refine AW.seq ?_); refine AW.reg ?_; refine ze hT zr zr zr zr zr ?_; refine WT.nil ?_
    refine AW.block ?_
    refine AW.loopR (S := BS) (fun s => [(12, .slice s.a s.L.length s.c), (14, .int .i64 (s.cnt : Nat)), (15, .int .i64 (s.i : Nat))])
      (fun s => [(is, .map (entsV keyK s.se))] :: s.B :: [(im, .map (entsV keyK s.pe))] :: [(i10, .cells false [.bool false, .int .i64 g.start, .int .i64 0, .int .i64 w.length])] :: [(i8, .cells false [.slice none 0 0, .int .i64 0])] :: [(i4, .cells false [.int .i64 g.terms, .int .i64 g.nons, .int .i64 g.start, .slice ga gm gc])] :: own)
      (fun s G => Bld tKey G s.a s.L.length s.c s.B s.L ∧ BInv g w E root G s ∧ s.cnt ≤ most) (fun s => 200001 - s.i) ⟨0, [root], some ⟨il, 0, none⟩, 4, [(il, .cells false [.bool false, .int .i64 g.start, .int .i64 0, .int .i64 w.length])], [], mset [] root (.bool true), 0⟩
      (SubK.of_map rfl) (OwnLe.flat (by rw [← hrt]; exact List.Perm.refl _)) ⟨⟨rfl, .inr ⟨il, _, rfl, rfl, rfl, Cells.single (R := tKey) (x := root) (by rw [← hrt]; rfl), by decide⟩⟩, ?_⟩ ?_
    · refine ⟨⟨⟨by simp, List.mem_singleton.2 rfl, fun k hk => by rw [List.mem_singleton.1 hk]; exact .root, fun k => ?_⟩, fun j k hj _ => absurd hj (Nat.not_lt_zero _), fun j k hj _ => absurd hj (Nat.not_lt_zero _), rfl, Nat.zero_le _⟩, Nat.zero_le _⟩
      show Abs.look (mset [] root (.bool true)) k = _
      rw [Abs.look_mset]
      simp [Abs.look]
    · intro s F1 hF1 hP
      obtain ⟨hb, hI, hlim⟩ := hP
      have hgood : ∀ k ∈ s.L, GoodKey g w k := fun k hk => (hI.l.reach k hk).good hg hroot
      have hfew := good_few hg hw1 hgood hI.l.nd
      have hr1 := hr.mono hF1
      have hw1' := hw.mono hF1
      have hE1 := hE.mono hF1
      have hL1 := hL.mono hF1
      (iterate 2 refine AW.seq ?_); refine AW.reg ?_; (iterate 4 refine ze hT zr zr zr zr zr ?_); refine WT.nil ?_
      refine AW.cond rfl (fun h2 => ?_) (fun h2 => ?_)
      · have h2 : s.i < s.L.length := by simpa using h2
        obtain ⟨k, hk⟩ : ∃ k, s.L[s.i]? = some k := ⟨_, List.getElem?_eq_getElem h2⟩
        have hkg := hgood k (List.mem_of_getElem? hk)
        have hkr := hI.l.reach k (List.mem_of_getElem? hk)
        have hpl := packsOf_len hg (E := E) (w := w) (show k.to ≤ 30 by have := hkg.2.2; omega)
        have hsum := packSum_le hg (E := E) (w := w) (s.L.take s.i) (fun q hq => by have := (hgood q (List.mem_of_mem_take hq)).2.2; omega)
        rw [List.length_take, ← hI.cnt] at hsum
        have hcnt : s.cnt ≤ 200000 * 29552672 := Nat.le_trans hsum (Nat.mul_le_mul (by omega) (by decide))
        refine AW.skip ?_; refine AW.seq ?_
        refine AW.block ?_
        refine AW.seq ?_; refine AW.draw (ps := []) zr zr ?_; refine zl hT 5 zr zr zr zr zr zr me zr ?_; (iterate 4 refine ze hT zr zr zr zr zr ?_)
        refine WT.vidx hT hb.vec zr zr zr zr zr zr zr zr zr (by omega) (fun b5 hb5 => ?_)
        refine WT.vldS hT 1 hb.vec hb5 hk zr zr zr zr zr zr zr zr zr (fun l5 hl5 => ?_)
        obtain rfl : l5 = _ := hl5
        refine WT.callF0 Tryz.func105 zr zr zr zr zr zr (packs_spec _ hL1 g hg hr1 hw1' hw1 hE1 hE2 k hkg.2.1 (by have := hkg.2.2; omega)) (fun F2 v hF2 hv => ?_)
        obtain ⟨pa, pn, pc, rfl, hpk⟩ := hv
        have hpkl := hpk.len
        have hb2 := hb.mono hF2
        have hI2 := hI.mono hF2
        refine ze hT zr zr zr zr zr ?_; refine WT.nil ?_; refine And.intro trivial ?_; (iterate 2 refine AW.seq ?_); refine AW.reg ?_; (iterate 3 refine ze hT zr zr zr zr zr ?_); refine za zr zr zr zr zr zr (by omega) ?_; refine ze hT zr zr zr zr zr ?_; refine WT.nil ?_; refine AW.seq ?_; refine AW.reg ?_; (iterate 3 refine ze hT zr zr zr zr zr ?_); refine WT.nil ?_
        refine AW.cond rfl (fun h3 => ?_) (fun h3 => ?_)
        · have h3 : most < s.cnt + pn := by simp at h3; omega
          refine AW.seq ?_; refine AW.reg ?_; refine ze hT zr zr zr zr zr ?_; refine zs hT 4 0 zr zr zr zr zr zr zr zr zr zr zr zr ?_; refine ze hT zr zr zr zr zr ?_; refine WT.nil ?_
          refine AW.ret ⟨_, [], ⟨_, _, ⟨_, rfl, fun G h0 s0 => loadA_cells (s0.has (p := 4) rfl (List.mem_cons_self ..)) (readT_ok hT rfl)⟩, ⟨_, _, rfl, rfl, rfl⟩, rfl⟩, (by repeat (first | exact List.Sublist.refl _ | refine List.Sublist.cons _ ?_)), rfl, .inr ⟨h1, .inr ⟨rfl, s.L.take (s.i + 1), ?_, fun q hq => hI.l.reach q (List.mem_of_mem_take hq), ?_⟩⟩⟩
          · exact (hI.l.nd).sublist (List.take_sublist ..)
          · rw [packSum_take hk, ← hI.cnt, ← hpkl]; exact h3
        · have h3 : s.cnt + pn ≤ most := by simp at h3; omega
          refine AW.skip ?_; refine AW.seq ?_; refine AW.reg ?_; (iterate 3 refine ze hT zr zr zr zr zr ?_)
          refine WT.vidx hT hb2.vec zr zr zr zr zr zr zr zr zr (by omega) (fun b6 hb6 => ?_)
          refine WT.vldS hT 1 hb2.vec hb6 hk zr zr zr zr zr zr zr zr zr (fun l6 hl6 => ?_)
          obtain rfl : l6 = _ := hl6
          refine ze hT zr zr zr zr zr ?_
          refine WT.mapSet keyK (key := k) hT 2 0 zr zr zr zr zr zr zr zr zr zr zr zr ?_
          refine WT.nil ?_; refine AW.seq ?_; refine AW.reg ?_; (iterate 3 refine ze hT zr zr zr zr zr ?_); refine WT.nil ?_
          refine AW.range (S := IS) (fun u => [(12, .slice u.a u.L.length u.c)]) (fun u => [(is, .map (entsV keyK u.se))] :: u.B :: [(im, .map (entsV keyK (mset s.pe k (.slice pa pn pc))))] :: [(i10, .cells false [.bool false, .int .i64 g.start, .int .i64 0, .int .i64 w.length])] :: [(i8, .cells false [.slice none 0 0, .int .i64 0])] :: [(i4, .cells false [.int .i64 g.terms, .int .i64 g.nons, .int .i64 g.start, .slice ga gm gc])] :: own)
            (fun j u G => Bld tKey G u.a u.L.length u.c u.B u.L ∧ LInv g w E root u.L u.se ∧ (∃ x, u.L = s.L ++ x) ∧ ∀ p ∈ (packsOf g w E k).take j, ∀ q ∈ p.kids, q ∈ u.L) pn ⟨s.L, s.a, s.c, s.B, s.se⟩
            zr zr zr zr zr zr zr zr zr (by omega) rfl rfl (fun _ => rfl) (fun _ => rfl) (SubK.of_map rfl) (OwnLe.refl _) ⟨hb2, hI.l, ⟨[], by simp⟩, by simp⟩ ?_ ?_
          · intro j u F3 hF3 hj hP3
            obtain ⟨hb3, hl3, hx3, hc3⟩ := hP3
            have hpk3 := hpk.mono hF3
            refine AW.seq ?_; refine AW.reg ?_
            refine WT.idxL hT hpk3 zr zr zr zr zr zr zr zr zr (by omega) (fun p hpj b7 off7 ro7 cs7 lx7 hb7 hp7 hrel7 => ?_)
            obtain ⟨ka, kn, kc, rfl, hka⟩ := hrel7
            have hkal := hka.len
            have hpm := List.mem_of_getElem? hpj
            have hkl4 : p.kids.length ≤ 4 := by
              obtain ⟨r, hr0, _, _, h4⟩ := mem_packsOf.1 hpm
              rw [splits_kids h4]
              exact (hg.right r (List.mem_of_getElem? hr0)).2.1
            refine zi (fo := 0) hT (by assumption) (by assumption) zr zr zr zr zr zr ?_
            refine WT.allocT hT zr zr zr zr zr zr (fun i18 hi18 => ?_)
            refine zs hT 0 0 zr zr zr zr zr zr zr zr zr zr zr zr ?_; refine WT.nil ?_; refine AW.seq ?_; refine AW.reg ?_; refine ze hT zr zr zr zr zr ?_; refine zl hT 0 zr zr zr zr zr zr me zr ?_; (iterate 2 refine ze hT zr zr zr zr zr ?_); refine WT.nil ?_
            refine AW.range (S := IS) (fun u => [(12, .slice u.a u.L.length u.c)]) (fun u => [(i18, .cells false [.int .i64 p.rule, .slice ka kn kc])] :: [(is, .map (entsV keyK u.se))] :: u.B :: [(im, .map (entsV keyK (mset s.pe k (.slice pa pn pc))))] :: [(i10, .cells false [.bool false, .int .i64 g.start, .int .i64 0, .int .i64 w.length])] :: [(i8, .cells false [.slice none 0 0, .int .i64 0])] :: [(i4, .cells false [.int .i64 g.terms, .int .i64 g.nons, .int .i64 g.start, .slice ga gm gc])] :: own)
              (fun q u G => Bld tKey G u.a u.L.length u.c u.B u.L ∧ LInv g w E root u.L u.se ∧ (∃ x, u.L = s.L ++ x) ∧ (∀ p ∈ (packsOf g w E k).take j, ∀ q ∈ p.kids, q ∈ u.L) ∧ ∀ x ∈ p.kids.take q, x ∈ u.L) kn u
              zr zr zr zr zr zr zr zr zr (by omega) rfl rfl (fun _ => rfl) (fun _ => rfl) (SubK.of_map rfl) (OwnLe.refl _) ⟨hb3, hl3, hx3, hc3, by simp⟩ ?_ ?_
            · intro q z F4 hF4 hq hP4
              obtain ⟨hb4, hl4, hx4, hc4, hd4⟩ := hP4
              have hka4 := hka.mono hF4
              have hgz : ∀ k ∈ z.L, GoodKey g w k := fun k hk => (hl4.reach k hk).good hg hroot
              have hfz := good_few hg hw1 hgz hl4.nd
              refine AW.seq ?_; refine AW.reg ?_
              refine WT.idxL hT hka4 zr zr zr zr zr zr zr zr zr (by omega) (fun x hxq b8 off8 ro8 cs8 lx8 hb8 hp8 hrel8 => ?_)
              obtain rfl : lx8 = _ := hrel8
              have hxr : Reachable g w E root x := .kid hkr hpm (List.mem_of_getElem? hxq)
              refine zi (fo := 0) hT (by assumption) (by assumption) zr zr zr zr zr zr ?_
              refine WT.allocT hT zr zr zr zr zr zr (fun i20 hi20 => ?_)
              refine zs hT 0 0 zr zr zr zr zr zr zr zr zr zr zr zr ?_; refine WT.nil ?_; refine AW.seq ?_; refine AW.reg ?_; refine ze hT zr zr zr zr zr ?_; refine zl hT 0 zr zr zr zr zr zr me zr ?_
              refine WT.lookup1 keyK (key := x) hT 2 zr zr zr zr zr zr zr (List.mem_cons_self ..) zr zr zr ?_
              refine WT.know (v' := .bool (decide (x ∈ z.L))) 101 rfl ?_ ?_
              · rw [hl4.seen]
                by_cases e : x ∈ z.L <;> simp [e]
              refine ze hT zr zr zr zr zr ?_; refine WT.nil ?_
              refine AW.cond rfl (fun h4 => ?_) (fun h4 => ?_)
              · have h4 : x ∉ z.L := by simpa using h4
                refine AW.seq ?_; refine AW.reg ?_; refine ze hT zr zr zr zr zr ?_; refine zl hT 0 zr zr zr zr zr zr me zr ?_
                refine WT.mapSet keyK (key := x) hT 2 0 zr zr zr zr zr zr zr zr zr zr zr zr ?_
                refine WT.nil ?_; refine AW.reg ?_; refine ze hT zr zr zr zr zr ?_; refine zl hT 0 zr zr zr zr zr zr me zr ?_
                refine WT.buildT hT zr zr zr zr zr zr zr zr zr zr zr zr zr zr (fun i9 hi9 => ?_)
                refine WT.appendT (ys := [x]) hT 4 hb4 rfl (fun _ => rfl) zr zr zr zr zr zr zr zr zr zr zr (fun h0 s0 => news_own hT s0 0 zr zr zr zr) (Cells.single (R := tKey) (x := x) rfl) rfl (by decide) (by first | omega | (dsimp only at *; omega)) (fun a5 c5 B5 hB5 => ?_)
                refine ze hT zr zr zr zr zr ?_; refine WT.nil ?_
                have hl1 : z.L.length + 1 = (z.L ++ [x]).length := by simp
                rw [hl1] at hB5 ⊢
                refine ⟨⟨z.L ++ [x], a5, c5, B5, mset z.se x (.bool true)⟩, SubK.of_map rfl, OwnLe.skip _ (OwnLe.skip _ (OwnLe.refl _)), hB5, hl4.add h4 hxr, ?_, fun p' hp' q' hq' => List.mem_append_left _ (hc4 p' hp' q' hq'), ?_⟩
                · obtain ⟨y, hy⟩ := hx4
                  exact ⟨y ++ [x], by dsimp only; rw [hy, List.append_assoc]⟩
                · intro x' hx'
                  rw [List.take_add_one, hxq] at hx'
                  rcases List.mem_append.1 hx' with hx' | hx'
                  · exact List.mem_append_left _ (hd4 x' hx')
                  · obtain rfl := List.mem_singleton.1 hx'
                    exact List.mem_append_right _ (List.mem_singleton.2 rfl)
              · have h4 : x ∈ z.L := by simpa using h4
                refine AW.skip ?_
                refine ⟨z, SubK.of_map rfl, OwnLe.skip _ (OwnLe.refl _), hb4, hl4, hx4, hc4, ?_⟩
                intro x' hx'
                rw [List.take_add_one, hxq] at hx'
                rcases List.mem_append.1 hx' with hx' | hx'
                · exact hd4 x' hx'
                · obtain rfl := List.mem_singleton.1 hx'
                  exact h4
            · intro z F4 hF4 hP4
              obtain ⟨hb4, hl4, hx4, hc4, hd4⟩ := hP4
              rw [List.take_of_length_le (by omega)] at hd4
              skip
              refine ⟨z, SubK.of_map rfl, (by repeat (first | exact OwnLe.refl _ | refine OwnLe.skip _ ?_)), hb4, hl4, hx4, ?_⟩
              rw [List.take_add_one, hpj]
              intro p' hp' q' hq'
              rcases List.mem_append.1 hp' with hp' | hp'
              · exact hc4 p' hp' q' hq'
              · obtain rfl := List.mem_singleton.1 hp'
                exact hd4 q' hq'
          · intro u F3 hF3 hP3
            obtain ⟨hb3, hl3, ⟨x3, hx3⟩, hc3⟩ := hP3
            rw [List.take_of_length_le (by omega)] at hc3
            have hpre : ∀ (j : Nat) (q : Key), s.L[j]? = some q → u.L[j]? = some q := fun j q hq => by
              rw [hx3, List.getElem?_append_left (List.getElem?_eq_some_iff.1 hq).1]; exact hq
            have hpre2 : ∀ (j : Nat) (q : Key), j < s.i + 1 → u.L[j]? = some q → s.L[j]? = some q := fun j q hj hq => by
              rw [hx3, List.getElem?_append_left (by omega)] at hq; exact hq
            refine AW.reg ?_; refine ze hT zr zr zr zr zr ?_; refine za zr zr zr zr zr zr (by omega) ?_; refine ze hT zr zr zr zr zr ?_; refine WT.nil ?_
            refine ⟨⟨s.i + 1, u.L, u.a, u.c, u.B, mset s.pe k (.slice pa pn pc), u.se, s.cnt + pn⟩, ?_, SubK.of_map rfl, OwnLe.refl _, hb3, ?_⟩
            · dsimp only; omega
            · refine ⟨⟨hl3, fun j q hj hq => ?_, fun j q hj hq => ?_, ?_, ?_⟩, h3⟩
              · have hq := hpre2 j q hj hq
                dsimp only
                rw [Abs.look_mset]
                by_cases e : q = k
                · subst e
                  exact ⟨pa, pn, pc, by simp, hpk.mono hF3⟩
                · rw [if_neg e]
                  rcases Nat.lt_succ_iff_lt_or_eq.1 hj with hj | hj
                  · obtain ⟨a9, n9, c9, h9, h10⟩ := hI2.packs j q hj hq
                    exact ⟨a9, n9, c9, h9, h10.mono hF3⟩
                  · subst hj
                    rw [hk] at hq
                    exact absurd (Option.some.inj hq).symm e
              · have hq := hpre2 j q hj hq
                intro p hp x hx
                dsimp only
                rcases Nat.lt_succ_iff_lt_or_eq.1 hj with hj | hj
                · rw [hx3]; exact List.mem_append_left _ (hI.closed j q hj hq p hp x hx)
                · subst hj
                  rw [hk] at hq
                  obtain rfl := Option.some.inj hq
                  exact hc3 p hp x hx
              · dsimp only
                have e : u.L.take (s.i + 1) = s.L.take (s.i + 1) := by
                  rw [hx3, List.take_append_of_le_length (by omega)]
                rw [e, packSum_take hk, ← hI.cnt, ← hpkl]
              · dsimp only
                have := (List.getElem?_eq_some_iff.1 (hpre _ _ hk)).1
                omega
      · have h2 : s.i = s.L.length := by
          have := hI.le
          simp at h2; omega
        refine AW.exit ?_
        refine AW.seq ?_; refine AW.reg ?_; refine ze hT zr zr zr zr zr ?_
        refine WT.call1F 1 Tryz.func125 zr zr zr zr zr zr zr (fun _ => rfl) (kySort_spec _ (keyOrder_cmp _) hb.vec (by omega)) (fun F2 v B2 hF2 hv => ?_)
        refine WT.freezeAll 1 rfl rfl (fun F3 hF3 hB3 => ?_)
        have hSa := hv.arr hF3 hB3
        obtain ⟨hperm, hpw⟩ := sort_facts ltKey_swo s.L
        have hF13 := hF2.trans hF3
        generalize (Go.Sort.sort ltKey s.L.toArray).toList = S at hSa hperm hpw
        have hSl : S.length = s.L.length := hperm.length_eq
        have hmem : ∀ k, k ∈ S ↔ k ∈ s.L := fun k => hperm.mem_iff
        have hK : Keys g w E root S := by
          refine ⟨?_, fun k hk => hI.l.reach k ((hmem k).1 hk), (hmem _).2 hI.l.first, fun k hk p hp q hq => ?_⟩
          · have hnd : S.Nodup := hperm.nodup_iff.2 hI.l.nd
            have := hpw.and (List.nodup_iff_pairwise_ne.1 hnd)
            refine this.imp ?_
            rintro x y ⟨h3, h4⟩
            cases h5 : ltKey x y with
            | true => rfl
            | false => exact absurd (ltKey_anti x y h5 h3) h4
          · obtain ⟨j, hj⟩ := List.mem_iff_getElem?.1 ((hmem k).1 hk)
            have hjl := (List.getElem?_eq_some_iff.1 hj).1
            exact (hmem q).2 (hI.closed j k (by omega) hj p hp q hq)
        have hpk : ∀ k ∈ S, ∃ a n c, Abs.look s.pe k = some (.slice a n c) ∧ Arr tKPack F3 a n c (packsOf g w E k) := fun k hk => by
          obtain ⟨j, hj⟩ := List.mem_iff_getElem?.1 ((hmem k).1 hk)
          have hjl := (List.getElem?_eq_some_iff.1 hj).1
          obtain ⟨a9, n9, c9, h9, h10⟩ := hI.packs j k (by omega) hj
          exact ⟨a9, n9, c9, h9, h10.mono hF13⟩
        have hsumS : packSum g w E S ≤ most := by
          have e1 : packSum g w E S = packSum g w E s.L := (hperm.map _).sum_nat
          have e2 := hI.cnt
          rw [h2, List.take_length] at e2
          omega
        refine WT.nil ?_; refine AW.seq ?_; refine AW.reg ?_
        refine WT.makeMap zr zr zr zr (fun inn hinn => ?_)
        refine ze hT zr zr zr zr zr ?_; refine WT.nil ?_; (iterate 2 refine AW.seq ?_); refine AW.reg ?_; (iterate 3 refine ze hT zr zr zr zr zr ?_); refine WT.nil ?_
        refine AW.range (S := Ents Key) (fun _ => []) (fun ne => [(inn, .map (entsV keyK ne))] :: [(is, .map (entsV keyK s.se))] :: [] :: [(im, .map (entsV keyK s.pe))] :: [(i10, .cells false [.bool false, .int .i64 g.start, .int .i64 0, .int .i64 w.length])] :: [(i8, .cells false [.slice none 0 0, .int .i64 0])] :: [(i4, .cells false [.int .i64 g.terms, .int .i64 g.nons, .int .i64 g.start, .slice ga gm gc])] :: own)
          (fun j ne G => ∀ k, Abs.look ne k = if k ∈ S.take j then some (.int .i64 (place S k : Nat)) else none) s.L.length []
          zr zr zr zr zr zr zr zr zr (by omega) rfl rfl (fun _ => rfl) (fun _ => rfl) (SubK.of_map rfl) (OwnLe.refl _) (fun k => by simp [Abs.look]) ?_ ?_
        · intro j ne F4 hF4 hj hne
          have hSa4 := hSa.mono hF4
          refine AW.seq ?_; refine AW.reg ?_; refine ze hT zr zr zr zr zr ?_
          refine WT.idxL hT hSa4 zr zr zr zr zr zr zr zr zr (by omega) (fun k hkj b8 off8 ro8 cs8 lx8 hb8 hp8 hrel8 => ?_)
          obtain rfl : lx8 = _ := hrel8
          refine zi (fo := 0) hT (by assumption) (by assumption) zr zr zr zr zr zr ?_
          refine WT.allocT hT zr zr zr zr zr zr (fun i23 hi23 => ?_)
          refine ze hT zr zr zr zr zr ?_; refine zs hT 0 0 zr zr zr zr zr zr zr zr zr zr zr zr ?_; refine WT.nil ?_; refine AW.reg ?_; refine ze hT zr zr zr zr zr ?_; refine zl hT 0 zr zr zr zr zr zr me zr ?_; refine ze hT zr zr zr zr zr ?_
          refine WT.mapSet keyK (key := k) hT 1 0 zr zr zr zr zr zr zr zr zr zr zr zr ?_
          refine WT.nil ?_
          refine ⟨mset ne k (.int .i64 (j : Nat)), SubK.of_map rfl, OwnLe.skip _ (OwnLe.refl _), fun q => ?_⟩
          rw [Abs.look_mset, hne, List.take_add_one, hkj]
          by_cases e : q = k
          · subst e
            rw [place_of hK.nodup hkj]; simp
          · simp [e]
        · intro ne F4 hF4 hne
          rw [List.take_of_length_le (by omega)] at hne
          have hSa4 := hSa.mono hF4
          have hpk4 : ∀ k ∈ S, ∃ a n c, Abs.look s.pe k = some (.slice a n c) ∧ Arr tKPack F4 a n c (packsOf g w E k) := fun k hk => by
            obtain ⟨a9, n9, c9, h9, h10⟩ := hpk k hk
            exact ⟨a9, n9, c9, h9, h10.mono hF4⟩
          refine AW.seq ?_; refine AW.reg ?_; refine ze hT zr zr zr zr zr ?_; refine zl hT 4 zr zr zr zr zr zr me zr ?_
          refine WT.lookup1 keyK (key := ⟨⟨false, g.start⟩, 0, w.length⟩) hT 0 zr zr zr zr zr zr zr (List.mem_cons_self ..) zr zr zr ?_
          refine WT.know (v' := .int .i64 (place S root : Nat)) 127 rfl (by rw [hrt, hne, if_pos hK.first]; rfl) ?_
          refine ze hT zr zr zr zr zr ?_
          refine WT.allocT hT zr zr zr zr zr zr (fun i24 hi24 => ?_)
          refine zs hT 0 0 zr zr zr zr zr zr zr zr zr zr zr zr ?_; refine WT.nil ?_; (iterate 2 refine AW.seq ?_); refine AW.reg ?_; (iterate 3 refine ze hT zr zr zr zr zr ?_); refine WT.nil ?_
          refine AW.range (S := KS) (fun _ => []) (fun u => u.B :: [(i24, .cells false [.slice u.a u.n u.c, .int .i64 (place S root : Nat)])] :: [(inn, .map (entsV keyK ne))] :: [(is, .map (entsV keyK s.se))] :: [] :: [(im, .map (entsV keyK s.pe))] :: [(i10, .cells false [.bool false, .int .i64 g.start, .int .i64 0, .int .i64 w.length])] :: [(i8, .cells false [.slice none 0 0, .int .i64 0])] :: [(i4, .cells false [.int .i64 g.terms, .int .i64 g.nons, .int .i64 g.start, .slice ga gm gc])] :: own)
            (fun j u G => Bld tNode G u.a u.n u.c u.B ((S.take j).map (mkNode g w E S))) s.L.length ⟨none, 0, 0, []⟩
            zr zr zr zr zr zr zr zr zr (by omega) rfl rfl (fun _ => rfl) (fun _ => rfl) (SubK.of_map rfl) (OwnLe.flat (List.Perm.refl _)) (by simpa using Bld.nil_ _ _) ?_ ?_
          · intro j u F5 hF5 hj hu
            have hSa5 := hSa4.mono hF5
            have hul := hu.len
            rw [List.length_map, List.length_take] at hul
            refine AW.seq ?_; refine AW.reg ?_
            refine WT.idxL hT hSa5 zr zr zr zr zr zr zr zr zr (by omega) (fun k hkj b8 off8 ro8 cs8 lx8 hb8 hp8 hrel8 => ?_)
            obtain rfl : lx8 = _ := hrel8
            have hkS := List.mem_of_getElem? hkj
            obtain ⟨pa, pn, pc, hlk, hpa⟩ := hpk4 k hkS
            have hpa5 := hpa.mono hF5
            have hpal := hpa.len
            have hkg := (hK.reach k hkS).good hg hroot
            have hpl := packsOf_len12 hg (E := E) (w := w) (show k.to ≤ 12 by have := hkg.2.2; omega)
            refine zi (fo := 0) hT (by assumption) (by assumption) zr zr zr zr zr zr ?_
            refine WT.allocT hT zr zr zr zr zr zr (fun i26 hi26 => ?_)
            refine zs hT 0 0 zr zr zr zr zr zr zr zr zr zr zr zr ?_; refine WT.nil ?_; refine AW.seq ?_; refine AW.reg ?_; refine ze hT zr zr zr zr zr ?_; refine zl hT 0 zr zr zr zr zr zr me zr ?_; refine ze hT zr zr zr zr zr ?_; refine zl hT 0 zr zr zr zr zr zr me zr ?_; refine ze hT zr zr zr zr zr ?_; refine zl hT 0 zr zr zr zr zr zr me zr ?_; refine ze hT zr zr zr zr zr ?_
            refine WT.allocT hT zr zr zr zr zr zr (fun i27 hi27 => ?_)
            refine zs hT 0 0 zr zr zr zr zr zr zr zr zr zr zr zr ?_; refine WT.nil ?_; (iterate 2 refine AW.seq ?_); refine AW.reg ?_; refine ze hT zr zr zr zr zr ?_; refine zl hT 1 zr zr zr zr zr zr me zr ?_
            refine WT.lookup1 keyK (key := k) hT 7 zr zr zr zr zr zr zr (List.mem_cons_self ..) zr zr zr ?_
            rw [hlk]
            refine WT.know (v' := .slice pa pn pc) 144 rfl rfl ?_
            (iterate 2 refine ze hT zr zr zr zr zr ?_); refine WT.nil ?_
            refine AW.range (S := KS) (fun _ => []) (fun z => z.B :: [(i27, .cells false [.bool k.sym.term, .int .i64 k.sym.n, .int .i64 k.frm, .int .i64 k.to, .slice z.a z.n z.c])] :: [(i26, .cells false [.bool k.sym.term, .int .i64 k.sym.n, .int .i64 k.frm, .int .i64 k.to])] :: u.B :: [(i24, .cells false [.slice u.a u.n u.c, .int .i64 (place S root : Nat)])] :: [(inn, .map (entsV keyK ne))] :: [(is, .map (entsV keyK s.se))] :: [] :: [(im, .map (entsV keyK s.pe))] :: [(i10, .cells false [.bool false, .int .i64 g.start, .int .i64 0, .int .i64 w.length])] :: [(i8, .cells false [.slice none 0 0, .int .i64 0])] :: [(i4, .cells false [.int .i64 g.terms, .int .i64 g.nons, .int .i64 g.start, .slice ga gm gc])] :: own)
              (fun q z G => Bld tNPack G z.a z.n z.c z.B (((packsOf g w E k).take q).map (numPack S))) pn ⟨none, 0, 0, []⟩
              zr zr zr zr zr zr zr zr zr (by omega) rfl rfl (fun _ => rfl) (fun _ => rfl) (SubK.of_map rfl) (OwnLe.flat (List.Perm.refl _)) (by simpa using Bld.nil_ _ _) ?_ ?_
            · intro q z F6 hF6 hq hz
              have hpa6 := hpa5.mono hF6
              have hzl := hz.len
              rw [List.length_map, List.length_take] at hzl
              refine AW.seq ?_; refine AW.reg ?_
              refine WT.idxL hT hpa6 zr zr zr zr zr zr zr zr zr (by omega) (fun p hpq b9 off9 ro9 cs9 lx9 hb9 hp9 hrel9 => ?_)
              obtain ⟨ka, kn, kc, rfl, hka⟩ := hrel9
              have hkal := hka.len
              have hpm := List.mem_of_getElem? hpq
              have hkl4 : p.kids.length ≤ 4 := by
                obtain ⟨r, hr0, _, _, h4⟩ := mem_packsOf.1 hpm
                rw [splits_kids h4]
                exact (hg.right r (List.mem_of_getElem? hr0)).2.1
              refine zi (fo := 0) hT (by assumption) (by assumption) zr zr zr zr zr zr ?_
              refine WT.allocT hT zr zr zr zr zr zr (fun i29 hi29 => ?_)
              refine zs hT 0 0 zr zr zr zr zr zr zr zr zr zr zr zr ?_; refine WT.nil ?_; refine AW.seq ?_; refine AW.reg ?_; refine ze hT zr zr zr zr zr ?_; refine zl hT 0 zr zr zr zr zr zr me zr ?_; refine ze hT zr zr zr zr zr ?_
              refine WT.allocT hT zr zr zr zr zr zr (fun i30 hi30 => ?_)
              refine zs hT 0 0 zr zr zr zr zr zr zr zr zr zr zr zr ?_; refine WT.nil ?_; (iterate 2 refine AW.seq ?_); refine AW.reg ?_; refine ze hT zr zr zr zr zr ?_; refine zl hT 1 zr zr zr zr zr zr me zr ?_; (iterate 2 refine ze hT zr zr zr zr zr ?_); refine WT.nil ?_
              refine AW.range (S := KS) (fun _ => []) (fun y => y.B :: [(i30, .cells false [.int .i64 p.rule, .slice y.a y.n y.c])] :: [(i29, .cells false [.int .i64 p.rule, .slice ka kn kc])] :: z.B :: [(i27, .cells false [.bool k.sym.term, .int .i64 k.sym.n, .int .i64 k.frm, .int .i64 k.to, .slice z.a z.n z.c])] :: [(i26, .cells false [.bool k.sym.term, .int .i64 k.sym.n, .int .i64 k.frm, .int .i64 k.to])] :: u.B :: [(i24, .cells false [.slice u.a u.n u.c, .int .i64 (place S root : Nat)])] :: [(inn, .map (entsV keyK ne))] :: [(is, .map (entsV keyK s.se))] :: [] :: [(im, .map (entsV keyK s.pe))] :: [(i10, .cells false [.bool false, .int .i64 g.start, .int .i64 0, .int .i64 w.length])] :: [(i8, .cells false [.slice none 0 0, .int .i64 0])] :: [(i4, .cells false [.int .i64 g.terms, .int .i64 g.nons, .int .i64 g.start, .slice ga gm gc])] :: own)
                (fun e y G => Bld tNat G y.a y.n y.c y.B ((p.kids.take e).map (place S))) kn ⟨none, 0, 0, []⟩
                zr zr zr zr zr zr zr zr zr (by omega) rfl rfl (fun _ => rfl) (fun _ => rfl) (SubK.of_map rfl) (OwnLe.flat (List.Perm.refl _)) (by simpa using Bld.nil_ _ _) ?_ ?_
              · intro e y F7 hF7 he hy
                have hka7 := hka.mono hF7
                have hyl := hy.len
                rw [List.length_map, List.length_take] at hyl
                refine AW.seq ?_; refine AW.reg ?_
                refine WT.idxL hT hka7 zr zr zr zr zr zr zr zr zr (by omega) (fun x hxe b10 off10 ro10 cs10 lx10 hb10 hp10 hrel10 => ?_)
                obtain rfl : lx10 = _ := hrel10
                have hxS := hK.closed k hkS p hpm x (List.mem_of_getElem? hxe)
                refine zi (fo := 0) hT (by assumption) (by assumption) zr zr zr zr zr zr ?_
                refine WT.allocT hT zr zr zr zr zr zr (fun i32 hi32 => ?_)
                refine zs hT 0 0 zr zr zr zr zr zr zr zr zr zr zr zr ?_; refine WT.nil ?_
                refine AW.draw (ps := [(1, 5)]) rfl rfl ?_
                refine ze hT zr zr zr zr zr ?_; refine zl hT 2 zr zr zr zr zr zr me zr ?_; refine ze hT zr zr zr zr zr ?_; refine zl hT 0 zr zr zr zr zr zr me zr ?_
                refine WT.lookup1 keyK (key := x) hT 9 zr zr zr zr zr zr zr (List.mem_cons_self ..) zr zr zr ?_
                refine WT.know (v' := .int .i64 (place S x : Nat)) 164 rfl (by rw [hne, if_pos hxS]; rfl) ?_
                skip
                refine WT.buildT hT zr zr zr zr zr zr zr zr zr zr zr zr zr zr (fun i9 hi9 => ?_)
                refine WT.appendT (ys := [place S x]) hT 2 hy rfl (fun _ => rfl) zr zr zr zr zr zr zr zr zr zr zr (fun h0 s0 => news_own hT s0 0 zr zr zr zr) (Cells.single (R := tNat) (x := place S x) rfl) rfl (by decide) (by first | omega | (dsimp only at *; omega)) (fun a5 c5 B5 hB5 => ?_)
                refine ze hT zr zr zr zr zr ?_; refine zs hT 3 0 zr zr zr zr zr zr zr zr zr zr zr zr ?_; refine WT.nil ?_
                refine ⟨(by repeat (first | exact trivial | refine recs_pair rfl rfl (by first | exact keep0 | exact keep1 (keeps_frz (by assumption)) | exact kp 0 0 me me | exact kp 1 1 me me | exact kp 2 2 me me | exact kp 3 3 me me | exact kp 4 4 me me | exact kp 5 5 me me | exact kp 6 6 me me | exact kp 0 1 me me | exact kp 1 2 me me | exact kp 2 3 me me | exact kp 3 4 me me | exact kp 4 5 me me | exact kp 5 6 me me | exact kp 6 7 me me) ?_)), ?_⟩
                refine ⟨⟨a5, y.n + 1, c5, B5⟩, SubK.of_map rfl, OwnLe.skip _ (OwnLe.skip _ (OwnLe.refl _)), ?_⟩
                dsimp only
                rw [List.take_add_one, hxe, List.map_append]
                exact hB5
              · intro y F7 hF7 hy
                rw [List.take_of_length_le (by omega)] at hy
                refine AW.freezeAll 0 rfl rfl (fun F8 hF8 hB8 => ?_)
                have hyk := hy.frozen hF8 hB8
                have hz8 := (hz.mono hF7).mono hF8
                refine AW.reg ?_; refine ze hT zr zr zr zr zr ?_; refine zl hT 4 zr zr zr zr zr zr me zr ?_; refine zl hT 1 zr zr zr zr zr zr me zr ?_
                refine WT.buildT hT zr zr zr zr zr zr zr zr zr zr zr zr zr zr (fun i9 hi9 => ?_)
                refine WT.appendT (ys := [numPack S p]) hT 4 hz8 rfl (fun _ => rfl) zr zr zr zr zr zr zr zr zr zr zr (fun h0 s0 => news_own hT s0 0 zr zr zr zr) (Cells.single (R := tNPack) (x := numPack S p) ⟨_, _, _, rfl, hyk, by show (p.kids.map (place S)).length ≤ _; rw [List.length_map]; omega⟩) rfl (by decide) (by first | omega | (dsimp only at *; omega)) (fun a5 c5 B5 hB5 => ?_)
                refine ze hT zr zr zr zr zr ?_; refine zs hT 5 0 zr zr zr zr zr zr zr zr zr zr zr zr ?_; refine WT.nil ?_
                refine ⟨⟨a5, z.n + 1, c5, B5⟩, SubK.of_map rfl, OwnLe.skip _ (OwnLe.skip _ (OwnLe.skip _ (OwnLe.skip _ (OwnLe.refl _)))), ?_⟩
                dsimp only
                rw [List.take_add_one, hpq, List.map_append]
                exact hB5
            · intro z F6 hF6 hz
              rw [List.take_of_length_le (by omega)] at hz
              refine AW.freezeAll 0 rfl rfl (fun F7 hF7 hB7 => ?_)
              have hzk := hz.frozen hF7 hB7
              have hu7 := (hu.mono hF6).mono hF7
              have hzl := hzk.len
              rw [List.length_map] at hzl
              refine AW.seq ?_; refine AW.reg ?_; refine ze hT zr zr zr zr zr ?_; refine zl hT 1 zr zr zr zr zr zr me zr ?_
              refine WT.callV Tryz.func127 zr zr zr zr zr zr (sortStableP_spec _ hzk (node_psorted hK hkS) (by omega)) (fun v hv => ?_)
              refine WT.nil ?_; refine AW.reg ?_; refine ze hT zr zr zr zr zr ?_; refine zl hT 4 zr zr zr zr zr zr me zr ?_; refine zl hT 1 zr zr zr zr zr zr me zr ?_
              refine WT.buildT hT zr zr zr zr zr zr zr zr zr zr zr zr zr zr (fun i9 hi9 => ?_)
              refine WT.appendT (ys := [mkNode g w E S k]) hT 4 hu7 rfl (fun _ => rfl) zr zr zr zr zr zr zr zr zr zr zr (fun h0 s0 => news_own hT s0 0 zr zr zr zr) (Cells.single (R := tNode) (x := mkNode g w E S k) ⟨_, _, _, rfl, hzk⟩) rfl (by decide) (by first | omega | (dsimp only at *; omega)) (fun a5 c5 B5 hB5 => ?_)
              refine ze hT zr zr zr zr zr ?_; refine zs hT 5 0 zr zr zr zr zr zr zr zr zr zr zr zr ?_; refine WT.nil ?_
              refine ⟨⟨a5, u.n + 1, c5, B5⟩, SubK.of_map rfl, OwnLe.skip _ (OwnLe.skip _ (OwnLe.skip _ (OwnLe.skip _ (OwnLe.refl _)))), ?_⟩
              dsimp only
              rw [List.take_add_one, hkj, List.map_append]
              exact hB5
          · intro u F5 hF5 hu
            rw [List.take_of_length_le (by omega)] at hu
            refine AW.freezeAll 0 rfl rfl (fun F6 hF6 hB6 => ?_)
            have huk := hu.frozen hF6 hB6
            refine AW.seq ?_; refine AW.reg ?_; refine zl hT 1 zr zr zr zr zr zr me zr ?_; refine zs hT 7 0 zr zr zr zr zr zr zr zr zr zr zr zr ?_; refine ze hT zr zr zr zr zr ?_; refine WT.nil ?_
            exact AW.ret ⟨_, [], ⟨_, _, ⟨_, rfl, fun G h0 s0 => loadA_cells (s0.has (p := 7) rfl (List.mem_cons_self ..)) (readT_ok hT rfl)⟩, ⟨_, _, rfl, rfl, rfl⟩, rfl⟩, (by repeat (first | exact List.Sublist.refl _ | refine List.Sublist.cons _ ?_)), rfl, .inr ⟨h1, .inl ⟨S, u.a, u.n, u.c, rfl, hK, huk, hsumS⟩⟩⟩
end Go.Proofs.D

set_option linter.unusedVariables false
set_option maxRecDepth 20000
set_option maxHeartbeats 0
open Go Go.Abs Go.Proofs Go.Proofs.D
namespace Go.Proofs.D

/-! ### how many trees -/
def prodN : List Nat → Nat
  | [] => 1
  | a :: l => a * prodN l

def leafN (x : Node) : Nat := if x.key.sym.term = true then 1 else 0
def packN (f : Nat → Nat) (p : NPack) : Nat := prodN (p.kids.map f)

/-- How many trees of a depth a node has. -/
def nodeT (Ns : List Node) : Nat → Nat → Nat
  | 0, _ => 0
  | d + 1, v => match Ns[v]? with
    | some x => leafN x + (x.packs.map (packN (nodeT Ns d))).sum
    | none => 0

/-- A sequence that stands still from somewhere on. -/
def Still (T : Nat → Nat) (c : Nat) : Prop := ∃ D, ∀ d, D ≤ d → T d = c
theorem Still.uniq {T : Nat → Nat} {a b : Nat} (h : Still T a) (h2 : Still T b) : a = b := by
  obtain ⟨D, h⟩ := h
  obtain ⟨D2, h2⟩ := h2
  rw [← h (max D D2) (by omega), h2 (max D D2) (by omega)]

noncomputable def limN (T : Nat → Nat) : Nat := @dite _ (∃ c, Still T c) (Classical.propDecidable _) (fun h => h.choose) (fun _ => 0)
theorem Still.lim {T : Nat → Nat} {c : Nat} (h : Still T c) : Still T (limN T) := by
  unfold limN
  rw [dif_pos ⟨c, h⟩]
  exact (⟨c, h⟩ : ∃ c, Still T c).choose_spec

def Kid (Ns : List Node) (u v : Nat) : Prop := ∃ x p, Ns[v]? = some x ∧ p ∈ x.packs ∧ u ∈ p.kids

/-- The path from a node down to another one. -/
inductive Path (Ns : List Node) : Nat → Nat → Prop
  | one {v u : Nat} : Kid Ns u v → Path Ns v u
  | step {v u z : Nat} : Path Ns v u → Kid Ns z u → Path Ns v z

theorem Path.trans {Ns : List Node} {a b c : Nat} (h : Path Ns a b) (h2 : Path Ns b c) : Path Ns a c := by
  induction h2 with
  | one k => exact .step h k
  | step _ k ih => exact .step ih k

/-! ### a cycle has ever more trees -/
def Unbound (T : Nat → Nat) : Prop := ∀ B, ∃ d, B ≤ T d

section
variable {Ns : List Node} (hpr : ∀ v, v < Ns.length → ∃ d, 1 ≤ nodeT Ns d v) (hkid : ∀ u v, Kid Ns u v → u < Ns.length)
include hpr hkid

omit hkid in
end

/-! ### the count -/
def MAXC : Nat := 1000000000

/-- What core.Count answers for a sequence: how many there are, limited, or -1 for ever more. -/
def CountVal (T : Nat → Nat) (c : Int) : Prop := (∃ n, Still T n ∧ c = (min n MAXC : Nat)) ∨ (Unbound T ∧ c = -1)

end Go.Proofs.D

set_option linter.unusedVariables false
set_option maxRecDepth 20000
set_option maxHeartbeats 0
open Go Go.Abs Go.Proofs Go.Proofs.D
namespace Go.Proofs.D

/-- A number's cell. -/
abbrev ci (x : Nat) : Value := .int .i64 (x : Int)

/-- What the closure in core.Count has at hand. -/
structure CntC (F : Frz) (i1 i2 i3 i4 is ic cap : Nat) (na : Option Addr) (nn nc : Nat) (root : Int) : Prop where
  st : F i1 = some (.cells false [.slice (some ⟨is, 0, none⟩) nn cap])
  f : F i2 = some (.cells false [.slice na nn nc, .int .i64 root])
  ct : F i3 = some (.cells false [.slice (some ⟨ic, 0, none⟩) nn cap])
  self : F i4 = some (.cells false [.func (.func 99) ⟨[]⟩ ⟨[.pointer (some ⟨i1, 0, none⟩), .pointer (some ⟨i2, 0, none⟩), .pointer (some ⟨i3, 0, none⟩), .pointer (some ⟨i4, 0, none⟩)]⟩])

theorem CntC.mono {F G : Frz} {i1 i2 i3 i4 is ic cap : Nat} {na : Option Addr} {nn nc : Nat} {root : Int} (h : CntC F i1 i2 i3 i4 is ic cap na nn nc root) (hF : Frz.le F G) : CntC G i1 i2 i3 i4 is ic cap na nn nc root :=
  ⟨hF _ _ h.st, hF _ _ h.f, hF _ _ h.ct, hF _ _ h.self⟩

structure CInv (Ns : List Node) (st ct : List Nat) : Prop where
  l1 : st.length = Ns.length
  l2 : ct.length = Ns.length
  zero : ∀ u : Nat, st[u]? = some 0 → ct[u]? = some 0
  done : ∀ u : Nat, st[u]? = some 2 → ∃ c, Still (fun d => nodeT Ns d u) c ∧ ct[u]? = some (min c MAXC)
  vals : ∀ (u x : Nat), st[u]? = some x → x ≤ 2
  bnd : ∀ (u x : Nat), ct[u]? = some x → x ≤ MAXC

/-- What a visit leaves. -/
structure Visited (Ns : List Node) (st ct st' ct' : List Nat) (v : Nat) : Prop where
  inv : CInv Ns st' ct'
  at_ : st'[v]? = some 2
  old : ∀ (u x : Nat), st[u]? = some x → x ≠ 0 → st'[u]? = some x ∧ ct'[u]? = ct[u]?
  new : ∀ u : Nat, st'[u]? = some 1 → st[u]? = some 1
  fewer : st'.count 0 ≤ st.count 0

def CntB (is ic : Nat) (st ct : List Nat) : List (Nat × Blk) := [(is, .cells false (st.map ci)), (ic, .cells false (ct.map ci))]

structure FOk (Ns : List Node) : Prop where
  few : Ns.length ≤ 1000000
  packs : ∀ x ∈ Ns, x.packs.length ≤ 1000000
  kid : ∀ u v, Kid Ns u v → u < Ns.length

/-- The loops of a visit. -/
structure VLoop (Ns : List Node) (st ct : List Nat) (v : Nat) (s c : List Nat) (val : Nat) : Prop where
  inv : CInv Ns s c
  at_ : s[v]? = some 1
  old : ∀ (u y : Nat), st[u]? = some y → y ≠ 0 → s[u]? = some y ∧ c[u]? = ct[u]?
  new : ∀ u : Nat, s[u]? = some 1 → u = v ∨ st[u]? = some 1
  fewer : s.count 0 < st.count 0
  val : c[v]? = some (min val MAXC)

theorem VLoop.visit {Ns : List Node} {st ct : List Nat} {v : Nat} {s c s' c' : List Nat} {val u : Nat} (h : VLoop Ns st ct v s c val) (hv : Visited Ns s c s' c' u) : VLoop Ns st ct v s' c' val where
  inv := hv.inv
  at_ := (hv.old v 1 h.at_ (by decide)).1
  old := fun u y h1 h2 => by
    obtain ⟨h3, h4⟩ := h.old u y h1 h2
    obtain ⟨h5, h6⟩ := hv.old u y h3 h2
    exact ⟨h5, h6.trans h4⟩
  new := fun u h1 => h.new u (hv.new u h1)
  fewer := Nat.lt_of_le_of_lt hv.fewer h.fewer
  val := by rw [(hv.old v 1 h.at_ (by decide)).2]; exact h.val

/-- A node's number of trees, where it is finite. -/
noncomputable def limT (Ns : List Node) (u : Nat) : Nat := limN fun d => nodeT Ns d u

theorem CInv.lim {Ns : List Node} {s c : List Nat} (h : CInv Ns s c) {u : Nat} (hu : s[u]? = some 2) : Still (fun d => nodeT Ns d u) (limT Ns u) ∧ c[u]? = some (min (limT Ns u) MAXC) := by
  obtain ⟨x, h1, h2⟩ := h.done u hu
  have h3 := h1.lim
  have e : limN (fun d => nodeT Ns d u) = x := h3.uniq h1
  unfold limT
  rw [e]
  exact ⟨h1, h2⟩

theorem VLoop.start {Ns : List Node} {st ct : List Nat} {v : Nat} (hI : CInv Ns st ct) (hv : v < Ns.length) (hx : st[v]? = some 0) (hst1 : (st.set v 1).count 0 < st.count 0) (x : Nat) (hx1 : x ≤ 1) : VLoop Ns st ct v (st.set v 1) (ct.set v x) x where
  inv := by
    have l1 := hI.l1
    have l2 := hI.l2
    refine ⟨by simp [hI.l1], by simp [hI.l2], fun u hu => ?_, fun u hu => ?_, fun u y hu => ?_, fun u y hu => ?_⟩
    · by_cases e : u = v
      · subst e; rw [List.getElem?_set_self (by omega)] at hu; cases hu
      · rw [List.getElem?_set_ne (Ne.symm e)] at hu ⊢; exact hI.zero u hu
    · by_cases e : u = v
      · subst e; rw [List.getElem?_set_self (by omega)] at hu; cases hu
      · rw [List.getElem?_set_ne (Ne.symm e)] at hu ⊢; exact hI.done u hu
    · by_cases e : u = v
      · subst e; rw [List.getElem?_set_self (by omega)] at hu; cases hu; decide
      · rw [List.getElem?_set_ne (Ne.symm e)] at hu; exact hI.vals u y hu
    · by_cases e : u = v
      · subst e; rw [List.getElem?_set_self (by omega)] at hu; cases hu; exact Nat.le_trans hx1 (by decide)
      · rw [List.getElem?_set_ne (Ne.symm e)] at hu; exact hI.bnd u y hu
  at_ := by rw [List.getElem?_set_self (by rw [hI.l1]; exact hv)]
  old := fun u y h1 h2 => by
    have e : u ≠ v := by rintro rfl; rw [hx] at h1; exact h2 (Option.some.inj h1).symm
    rw [List.getElem?_set_ne (Ne.symm e), List.getElem?_set_ne (Ne.symm e)]
    exact ⟨h1, rfl⟩
  new := fun u h1 => by
    by_cases e : u = v
    · exact .inl e
    · rw [List.getElem?_set_ne (Ne.symm e)] at h1; exact .inr h1
  fewer := hst1
  val := by
    rw [List.getElem?_set_self (by rw [hI.l2]; exact hv)]
    rw [Nat.min_eq_left (Nat.le_trans hx1 (by decide))]

theorem VLoop.finish {Ns : List Node} {st ct : List Nat} {v : Nat} {s c : List Nat} {val : Nat} (h : VLoop Ns st ct v s c val) (hx : st[v]? = some 0) (hs : Still (fun d => nodeT Ns d v) val) : Visited Ns st ct (s.set v 2) c v := by
  have hv : v < s.length := (List.getElem?_eq_some_iff.1 h.at_).1
  refine ⟨⟨by simp [h.inv.l1], h.inv.l2, fun u hu => ?_, fun u hu => ?_, fun u y hu => ?_, h.inv.bnd⟩, by rw [List.getElem?_set_self hv], fun u y h1 h2 => ?_, fun u h1 => ?_, ?_⟩
  · by_cases e : u = v
    · subst e; rw [List.getElem?_set_self hv] at hu; cases hu
    · rw [List.getElem?_set_ne (Ne.symm e)] at hu; exact h.inv.zero u hu
  · by_cases e : u = v
    · subst e; exact ⟨val, hs, h.val⟩
    · rw [List.getElem?_set_ne (Ne.symm e)] at hu; exact h.inv.done u hu
  · by_cases e : u = v
    · subst e; rw [List.getElem?_set_self hv] at hu; cases hu; decide
    · rw [List.getElem?_set_ne (Ne.symm e)] at hu; exact h.inv.vals u y hu
  · have e : u ≠ v := by rintro rfl; rw [hx] at h1; exact h2 (Option.some.inj h1).symm
    rw [List.getElem?_set_ne (Ne.symm e)]
    exact h.old u y h1 h2
  · by_cases e : u = v
    · subst e; rw [List.getElem?_set_self hv] at h1; cases h1
    · rw [List.getElem?_set_ne (Ne.symm e)] at h1
      rcases h.new u h1 with h3 | h3
      · exact absurd h3 e
      · exact h3
  · have := List.count_set (a := 2) (b := 0) hv
    have h5 : s[v] = 1 := by have := h.at_; rw [List.getElem?_eq_getElem hv] at this; exact Option.some.inj this
    rw [this, h5]
    simp
    exact Nat.le_of_lt h.fewer

structure VSt where
  st : List Nat
  ct : List Nat
  x : Nat

/-- Nodes that all have a tree. -/
def Prod (Ns : List Node) : Prop := ∀ v, v < Ns.length → ∃ d, 1 ≤ nodeT Ns d v

end Go.Proofs.D

set_option linter.unusedVariables false
set_option maxRecDepth 20000
set_option maxHeartbeats 0
open Go Go.Abs Go.Proofs Go.Proofs.D
namespace Go.Proofs.D

/-! ### trees of a grammar, counted -/
def listT (f : Sym → Nat → Nat → Nat) : List Sym → Nat → Nat → Nat
  | [], i, j => if i = j then 1 else 0
  | s :: l, i, j => ((List.range (j + 1)).map fun m => f s i m * listT f l m j).sum

/-- How many trees of a depth a symbol has over a part of a word. -/
def symT (g : Gram) (w : List Nat) : Nat → Sym → Nat → Nat → Nat
  | 0, _, _, _ => 0
  | d + 1, s, i, j => if s.term = true then (if w[i]? = some s.n ∧ j = i + 1 then 1 else 0)
      else (g.rules.map fun r => if r.left = s.n then listT (symT g w d) r.right i j else 0).sum

/-! ### a forest's nodes have as many trees as the grammar says -/
/-- A key that the table of ends lets stand. -/
def StepK (w : List Nat) (E : List (List Nat)) (k : Key) : Prop := stepB w E k.sym k.frm k.to = true

theorem splits_step {w : List Nat} {E : List (List Nat)} {to : Nat} : ∀ {l : List Sym} {i : Nat} {ks : List Key}, ks ∈ splits w E to l i → ∀ q ∈ ks, StepK w E q
  | [], i, ks, h, q, hq => by
    unfold splits at h
    split at h
    · rw [List.mem_singleton.1 h] at hq; cases hq
    · cases h
  | s :: l, i, ks, h, q, hq => by
    unfold splits at h
    obtain ⟨m, _, hm⟩ := List.mem_flatMap.1 h
    split at hm
    · rename_i hs
      obtain ⟨ks', h2, rfl⟩ := List.mem_map.1 hm
      rcases List.mem_cons.1 hq with rfl | hq
      · exact hs
      · exact splits_step h2 q hq
    · cases hm

theorem Reachable.step {g : Gram} {w : List Nat} {E : List (List Nat)} {root k : Key} (h : Reachable g w E root k) (hr : StepK w E root) : StepK w E k := by
  cases h with
  | root => exact hr
  | kid _ hp hq =>
    obtain ⟨r, _, _, _, h3⟩ := mem_packsOf.1 hp
    exact splits_step h3 _ hq

theorem nodes_ok {g : Gram} (hg : Valid g) {w : List Nat} (hw : w.length ≤ 12) {E : List (List Nat)} {root : Key} {S : List Key} (hK : Keys g w E root S) (hroot : GoodKey g w root) : FOk (S.map (mkNode g w E S)) where
  few := by
    rw [List.length_map]
    exact Nat.le_trans (good_few hg (by omega) (fun k hk => (hK.reach k hk).good hg hroot) hK.nodup) (by decide)
  packs := fun x hx => by
    obtain ⟨k, hk, rfl⟩ := List.mem_map.1 hx
    have hgood := (hK.reach k hk).good hg hroot
    have := packsOf_len12 hg (E := E) (w := w) (show k.to ≤ 12 by have := hgood.2.2; omega)
    unfold mkNode
    rw [List.length_map]; omega
  kid := fun u v h => by
    obtain ⟨x, p, hx, hp, hu⟩ := h
    rw [List.getElem?_map] at hx
    cases hk : S[v]? with
    | none => rw [hk] at hx; cases hx
    | some k =>
      rw [hk] at hx
      obtain rfl := Option.some.inj hx
      obtain ⟨p', hp', rfl⟩ := List.mem_map.1 hp
      obtain ⟨q, hq, rfl⟩ := List.mem_map.1 hu
      have := hK.closed k (List.mem_of_getElem? hk) p' hp' q hq
      rw [List.length_map]
      exact List.idxOf_lt_length_of_mem this
end Go.Proofs.D

set_option linter.unusedVariables false
set_option maxRecDepth 20000
set_option maxHeartbeats 0
open Go Go.Abs Go.Proofs Go.Proofs.D
namespace Go.Proofs.D

def rootKey (g : Gram) (w : List Nat) : Key := ⟨⟨false, g.start⟩, 0, w.length⟩

theorem root_good {g : Gram} (hg : Valid g) (w : List Nat) : GoodKey g w (rootKey g w) := ⟨by unfold SymOk rootKey; simpa using hg.range.start, Nat.zero_le _, Nat.le_refl _⟩

/-- The forest over a table of ends. -/
def ForestV (g : Gram) (w : List Nat) (E : List (List Nat)) (F : Frz) (v : Value) : Prop :=
  (stepB w E ⟨false, g.start⟩ 0 w.length = false ∧ v = .agg ⟨[.slice none 0 0, .int .i64 (-1)]⟩) ∨
  (stepB w E ⟨false, g.start⟩ 0 w.length = true ∧ ∃ S a n c, v = .agg ⟨[.slice a n c, .int .i64 (place S (rootKey g w) : Nat)]⟩ ∧ Keys g w E (rootKey g w) S ∧ Arr tNode F a n c (S.map (mkNode g w E S)))

theorem ForestV.mono {g : Gram} {w : List Nat} {E : List (List Nat)} {F G : Frz} {v : Value} (h : ForestV g w E F v) (hF : Frz.le F G) : ForestV g w E G v := by
  rcases h with h | ⟨h1, S, a, n, c, h2, h3, h4⟩
  · exact .inl h
  · exact .inr ⟨h1, S, a, n, c, h2, h3, h4.mono hF⟩

/-! ### forest.Make, forest.Of -/
/-- A forest, or too many packs. -/
def MakeRes (g : Gram) (w : List Nat) (E : List (List Nat)) (F : Frz) (v : Value) : Prop :=
  (∃ s a n c r, s = .agg ⟨[.slice a n c, .int .i64 r]⟩ ∧ v = .tuple ⟨[s, .int .i64 0]⟩ ∧ ForestV g w E F s ∧ ∀ S, Keys g w E (rootKey g w) S → stepB w E ⟨false, g.start⟩ 0 w.length = true → packSum g w E S ≤ 20000) ∨
  (v = .tuple ⟨[.agg ⟨[.slice none 0 0, .int .i64 0]⟩, .int .i64 2]⟩ ∧ stepB w E ⟨false, g.start⟩ 0 w.length = true ∧ ∃ L : List Key, L.Nodup ∧ (∀ k ∈ L, Reachable g w E (rootKey g w) k) ∧ 20000 < packSum g w E L)

theorem keys_uniq {g : Gram} {w : List Nat} {E : List (List Nat)} {root : Key} {S S' : List Key} (h : Keys g w E root S) (h' : Keys g w E root S') : S = S' := by
  have hp : S.Perm S' := by
    rw [List.perm_ext_iff_of_nodup h.nodup h'.nodup]
    exact fun k => ⟨fun hk => h'.all (h.reach k hk), fun hk => h.all (h'.reach k hk)⟩
  refine List.Perm.eq_of_pairwise (le := fun x y => ltKey x y = true) (fun a b _ _ h1 h2 => ?_) h.sorted h'.sorted hp
  have := ltKey_swo.trans _ _ _ h1 h2
  rw [ltKey_swo.irrefl] at this; cases this

theorem make_spec (F : Frz) (hL : Laid F) (g : Gram) (hg : Valid g) {ga : Option Addr} {gm gc : Nat} (hr : Arr tRule F ga gm gc g.rules) {b : Option Addr} {n d : Nat} {w : List Nat} (hw : Arr tNat F b n d w) (hw12 : w.length ≤ 12)
    {a : Option Addr} {m c : Nat} {E : List (List Nat)} (hE : Arr (tList tU32) F a m c E) (hE2 : EndsOk g.nons w.length E) :
    Abs.Spec CC 63 [.agg ⟨gramCells g ga gm gc⟩, .slice b n d, .slice a m c] F [] fun F' v o => o = [] ∧ MakeRes g w E F' v := by
  unfold gramCells
  refine Abs.Spec.fn (n := 21) Tryz.func63 rfl rfl fun own => ?_
  refine AW.seq (AW.reg ?_)
  refine WT.boxT zr zr zr zr zr zr (fun i2 hi2 => ?_)
  refine WT.allocT hT zr zr zr zr zr zr (fun i4 hi4 => ?_)
  refine ze hT zr zr zr zr zr ?_; refine WT.nil ?_; refine AW.seq ?_; refine AW.reg ?_; refine zl hT 1 zr zr zr zr zr zr me zr ?_; (iterate 2 refine ze hT zr zr zr zr zr ?_)
  refine WT.callF0 Tryz.func96 zr zr zr zr zr zr (build_spec _ hL g hg hr hw hw12 hE hE2 20000 (by decide)) (fun F2 v hF2 hv => ?_)
  have hres : (∃ a n c r, v = .tuple ⟨[.agg ⟨[.slice a n c, .int .i64 r]⟩, .bool true]⟩ ∧ ForestV g w E F2 (.agg ⟨[.slice a n c, .int .i64 r]⟩) ∧ ∀ S, Keys g w E (rootKey g w) S → stepB w E ⟨false, g.start⟩ 0 w.length = true → packSum g w E S ≤ 20000) ∨
      (v = .tuple ⟨[.agg ⟨[.slice none 0 0, .int .i64 0]⟩, .bool false]⟩ ∧ stepB w E ⟨false, g.start⟩ 0 w.length = true ∧ ∃ L : List Key, L.Nodup ∧ (∀ k ∈ L, Reachable g w E (rootKey g w) k) ∧ 20000 < packSum g w E L) := by
    rcases hv with ⟨h1, rfl⟩ | ⟨h1, h2⟩
    · exact .inl ⟨_, _, _, _, rfl, .inl ⟨h1, rfl⟩, fun S _ h2 => by rw [h1] at h2; cases h2⟩
    · rcases h2 with ⟨S, a, n, c, rfl, hK, hA, hs⟩ | ⟨rfl, hL⟩
      · exact .inl ⟨_, _, _, _, rfl, .inr ⟨h1, S, a, n, c, rfl, hK, hA⟩, fun S' hS' _ => by rw [keys_uniq hS' hK]; exact hs⟩
      · exact .inr ⟨rfl, h1, hL⟩
  clear hv
  rcases hres with ⟨xa, xn, xc, xr, rfl, hx, hx2⟩ | ⟨rfl, hx, hx2⟩
  · (iterate 3 refine ze hT zr zr zr zr zr ?_)
    refine WT.allocT hT zr zr zr zr zr zr (fun i5 hi5 => ?_)
    refine zs hT 0 0 zr zr zr zr zr zr zr zr zr zr zr zr ?_; refine ze hT zr zr zr zr zr ?_; refine WT.nil ?_; (iterate 2 refine AW.seq ?_); refine AW.reg ?_; (iterate 2 refine ze hT zr zr zr zr zr ?_); refine WT.nil ?_
    refine AW.cond rfl (fun h => (by cases h)) (fun h => ?_)
    refine AW.skip ?_; refine AW.seq ?_; refine AW.reg ?_; refine zl hT 0 zr zr zr zr zr zr me zr ?_; refine zs hT 1 0 zr zr zr zr zr zr zr zr zr zr zr zr ?_; refine ze hT zr zr zr zr zr ?_; refine WT.nil ?_
    exact AW.ret ⟨_, [], ⟨_, _, ⟨_, rfl, fun G h0 s0 => loadA_cells (s0.has (p := 1) rfl (List.mem_cons_self ..)) (readT_ok hT rfl)⟩, ⟨_, _, rfl, rfl, rfl⟩, rfl⟩, (by repeat (first | exact List.Sublist.refl _ | refine List.Sublist.cons _ ?_)), rfl, .inl ⟨_, _, _, _, _, rfl, rfl, hx, hx2⟩⟩
  · (iterate 3 refine ze hT zr zr zr zr zr ?_)
    refine WT.allocT hT zr zr zr zr zr zr (fun i5 hi5 => ?_)
    refine zs hT 0 0 zr zr zr zr zr zr zr zr zr zr zr zr ?_; refine ze hT zr zr zr zr zr ?_; refine WT.nil ?_; (iterate 2 refine AW.seq ?_); refine AW.reg ?_; (iterate 2 refine ze hT zr zr zr zr zr ?_); refine WT.nil ?_
    refine AW.cond rfl (fun _ => ?_) (fun h => (by cases h))
    refine AW.seq ?_; refine AW.reg ?_; refine ze hT zr zr zr zr zr ?_; refine zs hT 1 0 zr zr zr zr zr zr zr zr zr zr zr zr ?_; refine ze hT zr zr zr zr zr ?_; refine WT.nil ?_
    exact AW.ret ⟨_, [], ⟨_, _, ⟨_, rfl, fun G h0 s0 => loadA_cells (s0.has (p := 1) rfl (List.mem_cons_self ..)) (readT_ok hT rfl)⟩, ⟨_, _, rfl, rfl, rfl⟩, rfl⟩, (by repeat (first | exact List.Sublist.refl _ | refine List.Sublist.cons _ ?_)), rfl, .inr ⟨rfl, hx, hx2⟩⟩

theorem forestOf_spec (F : Frz) (hL : Laid F) (g : Gram) (hg : Valid g) {ga : Option Addr} {gm gc : Nat} (hr : Arr tRule F ga gm gc g.rules) {b : Option Addr} {n d : Nat} {w : List Nat} (hw : Arr tNat F b n d w) (hw12 : w.length ≤ 12) (hw2 : ∀ t ∈ w, t < g.terms) :
    Abs.Spec CC 21 [.agg ⟨gramCells g ga gm gc⟩, .slice b n d] F [] fun F' v o => o = [] ∧ ∃ E, EndsOf g w E ∧ MakeRes g w E F' v := by
  unfold gramCells
  refine Abs.Spec.fn (n := 26) Tryz.func21 rfl rfl fun own => ?_
  refine AW.seq (AW.reg ?_)
  refine WT.boxT zr zr zr zr zr zr (fun i2 hi2 => ?_)
  refine WT.allocT hT zr zr zr zr zr zr (fun i4 hi4 => ?_)
  refine ze hT zr zr zr zr zr ?_; refine WT.nil ?_; (iterate 2 refine AW.seq ?_); refine AW.reg ?_; refine zl hT 1 zr zr zr zr zr zr me zr ?_; refine ze hT zr zr zr zr zr ?_
  refine WT.callV Tryz.func31 zr zr zr zr zr zr (accepts_spec _ hL g hg hr hw hw12 hw2) (fun v hv => ?_)
  subst hv
  (iterate 5 refine ze hT zr zr zr zr zr ?_); refine WT.nil ?_; refine AW.seq ?_; refine AW.reg ?_; (iterate 2 refine ze hT zr zr zr zr zr ?_); refine WT.nil ?_
  refine AW.cond rfl (fun h => (by cases h)) (fun h => ?_)
  refine AW.skip ?_; refine AW.seq ?_
  refine AW.draw (ps := [(0, 4)]) rfl rfl ?_
  refine zl hT 1 zr zr zr zr zr zr me zr ?_; refine ze hT zr zr zr zr zr ?_; refine zl hT 1 zr zr zr zr zr zr me zr ?_; refine ze hT zr zr zr zr zr ?_
  refine WT.callF0 Tryz.func57 zr zr zr zr zr zr (ends_spec _ hL g hg hr hw (by omega)) (fun F1 v hF1 hv => ?_)
  obtain ⟨ea, ec, E, rfl, hE, hE2⟩ := hv
  refine WT.callF0 Tryz.func63 zr zr zr zr zr zr (make_spec _ (hL.mono hF1) g hg (hr.mono hF1) (hw.mono hF1) hw12 hE hE2.ok) (fun F2 v hF2 hv => ?_)
  rcases hv with ⟨s, a, n', c, r, rfl, rfl, hx, hx2⟩ | ⟨rfl, hx, hx2⟩
  · (iterate 2 refine ze hT zr zr zr zr zr ?_); refine zs hT 0 0 zr zr zr zr zr zr zr zr zr zr zr zr ?_; refine ze hT zr zr zr zr zr ?_; refine WT.nil ?_
    refine ⟨(by repeat (first | exact trivial | refine recs_pair rfl rfl (by first | exact keep0 | exact keep1 (keeps_frz (by assumption)) | exact kp 0 0 me me | exact kp 1 1 me me | exact kp 2 2 me me | exact kp 3 3 me me | exact kp 4 4 me me | exact kp 5 5 me me | exact kp 6 6 me me | exact kp 0 1 me me | exact kp 1 2 me me | exact kp 2 3 me me | exact kp 3 4 me me | exact kp 4 5 me me | exact kp 5 6 me me | exact kp 6 7 me me) ?_)), ?_⟩
    exact AW.ret ⟨_, [], ⟨_, _, ⟨_, rfl, fun G h0 s0 => loadA_cells (s0.has (p := 0) rfl (List.mem_cons_self ..)) (readT_ok hT rfl)⟩, ⟨_, _, rfl, rfl, rfl⟩, rfl⟩, (by repeat (first | exact List.Sublist.refl _ | refine List.Sublist.cons _ ?_)), rfl, E, hE2, .inl ⟨_, _, _, _, _, rfl, rfl, hx, hx2⟩⟩
  · (iterate 2 refine ze hT zr zr zr zr zr ?_); refine zs hT 0 0 zr zr zr zr zr zr zr zr zr zr zr zr ?_; refine ze hT zr zr zr zr zr ?_; refine WT.nil ?_
    refine ⟨(by repeat (first | exact trivial | refine recs_pair rfl rfl (by first | exact keep0 | exact keep1 (keeps_frz (by assumption)) | exact kp 0 0 me me | exact kp 1 1 me me | exact kp 2 2 me me | exact kp 3 3 me me | exact kp 4 4 me me | exact kp 5 5 me me | exact kp 6 6 me me | exact kp 0 1 me me | exact kp 1 2 me me | exact kp 2 3 me me | exact kp 3 4 me me | exact kp 4 5 me me | exact kp 5 6 me me | exact kp 6 7 me me) ?_)), ?_⟩
    exact AW.ret ⟨_, [], ⟨_, _, ⟨_, rfl, fun G h0 s0 => loadA_cells (s0.has (p := 0) rfl (List.mem_cons_self ..)) (readT_ok hT rfl)⟩, ⟨_, _, rfl, rfl, rfl⟩, rfl⟩, (by repeat (first | exact List.Sublist.refl _ | refine List.Sublist.cons _ ?_)), rfl, E, hE2, .inr ⟨rfl, hx, hx2⟩⟩
end Go.Proofs.D

set_option linter.unusedVariables false
set_option maxRecDepth 20000
set_option maxHeartbeats 0
open Go Go.Abs Go.Proofs Go.Proofs.D
namespace Go.Proofs.D

structure CpS where
  j : Nat
  a : Option Addr
  c : Nat
  B : List (Nat × Blk)

/-! ### trees of a part -/
/-! ### counts -/
theorem CountVal.uniq {T : Nat → Nat} (hm : ∀ d, T d ≤ T (d + 1)) {a b : Int} (h : CountVal T a) (h2 : CountVal T b) : a = b := by
  have clash : ∀ {n}, Still T n → Unbound T → False := by
    intro n hs hu
    obtain ⟨D, hD⟩ := hs
    obtain ⟨d, hd⟩ := hu (n + 1)
    have mono : ∀ e, T d ≤ T (d + e) := by
      intro e
      induction e with
      | zero => exact Nat.le_refl _
      | succ e ih => exact Nat.le_trans ih (hm (d + e))
    have h1 := mono D
    have h2 := hD (d + D) (by omega)
    omega
  rcases h with ⟨n, h1, rfl⟩ | ⟨h1, rfl⟩ <;> rcases h2 with ⟨n', h3, rfl⟩ | ⟨h3, rfl⟩
  · rw [h1.uniq h3]
  · exact (clash h1 h3).elim
  · exact (clash h3 h1).elim
  · rfl

theorem Still.add {A B : Nat → Nat} {a b : Nat} (h : Still A a) (h2 : Still B b) : Still (fun d => A d + B d) (a + b) := by
  obtain ⟨D, h⟩ := h
  obtain ⟨E, h2⟩ := h2
  exact ⟨max D E, fun d hd => by dsimp only; rw [h d (by omega), h2 d (by omega)]⟩
theorem Still.mul {A B : Nat → Nat} {a b : Nat} (h : Still A a) (h2 : Still B b) : Still (fun d => A d * B d) (a * b) := by
  obtain ⟨D, h⟩ := h
  obtain ⟨E, h2⟩ := h2
  exact ⟨max D E, fun d hd => by dsimp only; rw [h d (by omega), h2 d (by omega)]⟩

theorem mono_le {T : Nat → Nat} (hm : ∀ d, T d ≤ T (d + 1)) {d e : Nat} (h : d ≤ e) : T d ≤ T e := by
  induction e with
  | zero => obtain rfl : d = 0 := by omega
            exact Nat.le_refl _
  | succ e ih =>
    rcases Nat.lt_or_ge d (e + 1) with h2 | h2
    · exact Nat.le_trans (ih (by omega)) (hm e)
    · obtain rfl : d = e + 1 := by omega
      exact Nat.le_refl _

theorem Unbound.mul {A B : Nat → Nat} (hA : ∀ d, A d ≤ A (d + 1)) (hB : ∀ d, B d ≤ B (d + 1)) (h : Unbound A) (h2 : ∃ d, 1 ≤ B d) : Unbound fun d => A d * B d := fun n => by
  obtain ⟨d, hd⟩ := h n
  obtain ⟨e, he⟩ := h2
  refine ⟨max d e, ?_⟩
  have h3 := mono_le hA (show d ≤ max d e by omega)
  have h4 := mono_le hB (show e ≤ max d e by omega)
  have : A d * 1 ≤ A (max d e) * B (max d e) := Nat.mul_le_mul h3 (by omega)
  dsimp only; omega

/-- What MeanJoined adds up. -/
def joinSum (s a b : Int) : Int := if a = 0 ∨ b = 0 then s else if a = -1 ∨ b = -1 ∨ s = -1 then -1 else min (s + min (a * b) 1000000000) 1000000000

theorem CountVal.zero {T : Nat → Nat} (hm : ∀ d, T d ≤ T (d + 1)) (h : CountVal T 0) : ∀ d, T d = 0 := by
  rcases h with ⟨n, ⟨D, hD⟩, h2⟩ | ⟨_, h⟩
  · have hn : n = 0 := by
      unfold MAXC at h2
      omega
    subst hn
    intro d
    have h3 := mono_le hm (show d ≤ max d D by omega)
    have h4 := hD (max d D) (by omega)
    omega
  · cases h

theorem CountVal.some {T : Nat → Nat} {c : Int} (h : CountVal T c) (hc : c ≠ 0) : ∃ d, 1 ≤ T d := by
  rcases h with ⟨n, ⟨D, hD⟩, h2⟩ | ⟨h, _⟩
  · refine ⟨D, ?_⟩
    rw [hD D (Nat.le_refl _)]
    rcases Nat.eq_zero_or_pos n with e | e
    · subst e; exact absurd h2 (by simpa using hc)
    · exact e
  · exact h 1

/-! ### a grammar with a new start symbol -/
def joined (g : Gram) : Gram := ⟨g.terms, g.nons + 1, g.nons, g.rules ++ [⟨g.nons, [⟨false, g.start⟩, ⟨false, g.start⟩]⟩]⟩

end Go.Proofs.D

set_option linter.unusedVariables false
set_option maxRecDepth 20000
set_option maxHeartbeats 0
open Go Go.Abs Go.Proofs Go.Proofs.D
namespace Go.Abs
section
variable {C : Ctx} {T : RT} {n : Nat} {k : Kno} {F : Frz} {own : Own} {ops rest : List Oper} {o : Oper} {Q : Kno → Frz → Own → List Rec → Prop} {args' : List Value}
theorem firstZ {h : Heap} {s m c : Nat} {a : Option Addr} (ha : ∀ p, a = some p → p.spot = none) : firstA h s 0 (.slice a m c) = some [] := by
  match a, ha with
  | none, _ => rfl
  | some ⟨b, off, none⟩, _ => rfl
  | some ⟨b, off, some _⟩, ha => have := ha _ rfl; cases this

/-- A frozen slice, empty or not, is appended to an own block that is not empty. -/
theorem WT.appendA {α : Type} {R : Ty α} (hT : rowsOk C T = true) (p : Nat) {B : List (Nat × Blk)} {upd : List (Nat × Blk) → Own} {a b2 : Option Addr} {m c d c2 by_ : Nat} {xs ys : List α} {t e t2 e2 : Nat} {r r2 : Row} {z : Value} {xo so : Operand}
    (hb : Bld R F a m c B xs) (hy : Arr R F b2 d c2 ys) (hp : own[p]? = some B) (hupd : ∀ B', setO own p B' = some (upd B')) (hop : o.op = .call ⟨.builtin .append, ⟨[so, xo]⟩, ⟨[t, t2]⟩⟩) (hw : wantK ops k o = some true) {dst : Nat} (hdst : o.dst = some dst) (hn : Nat.blt dst n = true)
    (hs : evK C k so = some (.slice a m c)) (hx : evK C k xo = some (.slice b2 d c2)) (hr : rowOf T t = some r) (hd : r.d = .slice e) (hsz : sizeT T e = some R.size) (hz : zeroT T e = some z) (hby : bytesT T e = some by_)
    (hr2 : rowOf T t2 = some r2) (hd2 : r2.d = .slice e2) (hpos : 0 < R.size ∧ 0 < by_) (hroom : (m + d) * by_ ≤ 140737488355328)
    (h : ∀ a' c' B', Bld R F a' (m + d) c' B' (xs ++ ys) → WT C n ops rest ((dst, .slice a' (m + d) c') :: k) F (upd B') (fun k2 F2 own2 rs => Q k2 F2 own2 (⟨F, own, F, upd B', []⟩ :: rs))) :
    WT C n ops (o :: rest) k F own Q := by
  by_cases hd0 : d = 0
  · subst hd0
    obtain rfl : ys = [] := List.eq_nil_of_length_eq_zero hy.len.symm
    have e : upd B = own := by
      rw [← setO_ok _ _ _ _ (hupd B)]
      obtain ⟨hlt, rfl⟩ := List.getElem?_eq_some_iff.1 hp
      exact List.set_getElem_self hlt
    have := h a c B (by simpa using hb)
    rw [e] at this
    exact WT.append0 hT hop hw hdst hn hs hx hr hd hsz hz hby hr2 hd2 (fun h0 s0 => firstZ hy.spot) hpos (by simpa using hroom) this
  · obtain ⟨ds, hds, hcs⟩ := news_arr hT hy hr2 hd2 e
    exact WT.appendT hT p hb hp hupd hop hw hdst hn hs hx hr hd hsz hz hby (fun h0 s0 => hds _ h0 s0) hcs hy.len ⟨by omega, hpos⟩ hroom h
end
end Go.Abs
namespace Go.Proofs.D

/-! ### the order of nodes -/
def rankL (k : Key) : List Nat := [k.frm, k.to, if k.sym.term = true then 0 else 1, k.sym.n]

/-! ### Index and Contains of truth values -/
def tBool : Ty Bool where
  size := 1
  rel := fun _ l x => l = [.bool x]
  len := fun _ _ _ h => by subst h; rfl
  one := fun _ _ _ h => by subst h; rfl
  mono := fun _ _ _ _ _ h => h

/-! ### the shape of a forest -/
/-- Keys that follow each other. -/
def Chain (to : Nat) : List Sym → Nat → List Key → Prop
  | [], i, ks => ks = [] ∧ i = to
  | s :: l, i, ks => ∃ q ks', ks = q :: ks' ∧ q.sym = s ∧ q.frm = i ∧ Chain to l q.to ks'

/-- The end of the first keys. -/
def endAt (i : Nat) (ks : List Key) : Nat → Nat
  | 0 => i
  | j + 1 => match ks[j]? with | some q => q.to | none => i

theorem Chain.at_ {to : Nat} : ∀ {l : List Sym} {i : Nat} {ks : List Key}, Chain to l i ks → ∀ {j : Nat} {q : Key}, ks[j]? = some q → l[j]? = some q.sym ∧ q.frm = endAt i ks j
  | [], i, ks, h, j, q, hq => by
    obtain ⟨rfl, _⟩ := h
    simp at hq
  | s :: l, i, ks, h, j, q, hq => by
    obtain ⟨q0, ks', rfl, h1, h2, h3⟩ := h
    cases j with
    | zero =>
      obtain rfl : q0 = q := by simpa using hq
      exact ⟨by simp [h1], h2⟩
    | succ j =>
      rw [List.getElem?_cons_succ] at hq
      obtain ⟨h4, h5⟩ := h3.at_ hq
      refine ⟨by rw [List.getElem?_cons_succ]; exact h4, ?_⟩
      rw [h5]
      cases j with
      | zero => simp [endAt]
      | succ j =>
        simp only [endAt, List.getElem?_cons_succ]
        have : ∃ q', ks'[j]? = some q' := ⟨_, List.getElem?_eq_getElem (by have := (List.getElem?_eq_some_iff.1 hq).1; omega)⟩
        obtain ⟨q', hq'⟩ := this
        rw [hq']

/-- What the law looks at in a node's pack. -/
structure PackOk (g : Gram) (S : List Key) (k : Key) (p : NPack) (kp : KPack) : Prop where
  num : p = numPack S kp
  rule : ∃ r, g.rules[kp.rule]? = some r ∧ r.left = k.sym.n ∧ Chain k.to r.right k.frm kp.kids
  ins : ∀ q ∈ kp.kids, q ∈ S

structure NodeOk (g : Gram) (w : List Nat) (S : List Key) (k : Key) (x : Node) : Prop where
  key : x.key = k
  term : k.sym.term = true → k.to = k.frm + 1 ∧ k.to ≤ w.length ∧ w[k.frm]? = some k.sym.n ∧ x.packs = []
  non : k.sym.term = false → x.packs ≠ []
  pack : ∀ p ∈ x.packs, ∃ kp, PackOk g S k p kp
  sorted : x.packs.Pairwise fun x y => cmpNPack x y < 0

end Go.Proofs.D

set_option linter.unusedVariables false
set_option maxRecDepth 20000
set_option maxHeartbeats 0
open Go Go.Abs Go.Proofs Go.Proofs.D
namespace Go.Proofs.D

/-! ### the tables of ends that the laws make by themselves -/
def withStart (g : Gram) (n : Nat) : Gram := { g with start := n }

theorem der_end {g : Gram} {w : List Nat} {s : Sym} {i j : Nat} (h : Der g w s i j) (hi : i ≤ w.length) : j ≤ w.length := by
  have h2 : Der g ((w.take w.length).drop 0) s i j := by rw [List.take_length, List.drop_zero]; exact h
  exact (der_part (Nat.zero_le _) (Nat.le_refl _) h2).2 hi

/-- A row that is filled up to place i, and there up to end j. -/
structure RowTo (g : Gram) (w : List Nat) (n i j : Nat) (row : List Nat) : Prop where
  len : row.length = w.length + 1
  bit : ∀ p x, row[p]? = some x → ∀ q, x.testBit q = true ↔ ((p < i ∨ (p = i ∧ q < j)) ∧ Der g w ⟨false, n⟩ p q)

theorem RowTo.lt {g : Gram} {w : List Nat} {n i j : Nat} {row : List Nat} (h : RowTo g w n i j row) {p x : Nat} (hx : row[p]? = some x) : x < 2 ^ (w.length + 1) := by
  refine Nat.lt_pow_two_of_testBit x fun q hq => ?_
  cases hb : x.testBit q with
  | false => rfl
  | true =>
    have hp := (List.getElem?_eq_some_iff.1 hx).1
    have := h.len
    have := der_end ((h.bit p x hx q).1 hb).2 (by omega)
    omega

theorem RowTo.zero (g : Gram) (w : List Nat) (n : Nat) : RowTo g w n 0 0 (List.replicate (w.length + 1) 0) where
  len := by simp
  bit := fun p x hx q => by
    have : x = 0 := List.eq_of_mem_replicate (List.mem_of_getElem? hx)
    subst this
    simp

theorem RowTo.start {g : Gram} {w : List Nat} {n i : Nat} {row : List Nat} (h : RowTo g w n i 0 row) : RowTo g w n i i row where
  len := h.len
  bit := fun p x hx q => by
    rw [h.bit p x hx q]
    constructor
    · rintro ⟨h1 | h1, h2⟩
      · exact ⟨.inl h1, h2⟩
      · omega
    · rintro ⟨h1 | h1, h2⟩
      · exact ⟨.inl h1, h2⟩
      · have := der_le h2; omega

theorem RowTo.done {g : Gram} {w : List Nat} {n i j : Nat} {row : List Nat} (h : RowTo g w n i j row) (hj : w.length < j) : RowTo g w n (i + 1) 0 row where
  len := h.len
  bit := fun p x hx q => by
    have hp := (List.getElem?_eq_some_iff.1 hx).1
    have := h.len
    rw [h.bit p x hx q]
    constructor
    · rintro ⟨h1, h2⟩
      exact ⟨.inl (by omega), h2⟩
    · rintro ⟨h1, h2⟩
      have := der_end h2 (by omega)
      exact ⟨by omega, h2⟩

theorem RowTo.skip {g : Gram} {w : List Nat} {n i j : Nat} {row : List Nat} (h : RowTo g w n i j row) (hd : ¬ Der g w ⟨false, n⟩ i j) : RowTo g w n i (j + 1) row where
  len := h.len
  bit := fun p x hx q => by
    rw [h.bit p x hx q]
    constructor
    · rintro ⟨h1, h2⟩
      exact ⟨by omega, h2⟩
    · rintro ⟨h1 | ⟨rfl, h1⟩, h2⟩
      · exact ⟨.inl h1, h2⟩
      · rcases Nat.lt_or_ge q j with h3 | h3
        · exact ⟨.inr ⟨rfl, h3⟩, h2⟩
        · obtain rfl : q = j := by omega
          exact absurd h2 hd

theorem RowTo.put {g : Gram} {w : List Nat} {n i j : Nat} {row : List Nat} (h : RowTo g w n i j row) (hd : Der g w ⟨false, n⟩ i j) {x : Nat} (hx : row[i]? = some x) : RowTo g w n i (j + 1) (row.set i (x ||| (1 * 2 ^ j))) where
  len := by rw [List.length_set]; exact h.len
  bit := fun p y hy q => by
    have hi := (List.getElem?_eq_some_iff.1 hx).1
    by_cases e : p = i
    · subst e
      rw [List.getElem?_set_self hi] at hy
      obtain rfl := Option.some.inj hy
      rw [Nat.testBit_or, Nat.one_mul, Nat.testBit_two_pow, Bool.or_eq_true, h.bit p x hx q]
      constructor
      · rintro (⟨h1, h2⟩ | h1)
        · exact ⟨by omega, h2⟩
        · have h1 : j = q := by simpa using h1
          subst h1
          exact ⟨by omega, hd⟩
      · rintro ⟨h1, h2⟩
        by_cases e2 : j = q
        · right; simpa using e2
        · left; exact ⟨by omega, h2⟩
    · rw [List.getElem?_set_ne (Ne.symm e)] at hy
      rw [h.bit p y hy q]
      constructor
      · rintro ⟨h1, h2⟩; exact ⟨by omega, h2⟩
      · rintro ⟨h1, h2⟩; exact ⟨by omega, h2⟩

structure PtS where
  a : Option Addr
  m : Nat
  c : Nat
  B : List (Nat × Blk)
  vs : List Value
  bs : List (Nat × Blk)
  E : List (List Nat)

end Go.Proofs.D

set_option linter.unusedVariables false
set_option maxRecDepth 20000
set_option maxHeartbeats 0
open Go Go.Abs Go.Proofs Go.Proofs.D
namespace Go.Proofs.D

/-! ### forest.Same, where both are the same -/
theorem packEqF_spec (F : Frz) {a b : Option Addr} {m c d : Nat} {xs : List NPack} (hx : Arr tNPack F a m c xs) (hy : Arr tNPack F b m d xs) (hm : m ≤ 1000000)
    (hcmp : ∀ G lx ly (x : NPack), x ∈ xs → tNPack.rel G lx x → tNPack.rel G ly x → Abs.Spec CC 61 [.agg ⟨lx⟩, .agg ⟨ly⟩] G [] fun _ v o => o = [] ∧ v = .bool true) :
    Abs.Spec CC 60 [.slice a m c, .slice b m d, .func (.func 61) ⟨[]⟩ ⟨[]⟩] F [] fun _ v o => o = [] ∧ v = .bool true := by
  refine Abs.Spec.fn (n := 32) Tryz.func60 rfl rfl fun own => ?_
  have hxlen := hx.len
  refine AW.seq ?_; refine AW.reg ?_; refine ze hT zr zr zr zr zr ?_; refine WT.nil ?_; (iterate 2 refine AW.seq ?_); refine AW.reg ?_; (iterate 5 refine ze hT zr zr zr zr zr ?_); refine WT.nil ?_
  refine AW.cond rfl (fun h => (by exfalso; simp at h)) (fun _ => ?_)
  refine AW.skip ?_; (iterate 2 refine AW.seq ?_); refine AW.reg ?_; (iterate 3 refine ze hT zr zr zr zr zr ?_); refine WT.nil ?_
  refine AW.range (S := Unit) (fun _ => []) (fun _ => own) (fun j _ G => True) m () zr zr zr zr zr zr zr zr zr (by omega) rfl rfl (fun _ => rfl) (fun _ => rfl) (SubK.of_map rfl) (OwnLe.refl _) trivial ?_ ?_
  · intro j _ F1 hF1 hj hP
    have hx1 := hx.mono hF1
    have hy1 := hy.mono hF1
    refine AW.seq ?_; refine AW.reg ?_; refine ze hT zr zr zr zr zr ?_
    refine WT.idxL hT hx1 zr zr zr zr zr zr zr zr zr (by omega) (fun x hxj b1 off ro cs lx hb hp1 hrel => ?_)
    have hrelx := hrel
    obtain ⟨xa, xn, xc, rfl, _⟩ := hrel
    refine zi (fo := 0) hT (by assumption) (by assumption) zr zr zr zr zr zr ?_
    refine WT.allocT hT zr zr zr zr zr zr (fun i8 hi8 => ?_)
    refine ze hT zr zr zr zr zr ?_; refine zs hT 0 0 zr zr zr zr zr zr zr zr zr zr zr zr ?_; refine WT.nil ?_; refine AW.seq ?_; refine AW.reg ?_; (iterate 2 refine ze hT zr zr zr zr zr ?_)
    refine WT.idxL hT hy1 zr zr zr zr zr zr zr zr zr (by omega) (fun y hyj b2 off2 ro2 cs2 ly hb2 hp2 hrel => ?_)
    obtain rfl : y = x := by rw [hxj] at hyj; exact (Option.some.inj hyj).symm
    have hrely := hrel
    obtain ⟨ya, yn, yc, rfl, _⟩ := hrel
    refine zi (fo := 0) hT (by assumption) (by assumption) zr zr zr zr zr zr ?_
    refine WT.allocT hT zr zr zr zr zr zr (fun i9 hi9 => ?_)
    refine zs hT 0 0 zr zr zr zr zr zr zr zr zr zr zr zr ?_; refine WT.nil ?_; refine AW.seq ?_; refine AW.reg ?_; refine ze hT zr zr zr zr zr ?_; refine zl hT 1 zr zr zr zr zr zr me zr ?_; refine zl hT 0 zr zr zr zr zr zr me zr ?_
    refine WT.callC Tryz.func61 zr zr zr zr zr zr zr zr (hcmp _ _ _ y (List.mem_of_getElem? hxj) hrelx hrely) (fun v hv => ?_)
    subst hv
    refine ze hT zr zr zr zr zr ?_; refine WT.nil ?_
    refine AW.cond rfl (fun h => (by cases h)) (fun _ => ?_)
    refine AW.skip ?_
    exact ⟨(), SubK.of_map rfl, OwnLe.skip _ (OwnLe.skip _ (OwnLe.refl _)), trivial⟩
  · intro _ F1 hF1 hP
    refine AW.seq ?_; refine AW.reg ?_; refine ze hT zr zr zr zr zr ?_; refine WT.nil ?_
    exact AW.ret ⟨_, [], ⟨_, _, rfl, rfl, rfl⟩, (by repeat (first | exact List.Sublist.refl _ | refine List.Sublist.cons _ ?_)), rfl, rfl⟩

theorem nodeEqF_spec (F : Frz) {a b : Option Addr} {m c d : Nat} {xs : List Node} (hx : Arr tNode F a m c xs) (hy : Arr tNode F b m d xs) (hm : m ≤ 1000000)
    (hcmp : ∀ G lx ly (x : Node), x ∈ xs → tNode.rel G lx x → tNode.rel G ly x → Abs.Spec CC 59 [.agg ⟨lx⟩, .agg ⟨ly⟩] G [] fun _ v o => o = [] ∧ v = .bool true) :
    Abs.Spec CC 58 [.slice a m c, .slice b m d, .func (.func 59) ⟨[]⟩ ⟨[]⟩] F [] fun _ v o => o = [] ∧ v = .bool true := by
  refine Abs.Spec.fn (n := 32) Tryz.func58 rfl rfl fun own => ?_
  have hxlen := hx.len
  refine AW.seq ?_; refine AW.reg ?_; refine ze hT zr zr zr zr zr ?_; refine WT.nil ?_; (iterate 2 refine AW.seq ?_); refine AW.reg ?_; (iterate 5 refine ze hT zr zr zr zr zr ?_); refine WT.nil ?_
  refine AW.cond rfl (fun h => (by exfalso; simp at h)) (fun _ => ?_)
  refine AW.skip ?_; (iterate 2 refine AW.seq ?_); refine AW.reg ?_; (iterate 3 refine ze hT zr zr zr zr zr ?_); refine WT.nil ?_
  refine AW.range (S := Unit) (fun _ => []) (fun _ => own) (fun j _ G => True) m () zr zr zr zr zr zr zr zr zr (by omega) rfl rfl (fun _ => rfl) (fun _ => rfl) (SubK.of_map rfl) (OwnLe.refl _) trivial ?_ ?_
  · intro j _ F1 hF1 hj hP
    have hx1 := hx.mono hF1
    have hy1 := hy.mono hF1
    refine AW.seq ?_; refine AW.reg ?_; refine ze hT zr zr zr zr zr ?_
    refine WT.idxL hT hx1 zr zr zr zr zr zr zr zr zr (by omega) (fun x hxj b1 off ro cs lx hb hp1 hrel => ?_)
    have hrelx := hrel
    obtain ⟨xa, xn, xc, rfl, _⟩ := hrel
    refine zi (fo := 0) hT (by assumption) (by assumption) zr zr zr zr zr zr ?_
    refine WT.allocT hT zr zr zr zr zr zr (fun i8 hi8 => ?_)
    refine ze hT zr zr zr zr zr ?_; refine zs hT 0 0 zr zr zr zr zr zr zr zr zr zr zr zr ?_; refine WT.nil ?_; refine AW.seq ?_; refine AW.reg ?_; (iterate 2 refine ze hT zr zr zr zr zr ?_)
    refine WT.idxL hT hy1 zr zr zr zr zr zr zr zr zr (by omega) (fun y hyj b2 off2 ro2 cs2 ly hb2 hp2 hrel => ?_)
    obtain rfl : y = x := by rw [hxj] at hyj; exact (Option.some.inj hyj).symm
    have hrely := hrel
    obtain ⟨ya, yn, yc, rfl, _⟩ := hrel
    refine zi (fo := 0) hT (by assumption) (by assumption) zr zr zr zr zr zr ?_
    refine WT.allocT hT zr zr zr zr zr zr (fun i9 hi9 => ?_)
    refine zs hT 0 0 zr zr zr zr zr zr zr zr zr zr zr zr ?_; refine WT.nil ?_; refine AW.seq ?_; refine AW.reg ?_; refine ze hT zr zr zr zr zr ?_; refine zl hT 1 zr zr zr zr zr zr me zr ?_; refine zl hT 0 zr zr zr zr zr zr me zr ?_
    refine WT.callC Tryz.func59 zr zr zr zr zr zr zr zr (hcmp _ _ _ y (List.mem_of_getElem? hxj) hrelx hrely) (fun v hv => ?_)
    subst hv
    refine ze hT zr zr zr zr zr ?_; refine WT.nil ?_
    refine AW.cond rfl (fun h => (by cases h)) (fun _ => ?_)
    refine AW.skip ?_
    exact ⟨(), SubK.of_map rfl, OwnLe.skip _ (OwnLe.skip _ (OwnLe.refl _)), trivial⟩
  · intro _ F1 hF1 hP
    refine AW.seq ?_; refine AW.reg ?_; refine ze hT zr zr zr zr zr ?_; refine WT.nil ?_
    exact AW.ret ⟨_, [], ⟨_, _, rfl, rfl, rfl⟩, (by repeat (first | exact List.Sublist.refl _ | refine List.Sublist.cons _ ?_)), rfl, rfl⟩


theorem samePack_spec (F : Frz) {lx ly : List Value} (x : NPack) (hx : tNPack.rel F lx x) (hy : tNPack.rel F ly x) : Abs.Spec CC 61 [.agg ⟨lx⟩, .agg ⟨ly⟩] F [] fun _ v o => o = [] ∧ v = .bool true := by
  obtain ⟨xa, xn, xc, rfl, hxa, hxb⟩ := hx
  obtain ⟨ya, yn, yc, rfl, hya, hyb⟩ := hy
  have hxl := hxa.len
  have hyl := hya.len
  refine Abs.Spec.fn (n := 17) Tryz.func61 rfl rfl fun own => ?_
  refine AW.seq (AW.reg ?_)
  refine WT.boxT zr zr zr zr zr zr (fun i2 hi2 => ?_)
  refine WT.boxT zr zr zr zr zr zr (fun i3 hi3 => ?_)
  refine ze hT zr zr zr zr zr ?_; refine WT.nil ?_; refine AW.seq ?_; refine AW.reg ?_; refine ze hT zr zr zr zr zr ?_; refine zl hT 1 zr zr zr zr zr zr me zr ?_; refine ze hT zr zr zr zr zr ?_; refine zl hT 0 zr zr zr zr zr zr me zr ?_; (iterate 2 refine ze hT zr zr zr zr zr ?_)
  refine WT.know (v' := .bool true) 10 rfl (by congr 1; simp) ?_
  refine ze hT zr zr zr zr zr ?_; refine zl hT 1 zr zr zr zr zr zr me zr ?_; refine ze hT zr zr zr zr zr ?_; refine zl hT 0 zr zr zr zr zr zr me zr ?_
  refine WT.callV Tryz.func14 zr zr zr zr zr zr (equal_spec _ hxa hya (by omega)) (fun v hv => ?_)
  subst hv
  rw [decide_eq_true rfl]
  (iterate 2 refine ze hT zr zr zr zr zr ?_); refine WT.nil ?_
  exact AW.ret ⟨_, [], ⟨_, _, rfl, rfl, rfl⟩, (by repeat (first | exact List.Sublist.refl _ | refine List.Sublist.cons _ ?_)), rfl, rfl⟩

theorem sameNode_spec (F : Frz) {lx ly : List Value} (x : Node) (hf : x.packs.length ≤ 1000000) (hx : tNode.rel F lx x) (hy : tNode.rel F ly x) : Abs.Spec CC 59 [.agg ⟨lx⟩, .agg ⟨ly⟩] F [] fun _ v o => o = [] ∧ v = .bool true := by
  obtain ⟨xa, xn, xc, rfl, hxa⟩ := hx
  obtain ⟨ya, yn, yc, rfl, hya⟩ := hy
  obtain rfl : yn = xn := by rw [hxa.len, hya.len]
  have hxl := hxa.len
  refine Abs.Spec.fn (n := 31) Tryz.func59 rfl rfl fun own => ?_
  refine AW.seq (AW.reg ?_)
  refine WT.boxT zr zr zr zr zr zr (fun i2 hi2 => ?_)
  refine WT.boxT zr zr zr zr zr zr (fun i3 hi3 => ?_)
  refine ze hT zr zr zr zr zr ?_; refine WT.nil ?_; refine AW.seq ?_; refine AW.reg ?_; refine ze hT zr zr zr zr zr ?_; refine zl hT 1 zr zr zr zr zr zr me zr ?_; refine ze hT zr zr zr zr zr ?_; refine zl hT 0 zr zr zr zr zr zr me zr ?_; refine zq hT zr zr zr zr zr zr zr ?_; refine ze hT zr zr zr zr zr ?_
  refine WT.know (v' := .bool true) 10 rfl (by congr 1; simp) ?_
  refine ze hT zr zr zr zr zr ?_; refine zl hT 1 zr zr zr zr zr zr me zr ?_; refine ze hT zr zr zr zr zr ?_; refine zl hT 0 zr zr zr zr zr zr me zr ?_; (iterate 3 refine ze hT zr zr zr zr zr ?_)
  refine WT.know (v' := .bool true) 17 rfl (by congr 1; simp) ?_
  refine ze hT zr zr zr zr zr ?_; refine zl hT 1 zr zr zr zr zr zr me zr ?_; refine ze hT zr zr zr zr zr ?_; refine zl hT 0 zr zr zr zr zr zr me zr ?_; (iterate 3 refine ze hT zr zr zr zr zr ?_)
  refine WT.know (v' := .bool true) 24 rfl (by congr 1; simp) ?_
  refine ze hT zr zr zr zr zr ?_; refine zl hT 1 zr zr zr zr zr zr me zr ?_; refine ze hT zr zr zr zr zr ?_; refine zl hT 0 zr zr zr zr zr zr me zr ?_
  refine WT.callV Tryz.func60 zr zr zr zr zr zr (packEqF_spec _ hxa hya (by omega) (fun G lx ly x _ h1 h2 => samePack_spec G x h1 h2)) (fun v hv => ?_)
  subst hv
  (iterate 2 refine ze hT zr zr zr zr zr ?_); refine WT.nil ?_
  exact AW.ret ⟨_, [], ⟨_, _, rfl, rfl, rfl⟩, (by repeat (first | exact List.Sublist.refl _ | refine List.Sublist.cons _ ?_)), rfl, rfl⟩

theorem same_spec (F : Frz) {a b : Option Addr} {m c d : Nat} {r : Int} {Ns : List Node} (hf : ∀ x ∈ Ns, x.packs.length ≤ 1000000) (hm : m ≤ 1000000) (hx : Arr tNode F a m c Ns) (hy : Arr tNode F b m d Ns) :
    Abs.Spec CC 19 [.agg ⟨[.slice a m c, .int .i64 r]⟩, .agg ⟨[.slice b m d, .int .i64 r]⟩] F [] fun _ v o => o = [] ∧ v = .bool true := by
  refine Abs.Spec.fn (n := 17) Tryz.func19 rfl rfl fun own => ?_
  refine AW.seq (AW.reg ?_)
  refine WT.boxT zr zr zr zr zr zr (fun i2 hi2 => ?_)
  refine WT.boxT zr zr zr zr zr zr (fun i3 hi3 => ?_)
  refine ze hT zr zr zr zr zr ?_; refine WT.nil ?_; refine AW.seq ?_; refine AW.reg ?_; refine ze hT zr zr zr zr zr ?_; refine zl hT 1 zr zr zr zr zr zr me zr ?_; refine ze hT zr zr zr zr zr ?_; refine zl hT 0 zr zr zr zr zr zr me zr ?_; (iterate 2 refine ze hT zr zr zr zr zr ?_)
  refine WT.know (v' := .bool true) 10 rfl (by congr 1; simp) ?_
  refine ze hT zr zr zr zr zr ?_; refine zl hT 1 zr zr zr zr zr zr me zr ?_; refine ze hT zr zr zr zr zr ?_; refine zl hT 0 zr zr zr zr zr zr me zr ?_
  refine WT.callV Tryz.func58 zr zr zr zr zr zr (nodeEqF_spec _ hx hy hm (fun G lx ly x hx2 h1 h2 => sameNode_spec G x (hf x hx2) h1 h2)) (fun v hv => ?_)
  subst hv
  (iterate 2 refine ze hT zr zr zr zr zr ?_); refine WT.nil ?_
  exact AW.ret ⟨_, [], ⟨_, _, rfl, rfl, rfl⟩, (by repeat (first | exact List.Sublist.refl _ | refine List.Sublist.cons _ ?_)), rfl, rfl⟩
end Go.Proofs.D

set_option linter.unusedVariables false
set_option maxRecDepth 20000
set_option maxHeartbeats 0
open Go Go.Abs Go.Proofs Go.Proofs.D
namespace Go.Proofs.D

/-! ### the least sets of a word -/
theorem Sets.cut {g : Gram} {w : List Nat} {L : Nat → List Item} (h : Sets g w L) (j : Nat) : Sets g (w.take j) L where
  ok := fun k hk => h.ok k (by rw [List.length_take] at hk; omega)
  start := h.start
  closed := fun k hk => h.closed k (by rw [List.length_take] at hk; omega)
  scan := fun k t hk => h.scan k t (by
    rw [List.getElem?_take] at hk
    split at hk
    · exact hk
    · cases hk)

/-- An item that lies in all closed sets of the word's beginning. -/
def QP (g : Gram) (w : List Nat) : Nat → Item → Prop := fun k x => ItemOk g.rules k x ∧ (k ≤ w.length → ∀ L, Sets g (w.take k) L → x ∈ L k)

theorem QP_inv (g : Gram) (w : List Nat) : QInv g (QP g w) where
  ok := fun _ _ h => h.1
  predict := fun k x n i r hx hn hr hl => ⟨⟨r, hr, Nat.zero_le _, Nat.le_refl _⟩, fun hk L hL => (hL.closed k (by rw [List.length_take]; omega) x (hx.2 hk L hL)).1 n i r hn hr hl⟩
  complete := fun k x y r hx hr hd hy hn => by
    refine ⟨(QI_inv g).complete k x y r hx.1 hr hd hy.1 hn, fun hk L hL => ?_⟩
    obtain ⟨_, _, _, hf⟩ := hx.1
    refine (hL.closed k (by rw [List.length_take]; omega) x (hx.2 hk L hL)).2 r hr hd y ?_ hn
    refine hy.2 (by omega) L ?_
    have := hL.cut x.frm
    rw [List.take_take, show min x.frm k = x.frm by omega] at this
    exact this

theorem QP_more {g : Gram} {w : List Nat} {m : Nat} (hm : m = w.length) (t : Nat) : ∀ k x, k ≤ m → QP g w k x → QP g (w ++ [t]) k x := fun k x hk hx =>
  ⟨hx.1, fun _ L hL => hx.2 (by omega) L (by rw [List.take_append_of_le_length (by omega)] at hL; exact hL)⟩

theorem QP_scan {g : Gram} {w : List Nat} {m : Nat} (hm : m = w.length) (t : Nat) : ∀ x, QP g (w ++ [t]) m x → nextOf g.rules x = some ⟨true, t⟩ → QP g (w ++ [t]) (m + 1) (stepItem x) := fun x hx hn => by
  subst hm
  refine ⟨QI_scan g _ t x hx.1 hn, fun hk L hL => ?_⟩
  rw [List.take_of_length_le (by simp)] at hL
  refine hL.scan w.length t (by simp) x (hx.2 (by simp) L ?_) hn
  exact hL.cut _

/-! ### parsers at rest -/
structure FZ where
  fi : Nat
  ga : Option Addr
  gm : Nat
  gc : Nat
  q : ChP
  s : SSt
  wa : Option Addr
  wn : Nat
  wc : Nat
  BW : List (Nat × Blk)
  w : List Nat
  E : List Bool

def zCells (g : Gram) (f : FZ) : List Value := [.int .i64 g.terms, .int .i64 g.nons, .int .i64 g.start, .slice f.ga f.gm f.gc, .pointer (some ⟨f.q.ic, 0, none⟩), .slice f.wa f.wn f.wc]
def zB (g : Gram) (f : FZ) : List (Nat × Blk) := (f.fi, .cells false (zCells g f)) :: (f.BW ++ shB (trimmed f.E g) f.q f.s)

structure ZOk (g : Gram) (F : Frz) (f : FZ) : Prop where
  rules : Arr tRule F f.ga f.gm f.gc g.rules
  ends : EndsIn g f.E
  chart : SOk (trimmed f.E g) (QP (trimmed f.E g) f.w) f.q F f.s
  k : f.s.k = f.w.length
  sets : Sets (trimmed f.E g) f.w (LZ f.s)
  word : GB tNat F f.wa f.wn f.wc f.BW f.w
  ok : ∀ t ∈ f.w, t < g.terms

theorem ZOk.mono {g : Gram} {F G : Frz} {f : FZ} (h : ZOk g F f) (hF : Frz.le F G) : ZOk g G f := ⟨h.rules.mono hF, h.ends, h.chart.mono hF, h.k, h.sets, h.word.mono hF, h.ok⟩

structure NextZ (g : Gram) (f : FZ) (xs : List Bool) : Prop where
  len : xs.length = g.terms + 1
  term : ∀ t, t < g.terms → (xs[t]? = some true ↔ ∃ x ∈ LZ f.s f.s.k, nextOf (trimmed f.E g).rules x = some ⟨true, t⟩)
  done : xs[g.terms]? = some (derives g f.w g.start 0 f.w.length)

theorem zsubW {g : Gram} {f : FZ} : ∀ z, z ∈ f.BW → z ∈ zB g f := fun z hz => by unfold zB; simp [hz]
theorem zsubC {g : Gram} {f : FZ} : ∀ z, z ∈ shB (trimmed f.E g) f.q f.s → z ∈ zB g f := fun z hz => by unfold zB; simp [hz]
theorem own_zeed (a : Nat × Blk) (BW C : List (Nat × Blk)) (own : Own) : OwnLe ([a] :: BW :: C :: own) ((a :: (BW ++ C)) :: own) := OwnLe.flat (List.Perm.of_eq (by simp))
theorem own_zeed' (a : Nat × Blk) (BW C : List (Nat × Blk)) (own : Own) : OwnLe ((a :: (BW ++ C)) :: own) ([a] :: BW :: C :: own) := OwnLe.flat (List.Perm.of_eq (by simp))

/-! ### New -/
theorem zNew_spec (F : Frz) (g : Gram) (hg : Valid g) {a : Option Addr} {m c : Nat} (hr : Arr tRule F a m c g.rules) :
    Abs.Spec CC 10 [.agg ⟨gramCells g a m c⟩] F [] fun F' v o => ∃ B', o = [B'] ∧ ∃ f, v = .tuple ⟨[.pointer (some ⟨f.fi, 0, none⟩), .int .i64 0]⟩ ∧ B' = zB g f ∧ ZOk g F' f ∧ f.w = [] := by
  have hrl := hr.len
  have hgr := hg.range.rules
  have hr4 : ∀ r ∈ g.rules, r.right.length ≤ 1000000 := fun r h => by have := (hg.right r h).2.1; omega
  unfold gramCells
  refine Abs.Spec.fn (n := 28) Tryz.func10 rfl rfl fun own => ?_
  refine AW.seq (AW.reg ?_)
  refine WT.boxT zr zr zr zr zr zr (fun i1 hi1 => ?_)
  (iterate 2 refine ze hT zr zr zr zr zr ?_); refine WT.nil ?_; refine AW.seq ?_; refine AW.reg ?_; refine zl hT 0 zr zr zr zr zr zr me zr ?_
  refine WT.callF0 Tryz.func45 zr zr zr zr zr zr (uends_spec _ g hg hr) (fun F1 v hF1 hv => ?_)
  obtain ⟨ea, ec, E, rfl, hE, hEi⟩ := hv
  have hr1 := hr.mono hF1
  (iterate 3 refine ze hT zr zr zr zr zr ?_)
  refine WT.allocT hT zr zr zr zr zr zr (fun i4 hi4 => ?_)
  refine zs hT 0 0 zr zr zr zr zr zr zr zr zr zr zr zr ?_; refine ze hT zr zr zr zr zr ?_; refine WT.nil ?_; (iterate 2 refine AW.seq ?_); refine AW.reg ?_; (iterate 2 refine ze hT zr zr zr zr zr ?_); refine WT.nil ?_
  refine AW.cond rfl (fun h => (by cases h)) (fun _ => ?_)
  refine AW.skip ?_; refine AW.seq ?_; refine AW.reg ?_; refine zl hT 1 zr zr zr zr zr zr me zr ?_
  refine WT.callN Tryz.func46 zr zr zr zr zr zr (copy_spec _ g hr1 (by omega) hr4) (fun F2 v B2 hF2 hv => ?_)
  obtain ⟨ca, cc, rfl, hc⟩ := hv
  have hr2 := hr1.mono hF2
  have hE2 := hE.mono hF2
  unfold gramCells
  skip
  refine WT.allocT hT zr zr zr zr zr zr (fun i6 hi6 => ?_)
  refine zs hT 0 0 zr zr zr zr zr zr zr zr zr zr zr zr ?_; refine WT.nil ?_; refine AW.seq ?_; refine AW.reg ?_; refine ze hT zr zr zr zr zr ?_; refine zl hT 0 zr zr zr zr zr zr me zr ?_; refine ze hT zr zr zr zr zr ?_
  refine WT.freezeAll 2 rfl rfl (fun F3 hF3 hB3 => ?_)
  have hie := hB3 i4 _ (List.mem_cons_self ..)
  have hr3 := hr2.mono hF3
  have hE3 := hE2.mono hF3
  refine WT.callF (oin := [B2]) Tryz.func47 zr zr zr zr zr zr (deleteFunc_spec F3 (hc.mono hF3) (by omega) (fun r => r.right.any fun y => !y.term && !(E.getD y.n false)) (first := []) (capt := [.pointer (some ⟨i4, 0, none⟩)]) Tryz.func48 rfl (fun G hG r hrg b n d hb => feed1_spec G (hG _ _ hie) (hE3.mono hG) r (fun y hy => ?_) hb (by have := hb.len; have := (hg.right r hrg).2.1; omega))) (List.Perm.swap _ _ _) (fun F4 v oout hF4 hv => ?_)
  · have := (hg.right r hrg).2.2 y hy
    unfold SymOk at this
    cases hty : y.term with
    | true => exact .inl rfl
    | false => rw [if_neg (by simp [hty])] at this; rw [hEi.len]; exact .inr this
  obtain ⟨rfl, xa, xn, xc, rfl, hx⟩ := hv
  have hr4' := hr3.mono hF4
  refine ze hT zr zr zr zr zr ?_; refine zs hT 0 0 zr zr zr zr zr zr zr zr zr zr zr zr ?_; refine WT.nil ?_; refine AW.seq ?_
  refine AW.draw (ps := [(2, 1)]) rfl rfl ?_
  refine zl hT 2 zr zr zr zr zr zr me zr ?_
  refine WT.callN Tryz.func46 zr zr zr zr zr zr (copy_spec _ g hr4' (by omega) hr4) (fun F5 v B5 hF5 hv => ?_)
  obtain ⟨da, dc, rfl, hd⟩ := hv
  refine WT.freezeAll 0 rfl rfl (fun F6 hF6 hB6 => ?_)
  have hd6 := hd.frozen hF6 hB6
  have hx6 := (hx.mono hF5).mono hF6
  unfold gramCells
  refine zl hT 1 zr zr zr zr zr zr me zr ?_
  refine WT.callN Tryz.func51 zr zr zr zr zr zr (cstart_spec F6 (trimmed E g) (trim_right hg E) (trim_len hg E) (QP_inv (trimmed E g) []) (fun i r hr' hl => ⟨⟨r, hr', Nat.zero_le _, Nat.le_refl _⟩, fun _ L hL => hL.start i r hr' hl⟩) hx6) (fun F7 v B7 hF7 hv => ?_)
  obtain ⟨q, s, rfl, rfl, hs, hk, hin, hcl⟩ := hv
  refine ze hT zr zr zr zr zr ?_
  refine WT.boxT zr zr zr zr zr zr (fun fi hfi => ?_)
  (iterate 2 refine ze hT zr zr zr zr zr ?_); refine WT.nil ?_
  refine ⟨(by repeat (first | exact trivial | refine recs_pair rfl rfl (by first | exact keep0 | exact keep1 (keeps_frz (by assumption)) | exact kp 0 0 me me | exact kp 1 1 me me | exact kp 2 2 me me | exact kp 3 3 me me | exact kp 4 4 me me | exact kp 5 5 me me | exact kp 6 6 me me | exact kp 0 1 me me | exact kp 1 2 me me | exact kp 2 3 me me | exact kp 3 4 me me | exact kp 4 5 me me | exact kp 5 6 me me | exact kp 6 7 me me) ?_)), ?_⟩
  skip
  have hfew := hs.few (trim_right hg E) (trim_len hg E) (QP_inv (trimmed E g) [])
  refine AW.le (own2 := zB g ⟨fi, da, m, dc, q, restOf s, none, 0, 0, [], [], E⟩ :: s.BX :: own) (OwnLe.trans (b := [(fi, .cells false (zCells g ⟨fi, da, m, dc, q, restOf s, none, 0, 0, [], [], E⟩))] :: cB (trimmed E g) q s :: own) (OwnLe.trans (OwnLe.flat (List.Perm.of_eq (by simp [zB]))) (OwnLe.cons _ (own_rest (g := trimmed E g) (q := q) (s := s) own))) (OwnLe.cons _ (OwnLe.cons _ (by repeat (first | exact OwnLe.refl _ | refine OwnLe.skip _ ?_))))) ?_
  refine AW.freezeAll 1 rfl rfl (fun F8 hF8 hB8 => ?_)
  refine AW.le (own2 := zB g ⟨fi, da, m, dc, q, restOf s, none, 0, 0, [], [], E⟩ :: own) (OwnLe.flat (List.Perm.of_eq (by simp))) ?_
  have hls : LZ (restOf s) 0 = s.last := by rw [LZ_rest hs.oldl]; unfold LS; rw [if_pos hk.symm]
  refine AW.ret ⟨_, [_], ⟨_, _, rfl, ⟨_, _, rfl, rfl, rfl⟩, rfl⟩, (by repeat (first | exact List.Sublist.refl _ | refine List.Sublist.cons _ ?_)), _, rfl, ⟨fi, da, m, dc, q, restOf s, none, 0, 0, [], [], E⟩, rfl, rfl, ⟨(hd6.mono hF7).mono hF8, hEi, hs.rest (by omega) hF8 hB8, hk, ⟨?_, ?_, ?_, ?_⟩, (Bld.nil_ _ _).gb, fun t h => by cases h⟩, rfl⟩
  · intro k hk0 x hx
    obtain rfl : k = 0 := Nat.le_zero.1 hk0
    rw [hls] at hx
    have := (hs.qlast x hx).1
    rw [hk] at this; exact this
  · intro i r hr' hl
    rw [hls]; exact hin i r hr' hl
  · intro k hk0 x hx
    obtain rfl : k = 0 := Nat.le_zero.1 hk0
    rw [hls] at hx
    have := hcl x hx
    rw [hk, ← LZ_rest hs.oldl] at this; exact this
  · intro k t h; simp at h


/-! ### Next -/
theorem znextC_spec' (G : Frz) (g : Gram) (hg : Valid g) {f : FZ} (h : ZOk g G f) (hB : ∀ i b, (i, b) ∈ shB (trimmed f.E g) f.q f.s → G i = some b) :
    Abs.Spec CC 53 [.pointer (some ⟨f.q.ic, 0, none⟩)] G [] fun F' v o =>
      ∃ B', o = [B'] ∧ ∃ a' c' xs, v = .slice a' g.terms c' ∧ Vec tBool F' a' g.terms c' B' xs ∧ ∀ t, t < g.terms → (xs[t]? = some true ↔ ∃ x ∈ LZ f.s f.s.k, nextOf (trimmed f.E g).rules x = some ⟨true, t⟩) := by
  have hgt := hg.range.terms
  have hc := h.chart
  have hll := hc.len
  obtain ⟨last, hlast⟩ : ∃ l, f.s.lists[f.s.k]? = some l := ⟨_, List.getElem?_eq_getElem (by omega)⟩
  obtain ⟨xa, xn, xc, huk, hxa⟩ := hc.olds _ _ hlast
  have e : LZ f.s f.s.k = last := by unfold LZ; rw [List.getD_eq_getElem?_getD, hlast]; rfl
  rw [e]
  exact cnextA_spec G (trimmed f.E g) (trim_right hg _) (by show g.terms ≤ 1000; omega) (trim_sym hg _) (hB _ _ (List.mem_cons_self ..)) hc.rules (hc.list.arr (Frz.le.refl G) (fun i b hb => hB i b (List.mem_cons_of_mem _ (List.mem_append_right _ hb)))) huk hxa (fun x hx => (hc.all _ _ hlast x hx).1) (hc.olen _ _ hlast) hc.small

theorem znextC_spec (G : Frz) (g : Gram) (hg : Valid g) {f : FZ} (h : ZOk g G f) (hB : ∀ i b, (i, b) ∈ zB g f → G i = some b) :
    Abs.Spec CC 53 [.pointer (some ⟨f.q.ic, 0, none⟩)] G [] fun F' v o =>
      ∃ B', o = [B'] ∧ ∃ a' c' xs, v = .slice a' g.terms c' ∧ Vec tBool F' a' g.terms c' B' xs ∧ ∀ t, t < g.terms → (xs[t]? = some true ↔ ∃ x ∈ LZ f.s f.s.k, nextOf (trimmed f.E g).rules x = some ⟨true, t⟩) :=
  znextC_spec' G g hg h fun i b hb => hB i b (zsubC _ hb)

theorem zNext_spec (G : Frz) (hL : Laid G) (g : Gram) (hg : Valid g) {f : FZ} (h : ZOk g G f) (hw : f.w.length ≤ 12) (hB : ∀ i b, (i, b) ∈ zB g f → G i = some b) :
    Abs.Spec CC 17 [.pointer (some ⟨f.fi, 0, none⟩)] G [] fun F' v o => ∃ B', o = [B'] ∧ ∃ a' c' xs, v = .slice a' (g.terms + 1) c' ∧ Vec tBool F' a' (g.terms + 1) c' B' xs ∧ NextZ g f xs := by
  have hfi : G f.fi = some (.cells false [.int .i64 g.terms, .int .i64 g.nons, .int .i64 g.start, .slice f.ga f.gm f.gc, .pointer (some ⟨f.q.ic, 0, none⟩), .slice f.wa f.wn f.wc]) := hB _ _ (List.mem_cons_self ..)
  have hgt := hg.range.terms
  have hgn := hg.range.nons
  have hgs := hg.range.start
  have hwa := h.word.arr (Frz.le.refl G) (fun i b hb => hB i b (zsubW _ hb))
  have hwl := hwa.len
  refine Abs.Spec.fn (n := 36) Tryz.func17 rfl rfl fun own => ?_
  refine AW.seq ?_; refine AW.reg ?_; refine ze hT zr zr zr zr zr ?_; refine WT.nil ?_; refine AW.seq ?_
  refine AW.draw (ps := [(8, 4), (12, 4), (18, 4), (18, 13), (26, 4), (26, 13), (27, 4), (27, 13)]) rfl rfl ?_
  (iterate 3 refine ze hT zr zr zr zr zr ?_); refine zf hT (by assumption) zr zr zr zr zr zr ?_
  refine WT.callN Tryz.func53 zr zr zr zr zr zr (znextC_spec G g hg h hB) (fun F1 v B1 hF1 hv => ?_)
  obtain ⟨na, nc, xs, rfl, hv, hxs⟩ := hv
  have hfi1 := hF1 _ _ hfi
  have hL1 := hL.mono hF1
  have hwa1 := hwa.mono hF1
  (iterate 3 refine ze hT zr zr zr zr zr ?_); refine zf hT (by assumption) zr zr zr zr zr zr ?_; (iterate 3 refine ze hT zr zr zr zr zr ?_); refine zf hT (by assumption) zr zr zr zr zr zr ?_
  refine WT.callF0 Tryz.func57 zr zr zr zr zr zr (ends_spec F1 hL1 g hg (h.rules.mono hF1) hwa1 (by omega)) (fun F2 v hF2 hv2 => ?_)
  obtain ⟨ea, ec, E, rfl, hE, hE2⟩ := hv2
  have hfi2 := hF2 _ _ hfi1
  have hElen := hE2.ok.size
  (iterate 4 refine ze hT zr zr zr zr zr ?_); refine zf hT (by assumption) zr zr zr zr zr zr ?_
  refine WT.idxL hT hE zr zr zr zr zr zr zr zr zr (by omega) (fun row hrow b1 off ro cs lx hb1 hp1 hrel => ?_)
  obtain ⟨a2, n2, c2, rfl, hrow2⟩ := hrel
  have hrl := hE2.ok.row row (List.mem_of_getElem? hrow)
  refine zi (fo := 0) hT (by assumption) (by assumption) zr zr zr zr zr zr ?_
  refine WT.idxL (j := 0) hT hrow2 zr zr zr zr zr zr zr zr zr (by omega) (fun x hx b3 off3 ro3 cs3 lx3 hb3 hp3 hrel3 => ?_)
  obtain rfl : lx3 = _ := hrel3
  have hxb := hE2.ok.bit row (List.mem_of_getElem? hrow) x (List.mem_of_getElem? hx)
  have pwl : 2 ^ (f.w.length + 1) ≤ 4294967296 := Nat.pow_le_pow_right (j := 32) (by decide) (by omega)
  have e : derives g f.w g.start 0 f.w.length = x.testBit f.wn := by
    rw [Bool.eq_iff_iff, derives_iff, ← hE2.iff _ _ _ (Nat.zero_le _), ← hwl]
    constructor
    · rintro ⟨row', x', h3, h4, h5⟩
      rw [hrow] at h3; cases h3
      rw [hx] at h4; cases h4
      exact h5
    · intro hb; exact ⟨row, x, hrow, hx, hb⟩
  have e2 : (((x / 2 ^ f.wn &&& 1 : Nat) : Int) == 1) = derives g f.w g.start 0 f.w.length := by
    rw [shift_bit, e]; cases x.testBit f.wn <;> rfl
  refine zi (fo := 0) hT (by assumption) (by assumption) zr zr zr zr zr zr ?_; (iterate 3 refine ze hT zr zr zr zr zr ?_); refine zf hT (by assumption) zr zr zr zr zr zr ?_; refine ze hT zr zr zr zr zr ?_
  refine WT.shr32 (x := x) (y := f.wn) zr zr zr zr zr zr (by omega) ?_
  refine WT.and32 (x := x / 2 ^ f.wn) (y := 1) zr zr zr zr zr zr (Nat.lt_of_le_of_lt (Nat.div_le_self _ _) (by omega)) (by decide) ?_
  have hxne : xs ≠ [] := by
    intro e; subst e
    have h1 := hv.len
    have h2 : (trimmed f.E g).terms = g.terms := rfl
    simp at h1; omega
  have hvb := (hv.mono hF2).bld hxne
  have hxl : xs.length = g.terms := hv.len.symm
  refine ze hT zr zr zr zr zr ?_
  refine WT.buildT hT zr zr zr zr zr zr zr zr zr zr zr zr zr zr (fun i9 hi9 => ?_)
  refine WT.appendT (ys := [((x / 2 ^ f.wn &&& 1 : Nat) : Int) == 1]) hT 1 hvb rfl (fun _ => rfl) zr zr zr zr zr zr zr zr zr zr zr (fun h0 s0 => news_own hT s0 0 zr zr zr zr) (Cells.single (R := tBool) (x := (((x / 2 ^ f.wn &&& 1 : Nat) : Int) == 1)) rfl) rfl (by decide) (by show (g.terms + 1) * 1 ≤ _; omega) (fun a3 c3 B3 hB3 => ?_)
  refine ze hT zr zr zr zr zr ?_; refine WT.nil ?_
  refine ⟨(by repeat (first | exact trivial | refine recs_pair rfl rfl (by first | exact keep0 | exact keep1 (keeps_frz (by assumption)) | exact kp 0 0 me me | exact kp 1 1 me me | exact kp 2 2 me me | exact kp 3 3 me me | exact kp 4 4 me me | exact kp 5 5 me me | exact kp 6 6 me me | exact kp 0 1 me me | exact kp 1 2 me me | exact kp 2 3 me me | exact kp 3 4 me me | exact kp 4 5 me me | exact kp 5 6 me me | exact kp 6 7 me me) ?_)), ?_⟩
  skip
  refine AW.ret ⟨_, [_], ⟨_, _, rfl, rfl, rfl⟩, (by repeat (first | exact List.Sublist.refl _ | refine List.Sublist.cons _ ?_)), _, rfl, a3, c3, _, rfl, hB3.vec, ⟨?_, fun t ht => ?_, ?_⟩⟩
  · simp [hxl]
  · rw [List.getElem?_append_left (by omega)]
    exact hxs t ht
  · rw [List.getElem?_append_right (by omega), hxl, Nat.sub_self]
    exact congrArg some e2


/-! ### Put -/
theorem sets_putZ {g : Gram} {w : List Nat} {t : Nat} {s s' : SSt} {last new : List Item} (h : Sets g w (LZ s)) (hw : s.k = w.length) (hk : s'.k = s.k + 1) (hlen : s.lists.length = s.k + 1) (hlast : s.lists[s.k]? = some last) (ho : s'.lists = s.lists ++ [new])
    (hok : ∀ x ∈ new, ItemOk g.rules (s.k + 1) x) (hsc : ∀ x ∈ last, nextOf g.rules x = some ⟨true, t⟩ → stepItem x ∈ new) (hcl : ∀ x ∈ new, ItemClosed g.rules (LZ s') s'.k x) : Sets g (w ++ [t]) (LZ s') := by
  have hL : ∀ j, j ≤ s.k → LZ s' j = LZ s j := fun j hj => by
    unfold LZ
    rw [ho, List.getD_eq_getElem?_getD, List.getD_eq_getElem?_getD, List.getElem?_append_left (by omega)]
  have hN : LZ s' (s.k + 1) = new := by
    unfold LZ
    rw [ho, List.getD_eq_getElem?_getD, List.getElem?_append_right (by omega), show s.k + 1 - s.lists.length = 0 by omega]; rfl
  have hS : LZ s s.k = last := by unfold LZ; rw [List.getD_eq_getElem?_getD, hlast]; rfl
  refine ⟨fun k hk1 x hx => ?_, fun i r hr hl => ?_, fun k hk1 x hx => ?_, fun k t' ht x hx hn => ?_⟩
  · simp only [List.length_append, List.length_singleton] at hk1
    rcases Nat.lt_or_ge k (s.k + 1) with h1 | h1
    · rw [hL k (by omega)] at hx; exact h.ok k (by omega) x hx
    · obtain rfl : k = s.k + 1 := by omega
      rw [hN] at hx; exact hok x hx
  · rw [hL 0 (Nat.zero_le _)]; exact h.start i r hr hl
  · simp only [List.length_append, List.length_singleton] at hk1
    rcases Nat.lt_or_ge k (s.k + 1) with h1 | h1
    · rw [hL k (by omega)] at hx
      obtain ⟨c1, c2⟩ := h.closed k (by omega) x hx
      obtain ⟨_, _, _, hf⟩ := h.ok k (by omega) x hx
      refine ⟨fun n i r hn hr hl => ?_, fun r hr hd y hy hn => ?_⟩
      · rw [hL k (by omega)]; exact c1 n i r hn hr hl
      · rw [hL x.frm (by omega)] at hy
        rw [hL k (by omega)]; exact c2 r hr hd y hy hn
    · obtain rfl : k = s.k + 1 := by omega
      rw [hN] at hx
      have := hcl x hx
      rw [hk] at this; exact this
  · rcases Nat.lt_or_ge k w.length with h1 | h1
    · rw [List.getElem?_append_left h1] at ht
      rw [hL k (by omega)] at hx
      have h2 := h.scan k t' ht x hx hn
      rw [hL (k + 1) (by omega)]; exact h2
    · rw [List.getElem?_append_right h1] at ht
      have := (List.getElem?_eq_some_iff.1 ht).1
      simp at this
      have e : k = s.k := by omega
      subst e
      rw [hw, Nat.sub_self] at ht
      obtain rfl : t = t' := by simpa using ht
      rw [hL _ (Nat.le_refl _), hS] at hx
      rw [hN]; exact hsc x hx hn

theorem zPut_spec (F : Frz) (g : Gram) (hg : Valid g) {f : FZ} (h : ZOk g F f) (hw : f.w.length < 12) (t : Nat) (ht : t < g.terms) :
    Abs.Spec CC 12 [.pointer (some ⟨f.fi, 0, none⟩), .int .i64 t] F [zB g f] fun F' v o => ∃ B', o = [B'] ∧ ∃ f', B' = zB g f' ∧ ZOk g F' f' ∧ f'.fi = f.fi ∧ f'.E = f.E ∧
      (((∃ x ∈ LZ f.s f.s.k, nextOf (trimmed f.E g).rules x = some ⟨true, t⟩) ∧ v = .int .i64 0 ∧ f'.w = f.w ++ [t]) ∨ ((¬ ∃ x ∈ LZ f.s f.s.k, nextOf (trimmed f.E g).rules x = some ⟨true, t⟩) ∧ v = .int .i64 10 ∧ f'.w = f.w)) := by
  have hgt := hg.range.terms
  have hwl := h.word.len
  have hk := h.k
  refine Abs.Spec.fn (n := 47) Tryz.func12 rfl rfl fun own => ?_
  refine AW.le (own_zeed _ _ _ _) ?_
  refine AW.seq ?_; refine AW.reg ?_; refine ze hT zr zr zr zr zr ?_; refine WT.nil ?_; (iterate 2 refine AW.seq ?_); refine AW.reg ?_; (iterate 8 refine ze hT zr zr zr zr zr ?_); refine zl hT 0 zr zr zr zr zr zr me zr ?_; (iterate 2 refine ze hT zr zr zr zr zr ?_); refine WT.nil ?_
  refine AW.cond rfl (fun h => (by simp at h; omega)) (fun _ => ?_)
  refine AW.skip ?_; (iterate 2 refine AW.seq ?_); refine AW.reg ?_; (iterate 3 refine ze hT zr zr zr zr zr ?_); refine zl hT 0 zr zr zr zr zr zr me zr ?_; (iterate 2 refine ze hT zr zr zr zr zr ?_); refine WT.nil ?_
  refine AW.cond rfl (fun h => (by simp at h; omega)) (fun _ => ?_)
  refine AW.skip ?_; (iterate 2 refine AW.seq ?_); refine AW.reg ?_; (iterate 3 refine ze hT zr zr zr zr zr ?_); refine zl hT 0 zr zr zr zr zr zr me zr ?_
  refine WT.callLendN (P := fun v B' => ∃ a' c' xs, v = .slice a' g.terms c' ∧ Vec tBool F a' g.terms c' B' xs ∧ ∀ t, t < g.terms → (xs[t]? = some true ↔ ∃ x ∈ LZ f.s f.s.k, nextOf (trimmed f.E g).rules x = some ⟨true, t⟩)) 2 Tryz.func53 zr zr zr zr zr zr zr (fun G hG hBG => Spec.mono (znextC_spec' G g hg (h.mono hG) hBG) (fun F' v o _ hv => by
    obtain ⟨B', e, a2, c2, xs, e2, hv, hx⟩ := hv
    exact ⟨B', e, a2, c2, xs, e2, Vec.boolAny hv, hx⟩)) (fun v BN hv => ?_)
  obtain ⟨na, nc, xs, rfl, hv, hxs⟩ := hv
  have hxl : xs.length = g.terms := hv.len.symm
  obtain ⟨z, hz⟩ : ∃ z, xs[t]? = some z := ⟨_, List.getElem?_eq_getElem (by omega)⟩
  refine ze hT zr zr zr zr zr ?_
  refine WT.vidx hT hv zr zr zr zr zr zr zr zr zr ht (fun b5 hb5 => ?_)
  refine WT.vld1 hT 0 hv hb5 hz zr zr zr zr zr zr zr zr zr (fun l h => h) ?_
  refine ze hT zr zr zr zr zr ?_; refine WT.nil ?_
  refine AW.cond rfl (fun hc => ?_) (fun hc => ?_)
  · have hc : z = false := by simpa using hc
    have hno : ¬ ∃ x ∈ LZ f.s f.s.k, nextOf (trimmed f.E g).rules x = some ⟨true, t⟩ := by
      rw [← hxs t ht, hz, hc]; simp
    refine AW.seq ?_; refine AW.reg ?_; refine ze hT zr zr zr zr zr ?_; refine WT.nil ?_
    refine AW.le (OwnLe.skip _ (own_zeed' _ _ _ _)) ?_
    exact AW.ret ⟨_, [_], ⟨_, _, rfl, rfl, rfl⟩, (by repeat (first | exact List.Sublist.refl _ | refine List.Sublist.cons _ ?_)), _, rfl, f, rfl, h, rfl, rfl, .inr ⟨hno, rfl, rfl⟩⟩
  · have hc : z = true := by simpa using hc
    have hyes : ∃ x ∈ LZ f.s f.s.k, nextOf (trimmed f.E g).rules x = some ⟨true, t⟩ := by
      rw [← hxs t ht, hz, hc]
    refine AW.skip ?_; refine AW.seq ?_; refine AW.reg ?_; (iterate 3 refine ze hT zr zr zr zr zr ?_); refine zl hT 1 zr zr zr zr zr zr me zr ?_; refine ze hT zr zr zr zr zr ?_
    refine WT.call1F 3 Tryz.func54 zr zr zr zr zr zr zr (fun _ => rfl) (cputS_spec F (trimmed f.E g) (trim_right hg _) (trim_len hg _) (QP_inv _ (f.w ++ [t])) (h.chart.weaken (QP_more hk t)) (by omega) t (QP_scan hk t)) (fun F1 v B1 hF1 hv1 => ?_)
    obtain ⟨s', rfl, hs', hk', last, new, hlast, hold, hsc, hcl⟩ := hv1
    refine WT.nil ?_; refine AW.seq ?_; refine AW.reg ?_; (iterate 4 refine ze hT zr zr zr zr zr ?_); refine zl hT 1 zr zr zr zr zr zr me zr ?_; refine ze hT zr zr zr zr zr ?_
    refine WT.buildT hT zr zr zr zr zr zr zr zr zr zr zr zr zr zr (fun i43 hi43 => ?_)
    refine WT.appendG (ys := [t]) hT 3 (h.word.mono hF1) rfl (fun _ => rfl) zr zr zr zr zr zr zr zr zr zr zr (fun h0 s0 => news_own hT s0 0 zr zr zr zr) (Cells.single (R := tNat) (x := t) rfl) rfl (by decide) (by first | omega | (dsimp only at *; omega)) (fun wa' wc' BW' hBW' => ?_)
    (iterate 2 refine ze hT zr zr zr zr zr ?_); refine zs hT 2 0 zr zr zr zr zr zr zr zr zr zr zr zr ?_; refine WT.nil ?_; refine AW.seq ?_; refine AW.reg ?_; refine ze hT zr zr zr zr zr ?_; refine WT.nil ?_
    refine AW.le (OwnLe.skip _ (OwnLe.skip _ (own_zeed' _ _ _ _))) ?_
    refine AW.ret ⟨_, [_], ⟨_, _, rfl, rfl, rfl⟩, (by repeat (first | exact List.Sublist.refl _ | refine List.Sublist.cons _ ?_)), _, rfl, { f with s := s', wa := wa', wn := f.wn + 1, wc := wc', BW := BW', w := f.w ++ [t] }, rfl, ⟨h.rules.mono hF1, h.ends, hs', ?_, ?_, hBW'.gb, ?_⟩, rfl, rfl, .inl ⟨hyes, rfl, rfl⟩⟩
    · show s'.k = (f.w ++ [t]).length
      rw [hk', hk]; simp
    · exact sets_putZ h.sets hk hk' h.chart.len hlast hold (fun x hx => (hs'.all _ _ (by rw [hold, List.getElem?_append_right (by have := h.chart.len; omega), show f.s.k + 1 - f.s.lists.length = 0 by have := h.chart.len; omega]; rfl) x hx).1) hsc hcl
    · intro t' ht'
      rcases List.mem_append.1 ht' with h1 | h1
      · exact h.ok t' h1
      · simp at h1; subst h1; exact ht
end Go.Proofs.D

set_option linter.unusedVariables false
set_option maxRecDepth 20000
set_option maxHeartbeats 0
open Go Go.Abs Go.Proofs Go.Proofs.D
namespace Go.Proofs.D

/-- No end lies before its beginning. -/
def LowOk (E : List (List Nat)) : Prop := ∀ row ∈ E, ∀ (p x : Nat), row[p]? = some x → ∀ q, x.testBit q = true → p ≤ q

theorem EndsOf.low {g : Gram} {w : List Nat} {E : List (List Nat)} (h : EndsOf g w E) : LowOk E := by
  intro row hrow p x hx q hq
  obtain ⟨n, hn, rfl⟩ := List.getElem_of_mem hrow
  have hp := (List.getElem?_eq_some_iff.1 hx).1
  have := h.ok.row _ hrow
  exact der_le ((h.iff n p q (by omega)).1 ⟨_, x, List.getElem?_eq_getElem hn, hx, hq⟩)

end Go.Proofs.D

set_option linter.unusedVariables false
set_option maxRecDepth 20000
set_option maxHeartbeats 0
open Go Go.Abs Go.Proofs Go.Proofs.D
namespace Go.Proofs.D

theorem endsOf_uniq {g : Gram} {w : List Nat} {E E' : List (List Nat)} (h : EndsOf g w E) (h' : EndsOf g w E') : E = E' := by
  refine List.ext_getElem (by rw [h.ok.size, h'.ok.size]) fun n h1 h2 => ?_
  have l1 := h.ok.row _ (List.getElem_mem h1)
  have l2 := h'.ok.row _ (List.getElem_mem h2)
  refine List.ext_getElem (by rw [l1, l2]) fun i h3 h4 => ?_
  refine Nat.eq_of_testBit_eq fun q => ?_
  rw [Bool.eq_iff_iff]
  have e1 : (E[n][i]).testBit q = true ↔ Der g w ⟨false, n⟩ i q := by
    rw [← h.iff n i q (by omega)]
    constructor
    · intro hb; exact ⟨_, _, List.getElem?_eq_getElem h1, List.getElem?_eq_getElem h3, hb⟩
    · rintro ⟨row, x, r1, r2, r3⟩
      rw [List.getElem?_eq_getElem h1] at r1; cases r1
      rw [List.getElem?_eq_getElem h3] at r2; cases r2
      exact r3
  have e2 : (E'[n][i]).testBit q = true ↔ Der g w ⟨false, n⟩ i q := by
    rw [← h'.iff n i q (by omega)]
    constructor
    · intro hb; exact ⟨_, _, List.getElem?_eq_getElem h2, List.getElem?_eq_getElem h4, hb⟩
    · rintro ⟨row, x, r1, r2, r3⟩
      rw [List.getElem?_eq_getElem h2] at r1; cases r1
      rw [List.getElem?_eq_getElem h4] at r2; cases r2
      exact r3
  rw [e1, e2]

theorem sum_sub {α : Type} [DecidableEq α] (f : α → Nat) : ∀ (L S : List α), L.Nodup → (∀ x ∈ L, x ∈ S) → (L.map f).sum ≤ (S.map f).sum
  | [], S, _, _ => Nat.zero_le _
  | x :: L, S, hn, hs => by
    obtain ⟨h1, h2⟩ := List.nodup_cons.1 hn
    have hp := List.perm_cons_erase (hs x (List.mem_cons_self ..))
    have := (hp.map f).sum_nat
    rw [this, List.map_cons, List.map_cons, List.sum_cons, List.sum_cons]
    refine Nat.add_le_add_left (sum_sub f L (S.erase x) h2 fun y hy => ?_) _
    rw [List.mem_erase_of_ne (by rintro rfl; exact h1 hy)]
    exact hs y (List.mem_cons_of_mem _ hy)

theorem makeRes_form {g : Gram} {w : List Nat} {E : List (List Nat)} {F : Frz} {v : Value} (h : MakeRes g w E F v) : ∃ a n c r e, v = .tuple ⟨[.agg ⟨[.slice a n c, .int .i64 r]⟩, .int .i64 e]⟩ := by
  rcases h with ⟨s, a, n, c, r, rfl, rfl, _⟩ | ⟨rfl, _⟩
  · exact ⟨_, _, _, _, _, rfl⟩
  · exact ⟨_, _, _, _, _, rfl⟩

theorem makeRes_cases {g : Gram} {w : List Nat} {E : List (List Nat)} {F : Frz} {a : Option Addr} {n c : Nat} {r e : Int} (h : MakeRes g w E F (.tuple ⟨[.agg ⟨[.slice a n c, .int .i64 r]⟩, .int .i64 e]⟩)) :
    (e = 0 ∧ ((stepB w E ⟨false, g.start⟩ 0 w.length = false ∧ a = none ∧ n = 0 ∧ c = 0 ∧ r = -1) ∨
      (stepB w E ⟨false, g.start⟩ 0 w.length = true ∧ ∃ S, r = (place S (rootKey g w) : Nat) ∧ Keys g w E (rootKey g w) S ∧ Arr tNode F a n c (S.map (mkNode g w E S)) ∧ packSum g w E S ≤ 20000))) ∨
    (e = 2 ∧ a = none ∧ n = 0 ∧ c = 0 ∧ r = 0 ∧ stepB w E ⟨false, g.start⟩ 0 w.length = true ∧ ∃ L : List Key, L.Nodup ∧ (∀ k ∈ L, Reachable g w E (rootKey g w) k) ∧ 20000 < packSum g w E L) := by
  rcases h with ⟨s, a', n', c', r', hs, he, hx, hx2⟩ | ⟨he, hx, hx2⟩
  · subst hs
    cases he
    refine .inl ⟨rfl, ?_⟩
    rcases hx with ⟨h1, h2⟩ | ⟨h1, S, a2, n2, c2, h2, hK, hA⟩
    · cases h2
      exact .inl ⟨h1, rfl, rfl, rfl, rfl⟩
    · cases h2
      exact .inr ⟨h1, S, rfl, hK, hA, hx2 S hK h1⟩
  · cases he
    exact .inr ⟨rfl, rfl, rfl, rfl, rfl, hx, hx2⟩

theorem makeRes_pair {g : Gram} (hg : Valid g) {w : List Nat} (hw12 : w.length ≤ 12) {E : List (List Nat)} {F F' : Frz} {a a' : Option Addr} {n n' c c' : Nat} {r r' e e' : Int} (h : MakeRes g w E F (.tuple ⟨[.agg ⟨[.slice a n c, .int .i64 r]⟩, .int .i64 e]⟩)) (h' : MakeRes g w E F' (.tuple ⟨[.agg ⟨[.slice a' n' c', .int .i64 r']⟩, .int .i64 e']⟩)) :
    n' = n ∧ r' = r ∧ e' = e ∧ n ≤ 1000000 ∧ ∃ Ns, (∀ x ∈ Ns, x.packs.length ≤ 1000000) ∧ Arr tNode F a n c Ns ∧ Arr tNode F' a' n c' Ns := by
  have big : ∀ {S L : List Key}, Keys g w E (rootKey g w) S → packSum g w E S ≤ 20000 → L.Nodup → (∀ k ∈ L, Reachable g w E (rootKey g w) k) → 20000 < packSum g w E L → False := fun {S L} hK h1 h2 h3 h4 => by
    have : packSum g w E L ≤ packSum g w E S := sum_sub _ L S h2 fun x hx => hK.all (h3 x hx)
    omega
  rcases makeRes_cases h with ⟨he, h1⟩ | ⟨he, ha, hn, hc, hr, hst, L, hL1, hL2, hL3⟩
  · rcases makeRes_cases h' with ⟨he', h1'⟩ | ⟨he', ha', hn', hc', hr', hst', L, hL1, hL2, hL3⟩
    · rcases h1 with ⟨h2, ha, hn, hc, hr⟩ | ⟨h2, S, hr, hK, hA, hS⟩
      · rcases h1' with ⟨h2', ha', hn', hc', hr'⟩ | ⟨h2', _⟩
        · subst ha hn hc hr ha' hn' hc' hr'
          exact ⟨rfl, rfl, by rw [he, he'], by omega, [], fun x hx => (by cases hx), Arr.nil_ _ _, Arr.nil_ _ _⟩
        · rw [h2] at h2'; cases h2'
      · rcases h1' with ⟨h2', _⟩ | ⟨h2', S', hr', hK', hA', hS'⟩
        · rw [h2] at h2'; cases h2'
        · obtain rfl := keys_uniq hK hK'
          have hnn : n' = n := by rw [hA.len, hA'.len]
          subst hnn
          have hok := nodes_ok hg hw12 hK (root_good hg w)
          exact ⟨rfl, by rw [hr, hr'], by rw [he, he'], by have := hok.few; rw [← hA.len] at this; exact this, _, hok.packs, hA, hA'⟩
    · exfalso
      rcases h1 with ⟨h2, _⟩ | ⟨h2, S, hr, hK, hA, hS⟩
      · rw [hst'] at h2; cases h2
      · exact big hK hS hL1 hL2 hL3
  · rcases makeRes_cases h' with ⟨he', h1'⟩ | ⟨he', ha', hn', hc', hr', _⟩
    · exfalso
      rcases h1' with ⟨h2, _⟩ | ⟨h2, S, hr, hK, hA, hS⟩
      · rw [hst] at h2; cases h2
      · exact big hK hS hL1 hL2 hL3
    · subst ha hn hc hr ha' hn' hc' hr'
      exact ⟨rfl, rfl, by rw [he, he'], by omega, [], fun x hx => (by cases hx), Arr.nil_ _ _, Arr.nil_ _ _⟩

end Go.Proofs.D

set_option linter.unusedVariables false
set_option maxRecDepth 20000
set_option maxHeartbeats 0
open Go Go.Abs Go.Proofs Go.Proofs.D
namespace Go.Proofs.D

/-! ### parsers that have read the same accept the same -/
theorem endsIn_uniq {g : Gram} {E E' : List Bool} (h : EndsIn g E) (h' : EndsIn g E') : E = E' := by
  refine List.ext_getElem (by rw [h.len, h'.len]) fun n h1 h2 => ?_
  have e1 := h.iff (n := n)
  have e2 := h'.iff (n := n)
  rw [List.getElem?_eq_getElem h1] at e1
  rw [List.getElem?_eq_getElem h2] at e2
  have e3 : (E[n] = true) ↔ (E'[n] = true) := by
    constructor
    · intro hx; exact Option.some.inj (e2.2 (e1.1 (congrArg some hx)))
    · intro hx; exact Option.some.inj (e1.2 (e2.1 (congrArg some hx)))
  exact Bool.eq_iff_iff.2 e3

def FZ.acc (g : Gram) (f : FZ) (t : Nat) : Prop := ∃ x ∈ LZ f.s f.s.k, nextOf (trimmed f.E g).rules x = some ⟨true, t⟩

theorem sets_sub {g : Gram} {F F' : Frz} {f f' : FZ} (h : ZOk g F f) (h' : ZOk g F' f') (hw : f.w = f'.w) {k : Nat} (hk : k ≤ f.s.k) {x : Item} (hx : x ∈ LZ f.s k) : x ∈ LZ f'.s k := by
  have hE := endsIn_uniq h.ends h'.ends
  have hl := h.chart.len
  obtain ⟨l, hl1⟩ : ∃ l, f.s.lists[k]? = some l := ⟨_, List.getElem?_eq_getElem (by omega)⟩
  have hx' : x ∈ l := by
    unfold LZ at hx
    rw [List.getD_eq_getElem?_getD, hl1] at hx
    exact hx
  obtain ⟨_, hq⟩ := h.chart.all k l hl1 x hx'
  refine hq (by rw [← h.k]; exact hk) _ ?_
  rw [hE, hw]
  exact h'.sets.cut k

theorem acc_sub {g : Gram} {F F' : Frz} {f f' : FZ} (h : ZOk g F f) (h' : ZOk g F' f') (hw : f.w = f'.w) {t : Nat} (ha : f.acc g t) : f'.acc g t := by
  obtain ⟨x, hx, hn⟩ := ha
  have hE := endsIn_uniq h.ends h'.ends
  have hkk : f.s.k = f'.s.k := by rw [h.k, h'.k, hw]
  refine ⟨x, ?_, by rw [← hE]; exact hn⟩
  rw [← hkk]
  exact sets_sub h h' hw (Nat.le_refl _) hx

theorem acc_same {g : Gram} {F F' : Frz} {f f' : FZ} (h : ZOk g F f) (h' : ZOk g F' f') (hw : f.w = f'.w) (t : Nat) : f.acc g t ↔ f'.acc g t := ⟨acc_sub h h' hw, acc_sub h' h hw.symm⟩

theorem nextZ_same {g : Gram} {F F' : Frz} {f f' : FZ} (h : ZOk g F f) (h' : ZOk g F' f') (hw : f.w = f'.w) {xs ys : List Bool} (hx : NextZ g f xs) (hy : NextZ g f' ys) : xs = ys := by
  refine List.ext_getElem (by rw [hx.len, hy.len]) fun n h1 h2 => ?_
  have e : xs[n]? = ys[n]? := by
    rcases Nat.lt_or_ge n g.terms with hn | hn
    · have a1 := hx.term n hn
      have a2 := hy.term n hn
      have a3 : (xs[n]? = some true) ↔ (ys[n]? = some true) := a1.trans ((acc_same h h' hw n).trans a2.symm)
      rw [List.getElem?_eq_getElem h1, List.getElem?_eq_getElem h2] at a3 ⊢
      congr 1
      rw [Bool.eq_iff_iff]
      exact ⟨fun q => Option.some.inj (a3.1 (congrArg some q)), fun q => Option.some.inj (a3.2 (congrArg some q))⟩
    · obtain rfl : n = g.terms := by have := hx.len; omega
      rw [hx.done, hy.done, hw]
  rw [List.getElem?_eq_getElem h1, List.getElem?_eq_getElem h2] at e
  exact Option.some.inj e

/-! ### going back -/
theorem Sets.congr {g : Gram} {w : List Nat} {L L' : Nat → List Item} (h : Sets g w L) (e : ∀ j, j ≤ w.length → L' j = L j) : Sets g w L' where
  ok := fun k hk x hx => h.ok k hk x (by rw [← e k hk]; exact hx)
  start := fun i r hr hl => by rw [e 0 (Nat.zero_le _)]; exact h.start i r hr hl
  closed := fun k hk x hx => by
    rw [e k hk] at hx
    obtain ⟨c1, c2⟩ := h.closed k hk x hx
    obtain ⟨_, _, _, hf⟩ := h.ok k hk x hx
    refine ⟨fun n i r hn hr hl => by rw [e k hk]; exact c1 n i r hn hr hl, fun r hr hd y hy hn => ?_⟩
    rw [e x.frm (by omega)] at hy
    rw [e k hk]; exact c2 r hr hd y hy hn
  scan := fun k t ht x hx hn => by
    have hk := (List.getElem?_eq_some_iff.1 ht).1
    rw [e k (by omega)] at hx
    rw [e (k + 1) (by omega)]; exact h.scan k t ht x hx hn

def FZ.back (f : FZ) (n : Nat) : FZ := { f with s := f.s.back n, wn := f.wn - n, w := f.w.take (f.w.length - n) }

theorem ZOk.back {g : Gram} {F : Frz} {f : FZ} (h : ZOk g F f) {n : Nat} (hn : n ≤ f.w.length) : ZOk g F (f.back n) := by
  have hk := h.k
  have hwl := h.word.len
  refine ⟨h.rules, h.ends, (h.chart.back (by omega)).weaken (fun k x hk2 hx => ?_), ?_, ?_, ?_, fun t ht => h.ok t (List.mem_of_mem_take ht)⟩
  · have hk2 : k ≤ f.s.k - n := hk2
    refine ⟨hx.1, fun _ L hL => hx.2 (by omega) L ?_⟩
    have hL : Sets (trimmed f.E g) ((f.w.take (f.w.length - n)).take k) L := hL
    rw [List.take_take, show min k (f.w.length - n) = k by omega] at hL
    exact hL
  · show f.s.k - n = (f.w.take (f.w.length - n)).length
    rw [List.length_take]; omega
  · refine (h.sets.cut (f.w.length - n)).congr fun j hj => ?_
    rw [List.length_take] at hj
    show (f.s.lists.take (f.s.k - n + 1)).getD j [] = f.s.lists.getD j []
    rw [List.getD_eq_getElem?_getD, List.getD_eq_getElem?_getD, List.getElem?_take, if_pos (by omega)]
  · have := h.word.take (k := f.wn - n) (by omega)
    show GB tNat F f.wa (f.wn - n) f.wc f.BW (f.w.take (f.w.length - n))
    rw [hwl] at this ⊢
    exact this

theorem zBackE_spec (G : Frz) {g : Gram} {f : FZ} (h : ZOk g G f) (hw : f.w.length ≤ 12) (hB : ∀ i b, (i, b) ∈ zB g f → G i = some b) (n : Nat) (hn : f.w.length < n) :
    Abs.Spec CC 13 [.pointer (some ⟨f.fi, 0, none⟩), .int .i64 n] G [] fun _ v o => o = [] ∧ v = .int .i64 1 := by
  have hfi : G f.fi = some (.cells false [.int .i64 g.terms, .int .i64 g.nons, .int .i64 g.start, .slice f.ga f.gm f.gc, .pointer (some ⟨f.q.ic, 0, none⟩), .slice f.wa f.wn f.wc]) := hB _ _ (List.mem_cons_self ..)
  have hwl := h.word.len
  refine Abs.Spec.fn (n := 37) Tryz.func13 rfl rfl fun own => ?_
  refine AW.seq ?_; refine AW.reg ?_; refine ze hT zr zr zr zr zr ?_; refine WT.nil ?_; (iterate 2 refine AW.seq ?_); refine AW.reg ?_; (iterate 7 refine ze hT zr zr zr zr zr ?_); refine zf hT (by assumption) zr zr zr zr zr zr ?_; (iterate 3 refine ze hT zr zr zr zr zr ?_); refine WT.nil ?_
  refine AW.cond rfl (fun _ => ?_) (fun hc => ?_)
  · refine AW.seq ?_; refine AW.reg ?_; refine ze hT zr zr zr zr zr ?_; refine WT.nil ?_
    exact AW.ret ⟨_, [], ⟨_, _, rfl, rfl, rfl⟩, (by repeat (first | exact List.Sublist.refl _ | refine List.Sublist.cons _ ?_)), rfl, rfl⟩
  · exfalso
    simp at hc
    omega

theorem zBack_spec (F : Frz) {g : Gram} {f : FZ} (h : ZOk g F f) (hw : f.w.length ≤ 12) {n : Nat} (hn : n ≤ f.w.length) :
    Abs.Spec CC 13 [.pointer (some ⟨f.fi, 0, none⟩), .int .i64 n] F [zB g f] fun F' v o => ∃ B', o = [B'] ∧ v = .int .i64 0 ∧ B' = zB g (f.back n) := by
  have hwl := h.word.len
  have hk := h.k
  unfold zB zCells
  refine Abs.Spec.fn (n := 37) Tryz.func13 rfl rfl fun own => ?_
  refine AW.le (own_zeed _ _ _ _) ?_
  refine AW.seq ?_; refine AW.reg ?_; refine ze hT zr zr zr zr zr ?_; refine WT.nil ?_; (iterate 2 refine AW.seq ?_); refine AW.reg ?_; (iterate 7 refine ze hT zr zr zr zr zr ?_); refine zl hT 0 zr zr zr zr zr zr me zr ?_; (iterate 3 refine ze hT zr zr zr zr zr ?_); refine WT.nil ?_
  refine AW.cond rfl (fun h => (by simp at h; omega)) (fun _ => ?_)
  refine AW.skip ?_; refine AW.seq ?_; refine AW.reg ?_; (iterate 3 refine ze hT zr zr zr zr zr ?_); refine zl hT 0 zr zr zr zr zr zr me zr ?_; refine ze hT zr zr zr zr zr ?_
  refine WT.call1F 2 Tryz.func55 zr zr zr zr zr zr zr (fun _ => rfl) (cback_spec F (trimmed f.E g) h.chart (by omega)) (fun F1 v B1 hF1 hv => ?_)
  subst hv
  refine WT.nil ?_; refine AW.seq ?_; refine AW.draw (ps := []) zr zr ?_; (iterate 4 refine ze hT zr zr zr zr zr ?_); refine zl hT 0 zr zr zr zr zr zr me zr ?_; (iterate 3 refine ze hT zr zr zr zr zr ?_); refine zl hT 0 zr zr zr zr zr zr me zr ?_; (iterate 2 refine ze hT zr zr zr zr zr ?_); refine zb zr zr zr zr zr zr (by omega) ?_
  refine WT.know (v' := .int .i64 ((f.wn - n : Nat) : Int)) 33 rfl (by rw [Int.ofNat_sub (show n ≤ f.wn by omega)]) ?_
  refine WT.sliceG (j := f.wn - n) hT (h.word.mono hF1) zr zr zr zr zr zr zr zr zr (Nat.sub_le _ _) ?_
  (iterate 2 refine ze hT zr zr zr zr zr ?_); refine zs hT 0 0 zr zr zr zr zr zr zr zr zr zr zr zr ?_; refine WT.nil ?_; refine And.intro trivial ?_; refine AW.seq ?_; refine AW.reg ?_; refine ze hT zr zr zr zr zr ?_; refine WT.nil ?_
  skip
  refine AW.le (own_zeed' _ _ _ _) ?_
  exact AW.ret ⟨_, [_], ⟨_, _, rfl, rfl, rfl⟩, (by repeat (first | exact List.Sublist.refl _ | refine List.Sublist.cons _ ?_)), _, rfl, rfl, rfl⟩

theorem zWord_spec (G : Frz) {g : Gram} {f : FZ} (h : ZOk g G f) (hw : f.w.length ≤ 12) (hB : ∀ i b, (i, b) ∈ zB g f → G i = some b) :
    Abs.Spec CC 15 [.pointer (some ⟨f.fi, 0, none⟩)] G [] fun F' v o => ∃ B', o = [B'] ∧ ∃ a' c', v = .slice a' f.wn c' ∧ Vec tNat F' a' f.wn c' B' f.w := by
  have hfi : G f.fi = some (.cells false [.int .i64 g.terms, .int .i64 g.nons, .int .i64 g.start, .slice f.ga f.gm f.gc, .pointer (some ⟨f.q.ic, 0, none⟩), .slice f.wa f.wn f.wc]) := hB _ _ (List.mem_cons_self ..)
  have hwa := h.word.arr (Frz.le.refl G) (fun i b hb => hB i b (zsubW _ hb))
  have hwl := hwa.len
  refine Abs.Spec.fn (n := 8) Tryz.func15 rfl rfl fun own => ?_
  refine AW.seq ?_; refine AW.reg ?_; refine ze hT zr zr zr zr zr ?_; refine WT.nil ?_; refine AW.seq ?_; refine AW.reg ?_; (iterate 3 refine ze hT zr zr zr zr zr ?_); refine zf hT (by assumption) zr zr zr zr zr zr ?_
  refine WT.callN Tryz.func56 zr zr zr zr zr zr (numClone_spec G hwa (by omega)) (fun F1 v B1 hF1 hv => ?_)
  obtain ⟨ca, cc, rfl, hv⟩ := hv
  refine ze hT zr zr zr zr zr ?_; refine WT.nil ?_
  exact AW.ret ⟨_, [_], ⟨_, _, rfl, rfl, rfl⟩, (by repeat (first | exact List.Sublist.refl _ | refine List.Sublist.cons _ ?_)), _, rfl, ca, cc, rfl, hv⟩

theorem Vec.natAny {F G : Frz} {a : Option Addr} {n c : Nat} {B : List (Nat × Blk)} {xs : List Nat} (h : Vec tNat F a n c B xs) : Vec tNat G a n c B xs := by
  have cells : ∀ {cs : List Value} {xs : List Nat}, Cells tNat F cs xs → Cells tNat G cs xs := by
    intro cs xs h
    induction h with
    | nil => exact .nil
    | cons h1 _ ih => exact .cons h1 ih
  exact ⟨h.len, h.cap, h.zero, h.nil, h.spot, h.el.imp id fun ⟨i, cs, h1, h2, h3, h4⟩ => ⟨i, cs, h1, h2, cells h3, h4⟩⟩

theorem zForest_spec (G : Frz) (hL : Laid G) (g : Gram) (hg : Valid g) {f : FZ} (h : ZOk g G f) (hw : f.w.length ≤ 12) (hB : ∀ i b, (i, b) ∈ zB g f → G i = some b) :
    Abs.Spec CC 18 [.pointer (some ⟨f.fi, 0, none⟩)] G [] fun F' v o => o = [] ∧ ∃ E, EndsOf g f.w E ∧ MakeRes g f.w E F' v := by
  have hfi : G f.fi = some (.cells false [.int .i64 g.terms, .int .i64 g.nons, .int .i64 g.start, .slice f.ga f.gm f.gc, .pointer (some ⟨f.q.ic, 0, none⟩), .slice f.wa f.wn f.wc]) := hB _ _ (List.mem_cons_self ..)
  have hwa := h.word.arr (Frz.le.refl G) (fun i b hb => hB i b (zsubW _ hb))
  refine Abs.Spec.fn (n := 15) Tryz.func18 rfl rfl fun own => ?_
  refine AW.seq (AW.reg ?_)
  refine WT.allocT hT zr zr zr zr zr zr (fun i2 hi2 => ?_)
  refine ze hT zr zr zr zr zr ?_; refine WT.nil ?_; refine AW.seq ?_; refine AW.draw (ps := []) zr zr ?_; (iterate 3 refine ze hT zr zr zr zr zr ?_); refine zf hT (by assumption) zr zr zr zr zr zr ?_; (iterate 3 refine ze hT zr zr zr zr zr ?_); refine zf hT (by assumption) zr zr zr zr zr zr ?_
  skip
  refine WT.callF0 Tryz.func21 zr zr zr zr zr zr (forestOf_spec _ hL g hg h.rules hwa hw h.ok) (fun F2 v hF2 hv => ?_)
  obtain ⟨E, hE, hv⟩ := hv
  obtain ⟨fa, fn, fc, fr, fe, rfl⟩ := makeRes_form hv
  (iterate 2 refine ze hT zr zr zr zr zr ?_); refine zs hT 0 0 zr zr zr zr zr zr zr zr zr zr zr zr ?_; refine ze hT zr zr zr zr zr ?_; refine WT.nil ?_; refine And.intro trivial ?_
  exact AW.ret ⟨_, [], ⟨_, _, ⟨_, rfl, fun G h0 s0 => loadA_cells (s0.has (p := 0) rfl (List.mem_cons_self ..)) (readT_ok hT rfl)⟩, ⟨_, _, rfl, rfl, rfl⟩, rfl⟩, (by repeat (first | exact List.Sublist.refl _ | refine List.Sublist.cons _ ?_)), rfl, E, hE, hv⟩

theorem boolEqual_spec (F : Frz) {a b : Option Addr} {m n c d : Nat} {xs ys : List Bool} (hx : Arr tBool F a m c xs) (hy : Arr tBool F b n d ys) (hm : m ≤ 1000000) :
    Abs.Spec CC 16 [.slice a m c, .slice b n d] F [] fun _ v o => o = [] ∧ v = .bool (decide (xs = ys)) := by
  refine Abs.Spec.fn (n := 26) Tryz.func16 rfl rfl fun own => ?_
  have hxlen := hx.len
  have hylen := hy.len
  refine AW.seq ?_; refine AW.reg ?_; refine ze hT zr zr zr zr zr ?_; refine WT.nil ?_; (iterate 2 refine AW.seq ?_); refine AW.reg ?_; (iterate 5 refine ze hT zr zr zr zr zr ?_); refine WT.nil ?_
  refine AW.cond rfl (fun hc => ?_) (fun hc => ?_)
  · refine AW.seq ?_; refine AW.reg ?_; refine ze hT zr zr zr zr zr ?_; refine WT.nil ?_
    refine AW.ret ⟨_, [], ⟨_, _, rfl, rfl, rfl⟩, (by repeat (first | exact List.Sublist.refl _ | refine List.Sublist.cons _ ?_)), rfl, ?_⟩
    have : xs ≠ ys := by rintro rfl; simp at hc; omega
    simp [this, tupleA]
  · have hmn : m = n := by simp at hc; omega
    refine AW.skip ?_; (iterate 2 refine AW.seq ?_); refine AW.reg ?_; (iterate 3 refine ze hT zr zr zr zr zr ?_); refine WT.nil ?_
    refine AW.range (S := Unit) (fun _ => []) (fun _ => _) (fun j _ G => xs.take j = ys.take j) m () zr zr zr zr zr zr zr zr zr (by omega) rfl rfl (fun _ => rfl) (fun _ => rfl) (SubK.of_map rfl) (OwnLe.refl _) (by simp) ?_ ?_
    · intro j _ F1 hF1 hj hP
      have hx1 := hx.mono hF1
      have hy1 := hy.mono hF1
      refine AW.seq ?_; refine AW.reg ?_; (iterate 2 refine ze hT zr zr zr zr zr ?_); refine WT.nil ?_; refine AW.seq ?_; refine AW.draw (ps := []) zr zr ?_; (iterate 2 refine ze hT zr zr zr zr zr ?_)
      refine WT.idxL hT hx1 zr zr zr zr zr zr zr zr zr (by omega) (fun x hxj b1 off ro cs lx hb hp1 hrel => ?_)
      obtain rfl : lx = _ := hrel
      refine zi (fo := 0) hT (by assumption) (by assumption) zr zr zr zr zr zr ?_; (iterate 2 refine ze hT zr zr zr zr zr ?_)
      refine WT.idxL hT hy1 zr zr zr zr zr zr zr zr zr (by omega) (fun y hyj b2 off2 ro2 cs2 ly hb2 hp2 hrel2 => ?_)
      obtain rfl : ly = _ := hrel2
      refine zi (fo := 0) hT (by assumption) (by assumption) zr zr zr zr zr zr ?_; refine zv hT zr zr zr zr zr zr zr zr ?_; refine WT.nil ?_; refine And.intro trivial ?_
      refine AW.cond rfl (fun hc => ?_) (fun hc => ?_)
      · refine AW.seq ?_; refine AW.reg ?_; refine ze hT zr zr zr zr zr ?_; refine WT.nil ?_
        refine AW.ret ⟨_, [], ⟨_, _, rfl, rfl, rfl⟩, (by repeat (first | exact List.Sublist.refl _ | refine List.Sublist.cons _ ?_)), rfl, ?_⟩
        have : xs ≠ ys := by
          rintro rfl
          rw [hxj] at hyj
          cases hyj
          simp at hc
        simp [this, tupleA]
      · have hc : x = y := by simpa using hc
        refine AW.skip ?_
        refine ⟨(), SubK.of_map rfl, (by repeat (first | exact OwnLe.refl _ | refine OwnLe.skip _ ?_)), ?_⟩
        show xs.take (j + 1) = ys.take (j + 1)
        rw [List.take_add_one, List.take_add_one, hP, hxj, hyj, hc]
    · intro _ F1 hF1 hP
      rw [List.take_of_length_le (by omega), List.take_of_length_le (by omega)] at hP
      refine AW.seq ?_; refine AW.reg ?_; refine ze hT zr zr zr zr zr ?_; refine WT.nil ?_
      refine AW.ret ⟨_, [], ⟨_, _, rfl, rfl, rfl⟩, (by repeat (first | exact List.Sublist.refl _ | refine List.Sublist.cons _ ?_)), rfl, ?_⟩
      simp [hP, tupleA]
end Go.Proofs.D

set_option linter.unusedVariables false
set_option maxRecDepth 20000
set_option maxHeartbeats 0
open Go Go.Abs Go.Proofs Go.Proofs.D
namespace Go.Proofs.D

def PutV (g : Gram) (f : FZ) (t : Nat) (f' : FZ) (v : Value) : Prop :=
  (f.acc g t ∧ v = .int .i64 0 ∧ f'.w = f.w ++ [t]) ∨ (¬ f.acc g t ∧ v = .int .i64 10 ∧ f'.w = f.w)

theorem putV_pair {g : Gram} {F F' : Frz} {a b a' b' : FZ} {t : Nat} {v u : Value} (ha : ZOk g F a) (hb : ZOk g F' b) (hw : a.w = b.w) (h1 : PutV g a t a' v) (h2 : PutV g b t b' u) :
    v = u ∧ a'.w = b'.w ∧ ((v = .int .i64 0 ∧ a'.w = a.w ++ [t]) ∨ (v = .int .i64 10 ∧ a'.w = a.w)) := by
  have hs := acc_same ha hb hw t
  rcases h1 with ⟨a1, a2, a3⟩ | ⟨a1, a2, a3⟩ <;> rcases h2 with ⟨b1, b2, b3⟩ | ⟨b1, b2, b3⟩
  · exact ⟨by rw [a2, b2], by rw [a3, b3, hw], .inl ⟨a2, a3⟩⟩
  · exact absurd (hs.1 a1) b1
  · exact absurd (hs.2 b1) a1
  · exact ⟨by rw [a2, b2], by rw [a3, b3, hw], .inr ⟨a2, a3⟩⟩

structure PairOk (g : Gram) (G : Frz) (i k : Nat) (s : FZ × FZ) : Prop where
  a : ZOk g G s.1
  b : ZOk g G s.2
  w : s.1.w = s.2.w
  fa : s.1.fi = i
  fb : s.2.fi = k

theorem PairOk.mono {g : Gram} {G H : Frz} {i k : Nat} {s : FZ × FZ} (h : PairOk g G i k s) (hF : Frz.le G H) : PairOk g H i k s := ⟨h.a.mono hF, h.b.mono hF, h.w, h.fa, h.fb⟩

structure OneS where
  f : FZ
  k : Nat

theorem feedBack_law (F : Frz) (hL : Laid F) {a b e : Option Addr} {m n c d x1 d1 : Nat} {l w0 m0 : List Int} (hl : Arr tInt F a m c l) (hw0 : Arr tInt F b n d w0) (hm0 : Arr tInt F e x1 d1 m0) (hmw : n ≤ 9223372036854775807) (hmm : x1 ≤ 9223372036854775807) (x0 : Int) :
    Abs.Spec CC 3 [.slice a m c, .slice b n d, .slice e x1 d1, .int .i64 x0] F [] fun _ v o => o = [] ∧ v = .bool true := by
  refine Abs.Spec.fn (n := 144) Tryz.func3 rfl rfl fun own => ?_
  refine AW.seq ?_; refine AW.reg ?_; refine ze hT zr zr zr zr zr ?_; refine WT.nil ?_; refine AW.seq ?_; refine AW.reg ?_; (iterate 2 refine ze hT zr zr zr zr zr ?_)
  refine WT.callF0 Tryz.func8 zr zr zr zr zr zr (made_spec _ hl hw0 hmw 6 (by decide)) (fun F1 v hF1 hv => ?_)
  obtain ⟨g, ga, gm, gc, wa, wn, wc, w, rfl, hg, hr, hw, hw1, hw2⟩ := hv
  have hL1 := hL.mono hF1
  have hwlen := hw.len
  have hgt := hg.terms
  unfold gramCells
  (iterate 3 refine ze hT zr zr zr zr zr ?_)
  refine WT.allocT hT zr zr zr zr zr zr (fun i9 hi9 => ?_)
  refine zs hT 0 0 zr zr zr zr zr zr zr zr zr zr zr zr ?_; refine ze hT zr zr zr zr zr ?_; refine WT.nil ?_; refine AW.seq ?_; refine AW.reg ?_; refine ze hT zr zr zr zr zr ?_; refine zl hT 0 zr zr zr zr zr zr me zr ?_; refine ze hT zr zr zr zr zr ?_
  refine WT.callF0 Tryz.func9 zr zr zr zr zr zr (word_spec _ g.terms 5 (by omega) (by decide) (hm0.mono hF1) hmm) (fun F2 v hF2 hv => ?_)
  obtain ⟨xa, xn, xc, xs, rfl, hx, hx1, hx2⟩ := hv
  have hxlen := hx.len
  refine ze hT zr zr zr zr zr ?_; refine WT.nil ?_; refine AW.seq ?_; refine AW.reg ?_; refine zl hT 0 zr zr zr zr zr zr me zr ?_
  refine WT.callN Tryz.func10 zr zr zr zr zr zr (zNew_spec _ g hg.valid (hr.mono hF2)) (fun F3 v B3 hF3 hv => ?_)
  obtain ⟨f0, rfl, rfl, hf0, hfw0⟩ := hv
  (iterate 5 refine ze hT zr zr zr zr zr ?_); refine WT.nil ?_; refine AW.seq ?_; refine AW.reg ?_; refine zl hT 1 zr zr zr zr zr zr me zr ?_
  refine WT.callN Tryz.func10 zr zr zr zr zr zr (zNew_spec _ g hg.valid ((hr.mono hF2).mono hF3)) (fun F4 v B4 hF4 hv => ?_)
  obtain ⟨e0, rfl, rfl, he0, hew0⟩ := hv
  have hF14 := (hF2.trans hF3).trans hF4
  have hL4 := hL1.mono hF14
  have hw4 := hw.mono hF14
  have hx4 := (hx.mono hF3).mono hF4
  (iterate 5 refine ze hT zr zr zr zr zr ?_); refine WT.nil ?_; (iterate 2 refine AW.seq ?_); refine AW.reg ?_
  refine WT.callV Tryz.func11 zr zr zr zr zr zr (Abs.Spec.fact rfl hL4) (fun v hv => ?_)
  subst hv
  (iterate 9 refine ze hT zr zr zr zr zr ?_); refine WT.nil ?_
  refine AW.cond rfl (fun h => (by cases h)) (fun _ => ?_)
  refine AW.skip ?_; (iterate 2 refine AW.seq ?_); refine AW.reg ?_; (iterate 3 refine ze hT zr zr zr zr zr ?_); refine WT.nil ?_
  refine AW.range (S := FZ × FZ) (fun _ => []) (fun s => zB g s.2 :: zB g s.1 :: [(i9, .cells false [.int .i64 g.terms, .int .i64 g.nons, .int .i64 g.start, .slice ga gm gc])] :: own)
    (fun j s G => PairOk g G f0.fi e0.fi s ∧ s.1.w.length ≤ j) wn (f0, e0)
    zr zr zr zr zr zr zr zr zr (by omega) rfl rfl (fun _ => rfl) (fun _ => rfl) (SubK.of_map rfl) (OwnLe.refl _) ⟨⟨hf0.mono hF4, he0, by rw [hfw0, hew0], rfl, rfl⟩, by rw [hfw0]; exact Nat.le_refl _⟩ ?_ ?_
  · intro j s F5 hF5 hj hP
    obtain ⟨fa, fb⟩ := s
    obtain ⟨hp, hlen⟩ := hP
    obtain ⟨ha, hb, hab, hfa, hfb⟩ := hp
    dsimp only at ha hb hab hfa hfb hlen
    have hw5 := hw4.mono hF5
    refine AW.seq ?_; refine AW.reg ?_
    refine WT.idxL hT hw5 zr zr zr zr zr zr zr zr zr (by omega) (fun y hy b5 off5 ro5 cs5 lx5 hb5 hp5 hrel5 => ?_)
    obtain rfl : lx5 = _ := hrel5
    have hyt := hw2 y (List.mem_of_getElem? hy)
    refine zi (fo := 0) hT (by assumption) (by assumption) zr zr zr zr zr zr ?_; refine ze hT zr zr zr zr zr ?_; refine WT.nil ?_; refine AW.seq ?_; refine AW.reg ?_; (iterate 2 refine ze hT zr zr zr zr zr ?_)
    have sa := zPut_spec F5 g hg.valid ha (by omega) y hyt
    rw [hfa] at sa
    refine WT.call1F 1 Tryz.func12 zr zr zr zr zr zr zr (fun _ => rfl) sa (fun F6 v B6 hF6 hv => ?_)
    obtain ⟨fa', rfl, ha', hfa', _, hva⟩ := hv
    (iterate 2 refine ze hT zr zr zr zr zr ?_)
    have sb := zPut_spec F6 g hg.valid (hb.mono hF6) (by rw [← hab]; omega) y hyt
    rw [hfb] at sb
    refine WT.call1F 0 Tryz.func12 zr zr zr zr zr zr zr (fun _ => rfl) sb (fun F7 u B7 hF7 hu => ?_)
    obtain ⟨fb', rfl, hb', hfb', _, hvb⟩ := hu
    obtain ⟨rfl, hww, hcase⟩ := putV_pair ha hb hab hva hvb
    have hl' : fa'.w.length ≤ j + 1 := by
      rcases hcase with ⟨_, h⟩ | ⟨_, h⟩ <;> rw [h] <;> (try simp) <;> omega
    rcases hcase with ⟨rfl, _⟩ | ⟨rfl, _⟩
    · refine ze hT zr zr zr zr zr ?_; refine WT.nil ?_
      refine AW.cond rfl (fun h => (by cases h)) (fun _ => ?_)
      refine AW.skip ?_
      exact ⟨(fa', fb'), SubK.of_map rfl, (by repeat (first | exact OwnLe.refl _ | refine OwnLe.skip _ ?_)), ⟨ha'.mono hF7, hb', hww, hfa', hfb'⟩, hl'⟩
    · refine ze hT zr zr zr zr zr ?_; refine WT.nil ?_
      refine AW.cond rfl (fun h => (by cases h)) (fun _ => ?_)
      refine AW.skip ?_
      exact ⟨(fa', fb'), SubK.of_map rfl, (by repeat (first | exact OwnLe.refl _ | refine OwnLe.skip _ ?_)), ⟨ha'.mono hF7, hb', hww, hfa', hfb'⟩, hl'⟩
  intro s F5 hF5 hP
  obtain ⟨fa, fb⟩ := s
  obtain ⟨hp, hlen⟩ := hP
  obtain ⟨ha, hb, hab, hfa, hfb⟩ := hp
  dsimp only at ha hb hab hfa hfb hlen
  have hx5 := hx4.mono hF5
  refine AW.seq ?_; refine AW.reg ?_; refine ze hT zr zr zr zr zr ?_; refine WT.nil ?_; (iterate 2 refine AW.seq ?_); refine AW.reg ?_; (iterate 3 refine ze hT zr zr zr zr zr ?_); refine WT.nil ?_
  refine AW.range (S := OneS) (fun s => [(16, .int .i64 (s.k : Nat))]) (fun s => zB g fb :: zB g s.f :: [(i9, .cells false [.int .i64 g.terms, .int .i64 g.nons, .int .i64 g.start, .slice ga gm gc])] :: own)
    (fun j s G => ZOk g G s.f ∧ s.f.fi = f0.fi ∧ s.k ≤ j ∧ ∃ ex, s.f.w = fa.w ++ ex ∧ ex.length = s.k) xn ⟨fa, 0⟩
    zr zr zr zr zr zr zr zr zr (by omega) rfl rfl (fun _ => rfl) (fun _ => rfl) (SubK.of_map rfl) (OwnLe.refl _) ⟨ha, hfa, Nat.le_refl _, [], by simp, rfl⟩ ?_ ?_
  · intro j s F6 hF6 hj hP
    obtain ⟨hc, hfc, hk, ex, hex, hexl⟩ := hP
    have hx6 := hx5.mono hF6
    have hcl : s.f.w.length = fa.w.length + s.k := by rw [hex, List.length_append, hexl]
    refine AW.seq ?_; refine AW.reg ?_
    refine WT.idxL hT hx6 zr zr zr zr zr zr zr zr zr (by omega) (fun y hy b5 off5 ro5 cs5 lx5 hb5 hp5 hrel5 => ?_)
    obtain rfl : lx5 = _ := hrel5
    have hyt := hx2 y (List.mem_of_getElem? hy)
    refine zi (fo := 0) hT (by assumption) (by assumption) zr zr zr zr zr zr ?_; refine ze hT zr zr zr zr zr ?_; refine WT.nil ?_; refine AW.seq ?_; refine AW.reg ?_; (iterate 2 refine ze hT zr zr zr zr zr ?_)
    have sa := zPut_spec F6 g hg.valid hc (by omega) y hyt
    rw [hfc] at sa
    refine WT.call1F 1 Tryz.func12 zr zr zr zr zr zr zr (fun _ => rfl) sa (fun F7 v B7 hF7 hv => ?_)
    obtain ⟨fc', rfl, hc', hfc', _, hvc⟩ := hv
    rcases hvc with ⟨_, rfl, hw'⟩ | ⟨_, rfl, hw'⟩
    · refine ze hT zr zr zr zr zr ?_; refine WT.nil ?_
      refine AW.cond rfl (fun _ => ?_) (fun h => (by cases h))
      refine AW.reg ?_; refine ze hT zr zr zr zr zr ?_; refine WT.add1 zr zr zr zr zr zr (by omega) ?_; refine ze hT zr zr zr zr zr ?_; refine WT.nil ?_
      exact ⟨⟨fc', s.k + 1⟩, SubK.of_map rfl, (by repeat (first | exact OwnLe.refl _ | refine OwnLe.skip _ ?_)), hc', hfc', by show s.k + 1 ≤ j + 1; omega, ex ++ [y], by show fc'.w = _; rw [hw', hex, List.append_assoc], by show (ex ++ [y]).length = s.k + 1; simp [hexl]⟩
    · refine ze hT zr zr zr zr zr ?_; refine WT.nil ?_
      refine AW.cond rfl (fun h => (by cases h)) (fun _ => ?_)
      refine AW.skip ?_
      exact ⟨⟨fc', s.k⟩, SubK.of_map rfl, (by repeat (first | exact OwnLe.refl _ | refine OwnLe.skip _ ?_)), hc', hfc', by show s.k ≤ j + 1; omega, ex, by show fc'.w = _; rw [hw', hex], hexl⟩
  intro s F6 hF6 hP
  obtain ⟨hc, hfc, hk, ex, hex, hexl⟩ := hP
  have hcl : s.f.w.length = fa.w.length + s.k := by rw [hex, List.length_append, hexl]
  have hwlb : wn ≤ 6 := by omega
  (iterate 2 refine AW.seq ?_); refine AW.reg ?_; (iterate 4 refine ze hT zr zr zr zr zr ?_); (iterate 2 refine za zr zr zr zr zr zr (by omega) ?_)
  refine WT.know (v' := .int .i64 ((s.k + wn + 1 : Nat) : Int)) 87 rfl (by congr 1) ?_
  refine WT.callLend 1 Tryz.func13 zr zr zr zr zr zr zr (fun G hG hBG => hfc ▸ zBackE_spec G (hc.mono hG) (by omega) hBG (s.k + wn + 1) (by omega)) (fun v hv => ?_)
  subst hv
  (iterate 4 refine ze hT zr zr zr zr zr ?_)
  have bs := zBack_spec F6 hc (n := s.k) (by omega) (by omega)
  rw [hfc] at bs
  refine WT.call1F 1 Tryz.func13 zr zr zr zr zr zr zr (fun _ => rfl) bs (fun F7 v B7 hF7 hv => ?_)
  obtain ⟨rfl, rfl⟩ := hv
  have hd0 := (hc.back (n := s.k) (by omega)).mono hF7
  have hdw : (s.f.back s.k).w = fa.w := by
    show s.f.w.take (s.f.w.length - s.k) = fa.w
    rw [hcl, Nat.add_sub_cancel, hex, List.take_left]
  have hdf : (s.f.back s.k).fi = f0.fi := hfc
  generalize s.f.back s.k = fd at hd0 hdw hdf
  have hb7 := (hb.mono hF6).mono hF7
  have hwd : fd.w.length ≤ 6 := by rw [hdw]; omega
  have hwb : fb.w.length ≤ 6 := by rw [← hab]; omega
  (iterate 4 refine ze hT zr zr zr zr zr ?_)
  refine WT.callLendN (P := fun v B' => ∃ a' c', v = .slice a' fd.wn c' ∧ Vec tNat F7 a' fd.wn c' B' fd.w) 1 Tryz.func15 zr zr zr zr zr zr zr (fun G hG hBG => Spec.mono (hdf ▸ zWord_spec G (hd0.mono hG) (by omega) hBG) (fun F' v o _ hv => by
    obtain ⟨B', e, a2, c2, e2, hv⟩ := hv
    exact ⟨B', e, a2, c2, e2, Vec.natAny hv⟩)) (fun v BN hv => ?_)
  obtain ⟨va, vc, rfl, hva⟩ := hv
  refine ze hT zr zr zr zr zr ?_
  refine WT.callLendN (P := fun v B' => ∃ a' c', v = .slice a' fb.wn c' ∧ Vec tNat F7 a' fb.wn c' B' fb.w) 1 Tryz.func15 zr zr zr zr zr zr zr (fun G hG hBG => Spec.mono (hfb ▸ zWord_spec G (hb7.mono hG) (by omega) hBG) (fun F' v o _ hv => by
    obtain ⟨B', e, a2, c2, e2, hv⟩ := hv
    exact ⟨B', e, a2, c2, e2, Vec.natAny hv⟩)) (fun v BM hv => ?_)
  obtain ⟨ua, uc, rfl, hua⟩ := hv
  refine WT.freezeAll 0 rfl rfl (fun F8 hF8 hB8 => ?_)
  refine WT.freezeAll 1 rfl rfl (fun F9 hF9 hB9 => ?_)
  have a1 := (hua.arr hF8 hB8).mono hF9
  have a2 := (hva.mono hF8).arr hF9 hB9
  have hdl := a2.len
  refine WT.callV Tryz.func14 zr zr zr zr zr zr (equal_spec F9 a2 a1 (by omega)) (fun v hv => ?_)
  rw [decide_eq_true (hdw.trans hab)] at hv
  subst hv
  (iterate 2 refine ze hT zr zr zr zr zr ?_); refine WT.nil ?_
  refine AW.cond rfl (fun h => (by cases h)) (fun _ => ?_)
  have hF79 := hF8.trans hF9
  have hF59 := hF6.trans (hF7.trans hF79)
  have hx9 := hx5.mono hF59
  have hL9 := (hL4.mono hF5).mono hF59
  refine AW.skip ?_; (iterate 2 refine AW.seq ?_); refine AW.reg ?_; (iterate 3 refine ze hT zr zr zr zr zr ?_); refine WT.nil ?_
  refine AW.range (S := FZ × FZ) (fun _ => []) (fun s => zB g s.2 :: zB g s.1 :: [(i9, .cells false [.int .i64 g.terms, .int .i64 g.nons, .int .i64 g.start, .slice ga gm gc])] :: own)
    (fun j s G => PairOk g G f0.fi e0.fi s ∧ s.1.w.length ≤ 6 + j) xn (fd, fb)
    zr zr zr zr zr zr zr zr zr (by omega) rfl rfl (fun _ => rfl) (fun _ => rfl) (SubK.of_map rfl) (OwnLe.skip _ (OwnLe.skip _ (OwnLe.refl _))) ⟨⟨hd0.mono hF79, hb7.mono hF79, hdw.trans hab, hdf, hfb⟩, by dsimp only; omega⟩ ?_ ?_
  · intro j s F10 hF10 hj hP
    obtain ⟨ga2, gb2⟩ := s
    obtain ⟨hp, hlen2⟩ := hP
    obtain ⟨hA, hB, hAB, hfA, hfB⟩ := hp
    dsimp only at hA hB hAB hfA hfB hlen2
    have hx10 := hx9.mono hF10
    have hL10 := hL9.mono hF10
    refine AW.seq ?_; refine AW.reg ?_
    refine WT.idxL hT hx10 zr zr zr zr zr zr zr zr zr (by omega) (fun y hy b5 off5 ro5 cs5 lx5 hb5 hp5 hrel5 => ?_)
    obtain rfl : lx5 = _ := hrel5
    have hyt := hx2 y (List.mem_of_getElem? hy)
    refine zi (fo := 0) hT (by assumption) (by assumption) zr zr zr zr zr zr ?_; refine ze hT zr zr zr zr zr ?_; refine WT.nil ?_; refine AW.seq ?_; refine AW.reg ?_; refine ze hT zr zr zr zr zr ?_
    refine WT.callLendN (P := fun v B' => ∃ a' c' xs, v = .slice a' (g.terms + 1) c' ∧ Vec tBool F10 a' (g.terms + 1) c' B' xs ∧ NextZ g ga2 xs) 1 Tryz.func17 zr zr zr zr zr zr zr (fun G hG hBG => Spec.mono (hfA ▸ zNext_spec G (hL10.mono hG) g hg.valid (hA.mono hG) (by omega) hBG) (fun F' v o _ hv => by
      obtain ⟨B', e, a2, c2, xs, e2, hv, hx⟩ := hv
      exact ⟨B', e, a2, c2, xs, e2, Vec.boolAny hv, hx⟩)) (fun v BN hv => ?_)
    obtain ⟨va2, vc2, xs1, rfl, hva2, hxs1⟩ := hv
    refine ze hT zr zr zr zr zr ?_
    refine WT.callLendN (P := fun v B' => ∃ a' c' xs, v = .slice a' (g.terms + 1) c' ∧ Vec tBool F10 a' (g.terms + 1) c' B' xs ∧ NextZ g gb2 xs) 1 Tryz.func17 zr zr zr zr zr zr zr (fun G hG hBG => Spec.mono (hfB ▸ zNext_spec G (hL10.mono hG) g hg.valid (hB.mono hG) (by rw [← hAB]; omega) hBG) (fun F' v o _ hv => by
      obtain ⟨B', e, a2, c2, xs, e2, hv, hx⟩ := hv
      exact ⟨B', e, a2, c2, xs, e2, Vec.boolAny hv, hx⟩)) (fun v BM hv => ?_)
    obtain ⟨ua2, uc2, xs2, rfl, hua2, hxs2⟩ := hv
    refine WT.freezeAll 0 rfl rfl (fun F11 hF11 hB11 => ?_)
    refine WT.freezeAll 1 rfl rfl (fun F12 hF12 hB12 => ?_)
    have b1 := (hua2.arr hF11 hB11).mono hF12
    have b2 := (Vec.boolAny (G := F11) hva2).arr hF12 hB12
    refine WT.callV Tryz.func16 zr zr zr zr zr zr (boolEqual_spec F12 b2 b1 (by omega)) (fun v hv => ?_)
    rw [decide_eq_true (nextZ_same hA hB hAB hxs1 hxs2)] at hv
    subst hv
    have hA12 := (hA.mono hF11).mono hF12
    have hB12 := (hB.mono hF11).mono hF12
    (iterate 4 refine ze hT zr zr zr zr zr ?_)
    have sa := zPut_spec F12 g hg.valid hA12 (by omega) y hyt
    rw [hfA] at sa
    refine WT.call1F 3 Tryz.func12 zr zr zr zr zr zr zr (fun _ => rfl) sa (fun F13 v B13 hF13 hv => ?_)
    obtain ⟨fa', rfl, ha', hfa', _, hva⟩ := hv
    (iterate 2 refine ze hT zr zr zr zr zr ?_)
    have sb := zPut_spec F13 g hg.valid (hB12.mono hF13) (by rw [← hAB]; omega) y hyt
    rw [hfB] at sb
    refine WT.call1F 2 Tryz.func12 zr zr zr zr zr zr zr (fun _ => rfl) sb (fun F14 u B14 hF14 hu => ?_)
    obtain ⟨fb', rfl, hb', hfb', _, hvb⟩ := hu
    obtain ⟨rfl, hww, hcase⟩ := putV_pair hA hB hAB hva hvb
    have hl' : fa'.w.length ≤ 6 + (j + 1) := by
      rcases hcase with ⟨_, h⟩ | ⟨_, h⟩ <;> rw [h] <;> (try simp) <;> omega
    rcases hcase with ⟨rfl, _⟩ | ⟨rfl, _⟩
    · (iterate 2 refine ze hT zr zr zr zr zr ?_); refine WT.nil ?_
      refine AW.cond rfl (fun h => (by cases h)) (fun _ => ?_)
      refine AW.skip ?_
      exact ⟨(fa', fb'), SubK.of_map rfl, OwnLe.skip _ (OwnLe.skip _ (OwnLe.refl _)), ⟨ha'.mono hF14, hb', hww, hfa', hfb'⟩, hl'⟩
    · (iterate 2 refine ze hT zr zr zr zr zr ?_); refine WT.nil ?_
      refine AW.cond rfl (fun h => (by cases h)) (fun _ => ?_)
      refine AW.skip ?_
      exact ⟨(fa', fb'), SubK.of_map rfl, OwnLe.skip _ (OwnLe.skip _ (OwnLe.refl _)), ⟨ha'.mono hF14, hb', hww, hfa', hfb'⟩, hl'⟩
  intro s F10 hF10 hP
  obtain ⟨ga2, gb2⟩ := s
  obtain ⟨hp, hlen2⟩ := hP
  obtain ⟨hA, hB, hAB, hfA, hfB⟩ := hp
  dsimp only at hA hB hAB hfA hfB hlen2
  have hL10 := hL9.mono hF10
  refine AW.freezeAll 0 rfl rfl (fun F11 hF11 hB11 => ?_)
  refine AW.freezeAll 1 rfl rfl (fun F12 hF12 hB12 => ?_)
  have hA12 := (hA.mono hF11).mono hF12
  have hB12' := (hB.mono hF11).mono hF12
  have hL12 := (hL10.mono hF11).mono hF12
  refine AW.seq ?_; refine AW.reg ?_; refine ze hT zr zr zr zr zr ?_
  have fs := zForest_spec F12 hL12 g hg.valid hA12 (by omega) hB12
  rw [hfA] at fs
  refine WT.callF0 Tryz.func18 zr zr zr zr zr zr fs (fun F13 v hF13 hv => ?_)
  obtain ⟨E1, hE1, hm1⟩ := hv
  obtain ⟨p1, p2, p3, p4, p5, rfl⟩ := makeRes_form hm1
  (iterate 3 refine ze hT zr zr zr zr zr ?_)
  refine WT.allocT hT zr zr zr zr zr zr (fun i21 hi21 => ?_)
  refine zs hT 0 0 zr zr zr zr zr zr zr zr zr zr zr zr ?_; refine ze hT zr zr zr zr zr ?_; refine WT.nil ?_; refine AW.seq ?_; refine AW.reg ?_; refine ze hT zr zr zr zr zr ?_
  have fs := zForest_spec F13 (hL12.mono hF13) g hg.valid (hB12'.mono hF13) (by rw [← hAB]; omega) (fun i b hb => hF13 _ _ (hF12 _ _ (hB11 i b hb)))
  rw [hfB] at fs
  refine WT.callF0 Tryz.func18 zr zr zr zr zr zr fs (fun F14 v hF14 hv => ?_)
  obtain ⟨E2, hE2, hm2⟩ := hv
  obtain ⟨q1, q2, q3, q4, q5, rfl⟩ := makeRes_form hm2
  rw [← hAB] at hE2 hm2
  obtain rfl := endsOf_uniq hE1 hE2
  obtain ⟨rfl, rfl, rfl, hfew, Ns, hpk, hN1, hN2⟩ := makeRes_pair hg.valid (by omega) hm1 hm2
  (iterate 3 refine ze hT zr zr zr zr zr ?_)
  refine WT.allocT hT zr zr zr zr zr zr (fun i23 hi23 => ?_)
  refine zs hT 0 0 zr zr zr zr zr zr zr zr zr zr zr zr ?_; refine ze hT zr zr zr zr zr ?_; refine WT.nil ?_; refine AW.seq ?_; refine AW.reg ?_; (iterate 4 refine ze hT zr zr zr zr zr ?_)
  refine WT.know (v' := .bool true) 139 rfl (by congr 1; simp) ?_
  refine zl hT 1 zr zr zr zr zr zr me zr ?_; refine zl hT 0 zr zr zr zr zr zr me zr ?_
  refine WT.callV Tryz.func19 zr zr zr zr zr zr (same_spec _ hpk hfew (hN1.mono hF14) hN2) (fun v hv => ?_)
  subst hv
  (iterate 2 refine ze hT zr zr zr zr zr ?_); refine WT.nil ?_
  exact AW.ret ⟨_, [], ⟨_, _, rfl, rfl, rfl⟩, (by repeat (first | exact List.Sublist.refl _ | refine List.Sublist.cons _ ?_)), rfl, rfl⟩
end Go.Proofs.D

