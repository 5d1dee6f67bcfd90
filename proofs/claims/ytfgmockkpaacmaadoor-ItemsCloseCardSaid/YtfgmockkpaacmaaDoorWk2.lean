/-
  Walks: what functions of the program do, over the abstract machine.
-/
import Derived.Test.YtfgmockkpaacmaaDoorWk1
set_option linter.unusedVariables false
set_option maxRecDepth 20000
set_option maxHeartbeats 0
open Go Go.Abs Go.Proofs Go.Proofs.D
namespace Go.Proofs.D

theorem Strict.nodup {l : List Lr} (h : Strict l) : l.Nodup := by
  refine List.Pairwise.imp (fun {x y} h => ?_) h
  rintro rfl
  rw [ltLr_iff] at h
  omega

theorem strict_ext {l1 l2 : List Lr} (h1 : Strict l1) (h2 : Strict l2) (h : ∀ z, z ∈ l1 ↔ z ∈ l2) : l1 = l2 := by
  refine List.Perm.eq_of_pairwise (le := fun x y => ltLr x y = true) (fun x y _ _ q1 q2 => ?_) h1 h2 ((List.perm_ext_iff_of_nodup h1.nodup h2.nodup).2 h)
  rw [ltLr_iff] at q1 q2
  omega

theorem Clos.mono {g : Gram} {l1 l2 : List Lr} (h : ∀ z ∈ l1, z ∈ l2) {z : Lr} (hz : Clos g l1 z) : Clos g l2 z := by
  induction hz with
  | base h1 => exact .base (h _ h1)
  | more _ h2 h3 h4 ih => exact .more ih h2 h3 h4

theorem Clos.idem {g : Gram} {l zs : List Lr} (h : ∀ z, z ∈ zs ↔ Clos g l z) (z : Lr) : z ∈ zs ↔ Clos g zs z := by
  refine ⟨.base, fun hz => ?_⟩
  induction hz with
  | base h1 => exact h1
  | more _ h2 h3 h4 ih => exact (h _).2 (.more ((h _).1 ih) h2 h3 h4)

theorem Clos.app {g : Gram} {l1 l2 : List Lr} {z : Lr} (hz : Clos g (l1 ++ l2) z) : Clos g l1 z ∨ Clos g l2 z := by
  induction hz with
  | base h1 => exact (List.mem_append.1 h1).imp .base .base
  | more _ h2 h3 h4 ih => exact ih.imp (fun h => .more h h2 h3 h4) (fun h => .more h h2 h3 h4)

theorem itemsClose_law (F : Frz) (hL : Laid F) {a b e : Option Addr} {m n q c d f : Nat} {l x y : List Int} (hl : Arr tInt F a m c l) (hx : Arr tInt F b n d x) (hy : Arr tInt F e q f y) (hn : n ≤ 9223372036854775807) (hq : q ≤ 9223372036854775807) :
    Abs.Spec CC 10 [.slice a m c, .slice b n d, .slice e q f] F [] fun _ v o => o = [] ∧ v = .bool true := by
  refine Abs.Spec.fn (n := 112) Tryd.func10 rfl rfl fun own => ?_
  refine AW.seq ?_; refine AW.reg ?_; refine ze hT zr zr zr zr zr ?_; refine WT.nil ?_; refine AW.seq ?_; refine AW.reg ?_; refine ze hT zr zr zr zr zr ?_
  refine WT.callF0 Tryd.func22 zr zr zr zr zr zr (grammar_spec _ hl) (fun F1 v hF1 hv => ?_)
  obtain ⟨g, ⟨ga, gm, gc, rfl, hgr⟩, hg⟩ := hv
  have hL1 := hL.mono hF1
  have hgl := hg.rules
  have hml := hgr.len
  have hx1 := hx.mono hF1
  have hy1 := hy.mono hF1
  skip
  refine WT.allocT hT zr zr zr zr zr zr (fun i7 hi7 => ?_)
  refine zs hT 0 0 zr zr zr zr zr zr zr zr zr zr zr zr ?_; refine WT.nil ?_; refine AW.seq ?_
  refine AW.draw (ps := [(0, 3)]) rfl rfl ?_
  (iterate 2 refine zl hT 0 zr zr zr zr zr zr me zr ?_); refine ze hT zr zr zr zr zr ?_
  refine WT.callF0 Tryd.func41 zr zr zr zr zr zr (itemsOf_spec _ g hg.valid hgr hx1 hn) (fun F2 v hF2 hv => ?_)
  obtain ⟨xa, xn, xc, xs, rfl, hxs, hxn, hxo, hxe⟩ := hv
  have hgr2 := hgr.mono hF2
  skip
  refine WT.callF0 Tryd.func37 zr zr zr zr zr zr (lrClose_spec _ g hg.valid hgr2 hxs (by omega) hxo) (fun F3 v hF3 hv => ?_)
  obtain ⟨aa, am, ac, az, rfl, has, ham, haS, hamem⟩ := hv
  have hgr3 := hgr2.mono hF3
  have hx3 := (hx1.mono hF2).mono hF3
  have hy3 := (hy1.mono hF2).mono hF3
  have hL3 := (hL1.mono hF2).mono hF3
  (iterate 5 refine ze hT zr zr zr zr zr ?_); refine WT.nil ?_
  refine ⟨(by repeat (first | exact trivial | refine recs_pair rfl rfl (by first | exact keep0 | exact keep1 (keeps_frz (by assumption)) | exact kp 0 0 me me | exact kp 1 1 me me | exact kp 2 2 me me | exact kp 3 3 me me | exact kp 4 4 me me | exact kp 5 5 me me | exact kp 6 6 me me | exact kp 0 1 me me | exact kp 1 2 me me | exact kp 2 3 me me | exact kp 3 4 me me | exact kp 4 5 me me | exact kp 5 6 me me | exact kp 6 7 me me) ?_)), ?_⟩
  refine AW.seq ?_
  refine AW.draw (ps := [(0, 3)]) rfl rfl ?_
  (iterate 2 refine zl hT 0 zr zr zr zr zr zr me zr ?_); refine ze hT zr zr zr zr zr ?_
  refine WT.callF0 Tryd.func41 zr zr zr zr zr zr (itemsOf_spec _ g hg.valid hgr3 hy3 hq) (fun F4 v hF4 hv => ?_)
  obtain ⟨ya, yn, yc, ys, rfl, hys, hyn, hyo, hye⟩ := hv
  have hgr4 := hgr3.mono hF4
  skip
  refine WT.callF0 Tryd.func37 zr zr zr zr zr zr (lrClose_spec _ g hg.valid hgr4 hys (by omega) hyo) (fun F5 v hF5 hv => ?_)
  obtain ⟨ba, bm, bc, bs, rfl, hbs, hbm, hbS, hbmem⟩ := hv
  have hgr5 := hgr4.mono hF5
  have hx5 := (hx3.mono hF4).mono hF5
  have hy5 := (hy3.mono hF4).mono hF5
  have hL5 := (hL3.mono hF4).mono hF5
  have has5 := (has.mono hF4).mono hF5
  (iterate 5 refine ze hT zr zr zr zr zr ?_); refine WT.nil ?_
  refine ⟨(by repeat (first | exact trivial | refine recs_pair rfl rfl (by first | exact keep0 | exact keep1 (keeps_frz (by assumption)) | exact kp 0 0 me me | exact kp 1 1 me me | exact kp 2 2 me me | exact kp 3 3 me me | exact kp 4 4 me me | exact kp 5 5 me me | exact kp 6 6 me me | exact kp 0 1 me me | exact kp 1 2 me me | exact kp 2 3 me me | exact kp 3 4 me me | exact kp 4 5 me me | exact kp 5 6 me me | exact kp 6 7 me me) ?_)), ?_⟩
  refine AW.seq ?_
  refine AW.draw (ps := [(0, 3), (0, 6), (0, 7), (0, 8), (4, 3)]) rfl rfl ?_
  (iterate 2 refine zl hT 0 zr zr zr zr zr zr me zr ?_); refine ze hT zr zr zr zr zr ?_
  refine WT.callF0 Tryd.func41 zr zr zr zr zr zr (itemsOf_spec _ g hg.valid hgr5 hx5 hn) (fun F6 v hF6 hv => ?_)
  obtain ⟨xa2, xn2, xc2, xs2, rfl, hxs2, hxn2, hxo2, hxe2⟩ := hv
  have hgr6 := hgr5.mono hF6
  have hy6 := hy5.mono hF6
  obtain rfl : xs = xs2 := hxe.trans hxe2.symm
  refine zl hT 0 zr zr zr zr zr zr me zr ?_; refine ze hT zr zr zr zr zr ?_
  refine WT.callF0 Tryd.func41 zr zr zr zr zr zr (itemsOf_spec _ g hg.valid hgr6 hy6 hq) (fun F7 v hF7 hv => ?_)
  obtain ⟨ya2, yn2, yc2, ys2, rfl, hys2, hyn2, hyo2, hye2⟩ := hv
  obtain rfl : ys = ys2 := hye.trans hye2.symm
  have hgr7 := hgr6.mono hF7
  have hxs7 := hxs2.mono hF7
  skip
  refine WT.buildT hT zr zr zr zr zr zr zr zr zr zr zr zr zr zr (fun i9 hi9 => ?_)
  refine WT.freezeAll 0 rfl rfl (fun F8 hF8 hB8 => ?_)
  have hgr8 := hgr7.mono hF8
  have hL8 : Arr (tList tLr) F8 (some ⟨i9, 0, none⟩) 2 1 [xs, ys] := Bld.frozen (F := F7) (B := [(i9, .cells false [.slice xa2 xn2 xc2, .slice ya2 yn2 yc2])]) ⟨rfl, .inr ⟨i9, _, rfl, rfl, rfl, Cells.cons (l := [_]) (R := tList tLr) (x := xs) ⟨_, _, _, rfl, hxs7⟩ (Cells.single (R := tList tLr) (x := ys) ⟨_, _, _, rfl, hys2⟩), by decide⟩⟩ hF8 hB8
  have hfl : [xs, ys].flatten = xs ++ ys := by simp
  have hfn : [xs, ys].flatten.length ≤ 12 := by
    have h1 := hxs7.len
    have h2 := hys2.len
    rw [hfl, List.length_append]; omega
  skip
  refine WT.callF0 Tryd.func42 zr zr zr zr zr zr (lrConcat_spec _ hL8 (by decide) (by omega)) (fun F9 v hF9 hv => ?_)
  obtain ⟨ca, cc, rfl, hcon⟩ := hv
  have hgr9 := hgr8.mono hF9
  skip
  refine WT.callF0 Tryd.func37 zr zr zr zr zr zr (lrClose_spec _ g hg.valid hgr9 hcon (by omega) (fun z hz => by rw [hfl] at hz; exact (List.mem_append.1 hz).elim (hxo z) (hyo z))) (fun F10 v hF10 hv => ?_)
  obtain ⟨da, dm, dc, dz, rfl, hds, hdm, hdS, hdmem⟩ := hv
  rw [hfl] at hdmem
  have hgr10 := hgr9.mono hF10
  (iterate 5 refine ze hT zr zr zr zr zr ?_); refine WT.nil ?_
  refine ⟨(by repeat (first | exact trivial | refine recs_pair rfl rfl (by first | exact keep0 | exact keep1 (keeps_frz (by assumption)) | exact kp 0 0 me me | exact kp 1 1 me me | exact kp 2 2 me me | exact kp 3 3 me me | exact kp 4 4 me me | exact kp 5 5 me me | exact kp 6 6 me me | exact kp 0 1 me me | exact kp 1 2 me me | exact kp 2 3 me me | exact kp 3 4 me me | exact kp 4 5 me me | exact kp 5 6 me me | exact kp 6 7 me me) ?_)), ?_⟩
  refine AW.seq ?_; refine AW.reg ?_; refine zl hT 1 zr zr zr zr zr zr me zr ?_; refine ze hT zr zr zr zr zr ?_
  have hcok : ∀ z ∈ dz, LrOk g z := fun z hz => Clos.ok (fun w hw => (List.mem_append.1 hw).elim (hxo w) (hyo w)) ((hdmem z).1 hz)
  refine WT.callF0 Tryd.func37 zr zr zr zr zr zr (lrClose_spec _ g hg.valid hgr10 hds (by omega) hcok) (fun F11 v hF11 hv => ?_)
  obtain ⟨ea, em, ec, ez, rfl, hes, hem, heS, hemem⟩ := hv
  have hde : dz = ez := strict_ext hdS heS (fun z => by rw [hemem]; exact Clos.idem hdmem z)
  have hds11 := hds.mono hF11
  have hF511 : Frz.le F5 F11 := ((((hF6.trans hF7).trans hF8).trans hF9).trans hF10).trans hF11
  have hL11 := hL5.mono hF511
  have has11 := has5.mono hF511
  have hbs11 := hbs.mono hF511
  have hdl := hds11.len
  have hal := has11.len
  have hbl := hbs11.len
  (iterate 5 refine ze hT zr zr zr zr zr ?_); refine WT.nil ?_; (iterate 2 refine AW.seq ?_); refine AW.reg ?_
  refine WT.callV Tryd.func36 zr zr zr zr zr zr (Abs.Spec.fact rfl hL11) (fun v hv => ?_)
  subst hv
  (iterate 20 refine ze hT zr zr zr zr zr ?_)
  refine WT.callV Tryd.func38 zr zr zr zr zr zr (lrEqual_spec _ hds11 hes (by omega) (by omega)) (fun v hv => ?_)
  obtain ⟨rr, rfl, hrr⟩ := hv
  obtain rfl := hrr hde
  (iterate 2 refine ze hT zr zr zr zr zr ?_); refine WT.nil ?_
  refine AW.cond rfl (fun h => (by cases h)) (fun _ => ?_)
  refine AW.skip ?_; (iterate 2 refine AW.seq ?_); refine AW.reg ?_; (iterate 3 refine ze hT zr zr zr zr zr ?_); refine WT.nil ?_
  refine AW.range (S := Unit) (fun _ => []) (fun _ => _) (fun j _ G => True) dm () zr zr zr zr zr zr zr zr zr (by omega) rfl rfl (fun _ => rfl) (fun _ => rfl) (SubK.of_map rfl) (OwnLe.refl _) trivial ?_ ?_
  · intro j _ F12 hF12 hj _
    have hds12 := hds11.mono hF12
    have has12 := has11.mono hF12
    have hbs12 := hbs11.mono hF12
    refine AW.seq ?_; refine AW.reg ?_
    refine WT.idxL hT hds12 zr zr zr zr zr zr zr zr zr (by omega) (fun z hzj b1 off ro cs lx hb hp1 hrel => ?_)
    obtain rfl : lx = _ := hrel
    have hz := (hdmem z).1 (List.mem_of_getElem? hzj)
    refine zi (fo := 0) hT (by assumption) (by assumption) zr zr zr zr zr zr ?_
    refine WT.allocT hT zr zr zr zr zr zr (fun i17 hi17 => ?_)
    refine zs hT 0 0 zr zr zr zr zr zr zr zr zr zr zr zr ?_; refine WT.nil ?_; refine AW.seq ?_; refine AW.reg ?_; refine ze hT zr zr zr zr zr ?_; refine zl hT 0 zr zr zr zr zr zr me zr ?_
    refine WT.callV Tryd.func43 zr zr zr zr zr zr (lrContains_spec _ has12 (by omega) z) (fun v hv => ?_)
    subst hv
    rcases Clos.app hz with h1 | h1
    · have h1 := (hamem z).2 h1
      rw [decide_eq_true h1]
      (iterate 2 refine ze hT zr zr zr zr zr ?_); (iterate 4 refine zx zr zr zr zr ?_); refine ze hT zr zr zr zr zr ?_; refine WT.nil ?_
      refine AW.cond rfl (fun h => (by cases h)) (fun _ => ?_)
      refine AW.skip ?_
      exact ⟨(), SubK.of_map rfl, (by repeat (first | exact OwnLe.refl _ | refine OwnLe.skip _ ?_)), trivial⟩
    · have h1 := (hbmem z).2 h1
      (iterate 2 refine ze hT zr zr zr zr zr ?_)
      refine WT.split 91 rfl (fun h2 => ?_) (fun h2 => ?_)
      · refine ze hT zr zr zr zr zr ?_; refine zl hT 0 zr zr zr zr zr zr me zr ?_
        refine WT.callV Tryd.func43 zr zr zr zr zr zr (lrContains_spec _ hbs12 (by omega) z) (fun v hv => ?_)
        subst hv
        rw [decide_eq_true h1]
        (iterate 2 refine ze hT zr zr zr zr zr ?_); refine WT.nil ?_
        refine AW.cond rfl (fun h => (by cases h)) (fun _ => ?_)
        refine AW.skip ?_
        exact ⟨(), SubK.of_map rfl, (by repeat (first | exact OwnLe.refl _ | refine OwnLe.skip _ ?_)), trivial⟩
      · (iterate 4 refine zx zr zr zr zr ?_); refine ze hT zr zr zr zr zr ?_; refine WT.nil ?_
        refine AW.cond rfl (fun h => (by cases h)) (fun _ => ?_)
        refine AW.skip ?_
        exact ⟨(), SubK.of_map rfl, (by repeat (first | exact OwnLe.refl _ | refine OwnLe.skip _ ?_)), trivial⟩
  · intro _ F12 hF12 _
    have hds12 := hds11.mono hF12
    have has12 := has11.mono hF12
    have hbs12 := hbs11.mono hF12
    (iterate 2 refine AW.seq ?_); refine AW.reg ?_; (iterate 2 refine ze hT zr zr zr zr zr ?_)
    refine WT.buildT hT zr zr zr zr zr zr zr zr zr zr zr zr zr zr (fun i9 hi9 => ?_)
    refine WT.freezeAll 0 rfl rfl (fun F13 hF13 hB13 => ?_)
    have hab : Arr (tList tLr) F13 (some ⟨i9, 0, none⟩) 2 1 [az, bs] := Bld.frozen (F := F12) (B := [(i9, .cells false [.slice aa am ac, .slice ba bm bc])]) ⟨rfl, .inr ⟨i9, _, rfl, rfl, rfl, Cells.cons (l := [_]) (R := tList tLr) (x := az) ⟨_, _, _, rfl, has12⟩ (Cells.single (R := tList tLr) (x := bs) ⟨_, _, _, rfl, hbs12⟩), by decide⟩⟩ hF13 hB13
    have hfl2 : [az, bs].flatten = az ++ bs := by simp
    have hfn2 : [az, bs].flatten.length ≤ 500 := by
      rw [hfl2, List.length_append]; omega
    skip
    refine WT.callF0 Tryd.func42 zr zr zr zr zr zr (lrConcat_spec _ hab (by decide) (by omega)) (fun F14 v hF14 hv => ?_)
    obtain ⟨fa, fc, rfl, hcon2⟩ := hv
    have hds14 := (hds12.mono hF13).mono hF14
    (iterate 2 refine ze hT zr zr zr zr zr ?_); refine WT.nil ?_
    refine AW.range (S := Unit) (fun _ => []) (fun _ => _) (fun j _ G => True) [az, bs].flatten.length () zr zr zr zr zr zr zr zr zr (by omega) rfl rfl (fun _ => rfl) (fun _ => rfl) (SubK.of_map rfl) (OwnLe.refl _) trivial ?_ ?_
    · intro j _ F15 hF15 hj _
      have hds15 := hds14.mono hF15
      have hcon15 := hcon2.mono hF15
      refine AW.seq ?_; refine AW.reg ?_
      refine WT.idxL hT hcon15 zr zr zr zr zr zr zr zr zr (by omega) (fun z hzj b1 off ro cs lx hb hp1 hrel => ?_)
      obtain rfl : lx = _ := hrel
      have hz := List.mem_of_getElem? hzj
      rw [hfl2] at hz
      have hzd : z ∈ dz := by
        rw [hdmem]
        rcases List.mem_append.1 hz with h1 | h1
        · exact Clos.mono (fun w hw => List.mem_append_left _ hw) ((hamem z).1 h1)
        · exact Clos.mono (fun w hw => List.mem_append_right _ hw) ((hbmem z).1 h1)
      refine zi (fo := 0) hT (by assumption) (by assumption) zr zr zr zr zr zr ?_
      refine WT.allocT hT zr zr zr zr zr zr (fun i19 hi19 => ?_)
      refine zs hT 0 0 zr zr zr zr zr zr zr zr zr zr zr zr ?_; refine WT.nil ?_; refine AW.seq ?_; refine AW.reg ?_; refine ze hT zr zr zr zr zr ?_; refine zl hT 0 zr zr zr zr zr zr me zr ?_
      refine WT.callV Tryd.func43 zr zr zr zr zr zr (lrContains_spec _ hds15 (by omega) z) (fun v hv => ?_)
      subst hv
      rw [decide_eq_true hzd]
      refine ze hT zr zr zr zr zr ?_; refine WT.nil ?_
      refine AW.cond rfl (fun h => (by cases h)) (fun _ => ?_)
      refine AW.skip ?_
      exact ⟨(), SubK.of_map rfl, (by repeat (first | exact OwnLe.refl _ | refine OwnLe.skip _ ?_)), trivial⟩
    · intro _ F15 hF15 _
      refine AW.seq ?_; refine AW.reg ?_; refine ze hT zr zr zr zr zr ?_; refine WT.nil ?_
      exact AW.ret ⟨_, [], ⟨_, _, rfl, rfl, rfl⟩, (by repeat (first | exact List.Sublist.refl _ | refine List.Sublist.cons _ ?_)), rfl, rfl⟩
end Go.Proofs.D

