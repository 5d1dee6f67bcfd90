/-
  Walks: what functions of the program do, over the abstract machine.
-/
import Derived.Test.YtfgmockkpaacmaaDoorWk0
import Derived.Sort.Walk13a
set_option linter.unusedVariables false
set_option maxRecDepth 20000
set_option maxHeartbeats 0
open Go Go.Abs Go.Proofs Go.Proofs.D
namespace Go.Proofs.D

theorem itPIns_spec (F : Frz) {lt : Item → Item → Bool} {g : Nat} {first capt : List Value} (hc : CmpOk tItem lt F g first capt) {a0 : Option Addr} {m c : Nat} {B : List (Nat × Blk)} {d : Array Item} (hv : Vec tItem F a0 m c B d.toList) (a b : Nat) (hab : a < b) (hb : b ≤ m) (hm : m ≤ 1000000) :
    Abs.Spec CC 157 [.slice a0 m c, .int .i64 a, .int .i64 b, .func (.func g) ⟨first⟩ ⟨capt⟩] F [B] fun F' v o => ∃ B', o = [B'] ∧ v = .bool (Go.Sort.partialInsertionSort lt d a b).2 ∧ Vec tItem F' a0 m c B' (Go.Sort.partialInsertionSort lt d a b).1.toList := by
  obtain ⟨⟨fn, hg, hgb⟩, hcmp⟩ := hc
  refine Abs.Spec.fn (n := 141) Tryd.func157 rfl rfl fun own => ?_
  refine AW.seq ?_; refine AW.reg ?_; refine ze hT zr zr zr zr zr ?_; refine WT.nil ?_; refine AW.seq ?_; refine AW.reg ?_; refine ze hT zr zr zr zr zr ?_; refine WT.add1 zr zr zr zr zr zr (by omega) ?_; refine ze hT zr zr zr zr zr ?_; refine WT.nil ?_; (iterate 2 refine AW.seq ?_); refine AW.reg ?_; refine ze hT zr zr zr zr zr ?_; refine WT.nil ?_
  refine AW.block ?_
  refine AW.loopR (S := Nat × VS Item) (fun s => [(10, .int .i64 (s.1 : Nat)), (9, .int .i64 (s.2.i : Nat))]) (fun s => s.2.B :: own) (fun s G => Vec tItem G a0 m c s.2.B s.2.d.toList ∧ s.1 ≤ 5 ∧ a + 1 ≤ s.2.i ∧ s.2.i ≤ b ∧ Go.Sort.partialIns lt a b (5 - s.1) s.2.i s.2.d = Go.Sort.partialInsertionSort lt d a b) (fun s => 5 - s.1) (0, ⟨a + 1, d, B⟩)
    (SubK.of_map rfl) (OwnLe.refl _) ⟨hv, Nat.zero_le _, Nat.le_refl _, hab, rfl⟩ ?_
  intro u F1 hF1 hP
  obtain ⟨hv1, hk, hi1, hi2, heq⟩ := hP
  (iterate 2 refine AW.seq ?_); refine AW.reg ?_; (iterate 2 refine ze hT zr zr zr zr zr ?_); refine WT.nil ?_
  refine AW.cond rfl (fun h => ?_) (fun h => ?_)
  · have h : u.1 < 5 := by simp at h; omega
    obtain ⟨i2, hsc⟩ : ∃ i2, Go.Sort.scanSorted lt u.2.d b u.2.i = i2 := ⟨_, rfl⟩
    rw [show 5 - u.1 = (5 - (u.1 + 1)) + 1 by omega, Go.Sort.partialIns_succ, hsc] at heq
    refine AW.skip ?_
    refine AW.seq ?_
    refine AW.block ?_
    refine AW.jn (S := Unit) (fun _ => [(9, .int .i64 (i2 : Nat))]) (fun _ => u.2.B :: own) (fun _ _ => u.2.i ≤ i2 ∧ i2 ≤ b) ?_ (fun _ F2 hF2 hi2' => ?_)
    · refine AW.block ?_
      refine AW.loopR (S := Nat) (fun i => [(9, .int .i64 (i : Nat))]) (fun _ => u.2.B :: own) (fun i _ => u.2.i ≤ i ∧ i ≤ b ∧ Go.Sort.scanSorted lt u.2.d b i = i2) (fun i => b - i) u.2.i (SubK.of_map rfl) (OwnLe.refl _) ⟨Nat.le_refl _, hi2, hsc⟩ ?_
      intro i G hG hP
      obtain ⟨j1, j2, j3⟩ := hP
      have hvG := hv1.mono hG
      have hsz : m = u.2.d.size := hv1.len
      (iterate 2 refine AW.seq ?_); refine AW.draw (ps := []) zr zr ?_; (iterate 4 refine ze hT zr zr zr zr zr ?_)
      refine WT.split 22 rfl (fun h => ?_) (fun h => ?_)
      · have h : i < b := by simp at h; omega
        (iterate 3 refine ze hT zr zr zr zr zr ?_)
        refine WT.vidx hT hvG zr zr zr zr zr zr zr zr zr (by omega) (fun bl1 hbl1 => ?_)
        refine WT.vldS hT 0 hvG hbl1 (arr_at (by omega)) zr zr zr zr zr zr zr zr zr (fun l1 hl1 => ?_)
        (iterate 2 refine ze hT zr zr zr zr zr ?_); refine WT.sub1 zr zr zr zr zr zr (by omega) ?_
        refine WT.vidx hT hvG zr zr zr zr zr zr zr zr zr (by omega) (fun bl2 hbl2 => ?_)
        refine WT.vldS hT 0 hvG hbl2 (arr_at (by omega)) zr zr zr zr zr zr zr zr zr (fun l2 hl2 => ?_)
        refine WT.callC hg hgb zr zr zr zr zr zr zr (hcmp G (hF1.trans hG) l1 l2 _ _ hl1 hl2) (fun v hvz => ?_)
        obtain ⟨z, rfl, hz⟩ := hvz
        (iterate 3 refine ze hT zr zr zr zr zr ?_); refine WT.nil ?_; refine And.intro trivial ?_
        refine AW.cond rfl (fun hc => ?_) (fun hc => ?_)
        · have hlt : lt u.2.d[i]! u.2.d[i - 1]! = false := Bool.eq_false_iff.2 (fun hh => absurd (hz.2 hh) (by simpa using hc))
          refine AW.skip ?_
          refine AW.block ?_
          refine AW.reg ?_; refine ze hT zr zr zr zr zr ?_; refine WT.add1 zr zr zr zr zr zr (by omega) ?_; refine ze hT zr zr zr zr zr ?_; refine WT.nil ?_
          refine ⟨i + 1, by omega, SubK.of_map rfl, OwnLe.refl _, by omega, by omega, ?_⟩
          rw [← j3]
          conv => rhs; rw [Go.Sort.scanSorted]
          rw [if_pos (by simp [h, hlt])]
        · have hlt := hz.1 (by simpa using hc)
          refine AW.exit ?_
          have e : i = i2 := by rw [← j3, Go.Sort.scanSorted, if_neg (by simp [hlt])]
          exact ⟨(), SubK.of_map (by rw [e]; rfl), OwnLe.refl _, by omega, by omega⟩
      · have h : ¬ i < b := by simp at h; omega
        (iterate 13 refine zx zr zr zr zr ?_); refine ze hT zr zr zr zr zr ?_; refine WT.nil ?_; refine And.intro trivial ?_
        refine AW.cond rfl (fun h => (by cases h)) (fun _ => ?_)
        refine AW.exit ?_
        have e : i = i2 := by rw [← j3, Go.Sort.scanSorted, if_neg (by simp [h])]
        exact ⟨(), SubK.of_map (by rw [e]; rfl), OwnLe.refl _, by omega, by omega⟩
    · obtain ⟨j1, j2⟩ := hi2'
      have hv2 := hv1.mono hF2
      have hsz : m = u.2.d.size := hv1.len
      have hF2' := hF1.trans hF2
      (iterate 2 refine AW.seq ?_); refine AW.reg ?_; (iterate 3 refine ze hT zr zr zr zr zr ?_); refine WT.nil ?_
      refine AW.cond rfl (fun h => ?_) (fun h => ?_)
      · have h : i2 = b := by simp at h; omega
        refine AW.seq ?_; refine AW.reg ?_; refine ze hT zr zr zr zr zr ?_; refine WT.nil ?_
        refine AW.ret ⟨_, [_], ⟨_, _, rfl, rfl, rfl⟩, (by repeat (first | exact List.Sublist.refl _ | refine List.Sublist.cons _ ?_)), _, rfl, ?_, ?_⟩
        · rw [← heq, if_pos h]; rfl
        · rw [← heq, if_pos h]; exact hv2
      · have h : i2 ≠ b := by simp at h; omega
        rw [if_neg h] at heq
        refine AW.skip ?_; (iterate 2 refine AW.seq ?_); refine AW.reg ?_; (iterate 2 refine ze hT zr zr zr zr zr ?_); refine WT.subN zr zr zr zr zr zr (by omega) ?_; refine ze hT zr zr zr zr zr ?_; refine WT.nil ?_
        refine AW.cond rfl (fun h5 => ?_) (fun h5 => ?_)
        · have h5 : b - a < 50 := by simp at h5; omega
          refine AW.seq ?_; refine AW.reg ?_; refine ze hT zr zr zr zr zr ?_; refine WT.nil ?_
          refine AW.ret ⟨_, [_], ⟨_, _, rfl, rfl, rfl⟩, (by repeat (first | exact List.Sublist.refl _ | refine List.Sublist.cons _ ?_)), _, rfl, ?_, ?_⟩
          · rw [← heq, if_pos h5]; rfl
          · rw [← heq, if_pos h5]; exact hv2
        · have h5 : ¬ b - a < 50 := by simp at h5; omega
          rw [if_neg h5] at heq
          refine AW.skip ?_; refine AW.seq ?_
          refine AW.draw (ps := [(4, 15)]) rfl rfl ?_
          (iterate 4 refine ze hT zr zr zr zr zr ?_); refine WT.sub1 zr zr zr zr zr zr (by omega) ?_; (iterate 2 refine ze hT zr zr zr zr zr ?_); refine WT.sub1 zr zr zr zr zr zr (by omega) ?_
          refine WT.vidx hT hv2 zr zr zr zr zr zr zr zr zr (by omega) (fun bl3 hbl3 => ?_)
          refine WT.vldS hT 0 hv2 hbl3 (arr_at (by omega)) zr zr zr zr zr zr zr zr zr (fun l3 hl3 => ?_)
          (iterate 2 refine ze hT zr zr zr zr zr ?_)
          refine WT.vidx hT hv2 zr zr zr zr zr zr zr zr zr (by omega) (fun bl4 hbl4 => ?_)
          refine WT.vldS hT 0 hv2 hbl4 (arr_at (by omega)) zr zr zr zr zr zr zr zr zr (fun l4 hl4 => ?_)
          refine WT.vidx hT hv2 zr zr zr zr zr zr zr zr zr (by omega) (fun bl5 hbl5 => ?_)
          refine WT.vst (y := u.2.d[i2 - 1]!) hT 0 hv2 hbl5 (List.getElem?_eq_getElem (by simp; omega)) zr zr zr zr zr hl3 rfl (fun _ => rfl) rfl (fun Bl5 hBl5 => ?_)
          refine WT.vidx hT hBl5 zr zr zr zr zr zr zr zr zr (by omega) (fun bl6 hbl6 => ?_)
          refine WT.vst (y := u.2.d[i2]!) hT 0 hBl5 hbl6 (List.getElem?_eq_getElem (by simp; omega)) zr zr zr zr zr hl4 rfl (fun _ => rfl) rfl (fun Bl6 hBl6 => ?_)
          rw [← swp_list] at hBl6
          obtain ⟨d1, hd1⟩ : ∃ d1, Go.Sort.swp u.2.d i2 (i2 - 1) = d1 := ⟨_, rfl⟩
          rw [hd1] at heq hBl6
          refine WT.nil ?_
          refine ⟨(by repeat (first | exact trivial | refine recs_pair rfl rfl (by first | exact keep0 | exact keep1 (keeps_frz (by assumption)) | exact kp 0 0 me me | exact kp 1 1 me me | exact kp 2 2 me me | exact kp 3 3 me me | exact kp 4 4 me me | exact kp 5 5 me me | exact kp 6 6 me me | exact kp 0 1 me me | exact kp 1 2 me me | exact kp 2 3 me me | exact kp 3 4 me me | exact kp 4 5 me me | exact kp 5 6 me me | exact kp 6 7 me me) ?_)), ?_⟩
          refine AW.jn (S := VS Item) (fun _ => []) (fun s => s.B :: own) (fun s G => Vec tItem G a0 m c s.B s.d.toList ∧ s.d = Go.Sort.fixDown lt a i2 d1) ?_ (fun s F3 hF3 hP3 => ?_)
          · refine AW.seq ?_; refine AW.reg ?_; (iterate 2 refine ze hT zr zr zr zr zr ?_); refine WT.subN zr zr zr zr zr zr (by omega) ?_; refine ze hT zr zr zr zr zr ?_; refine WT.nil ?_
            refine AW.cond rfl (fun h2 => ?_) (fun h2 => ?_)
            · have h2 : 2 ≤ i2 - a := by simp at h2; omega
              rw [Go.Sort.fixDown, if_pos h2]
              refine AW.seq ?_; refine AW.reg ?_; refine ze hT zr zr zr zr zr ?_; refine WT.sub1 zr zr zr zr zr zr (by omega) ?_; refine ze hT zr zr zr zr zr ?_; refine WT.nil ?_
              refine AW.block ?_
              refine AW.loopR (S := VS Item) (fun s => [(11, .int .i64 (s.i : Nat))]) (fun s => s.B :: own) (fun s G => Vec tItem G a0 m c s.B s.d.toList ∧ s.i < m ∧ Go.Sort.shiftDown lt s.i s.d = Go.Sort.shiftDown lt (i2 - 1) d1) (fun s => s.i) ⟨i2 - 1, d1, Bl6⟩ (SubK.of_map rfl) (OwnLe.refl _) ⟨hBl6, by dsimp only; omega, rfl⟩ ?_
              intro w G hG hP4
              obtain ⟨hw, hwi, hwe⟩ := hP4
              have hszw : m = w.d.size := hw.len
              (iterate 2 refine AW.seq ?_); refine AW.reg ?_; (iterate 2 refine ze hT zr zr zr zr zr ?_); refine WT.nil ?_
              refine AW.cond rfl (fun h3 => ?_) (fun h3 => ?_)
              · have h3 : 1 ≤ w.i := by simp at h3; omega
                have one : Go.Sort.shiftDown lt w.i w.d = if lt w.d[w.i]! w.d[w.i - 1]! = true then Go.Sort.shiftDown lt (w.i - 1) (Go.Sort.swp w.d w.i (w.i - 1)) else w.d := by
                  cases hi : w.i with
                  | zero => omega
                  | succ k =>
                    rw [Go.Sort.shiftDown, Nat.add_sub_cancel]
                    cases lt w.d[k + 1]! w.d[k]! <;> simp
                refine AW.skip ?_; refine AW.seq ?_
                refine AW.block ?_
                (iterate 2 refine AW.seq ?_); refine AW.draw (ps := []) zr zr ?_; (iterate 3 refine ze hT zr zr zr zr zr ?_)
                refine WT.vidx hT hw zr zr zr zr zr zr zr zr zr (by omega) (fun bl7 hbl7 => ?_)
                refine WT.vldS hT 0 hw hbl7 (arr_at (by omega)) zr zr zr zr zr zr zr zr zr (fun l7 hl7 => ?_)
                (iterate 2 refine ze hT zr zr zr zr zr ?_); refine WT.sub1 zr zr zr zr zr zr (by omega) ?_
                refine WT.vidx hT hw zr zr zr zr zr zr zr zr zr (by omega) (fun bl8 hbl8 => ?_)
                refine WT.vldS hT 0 hw hbl8 (arr_at (by omega)) zr zr zr zr zr zr zr zr zr (fun l8 hl8 => ?_)
                refine WT.callC hg hgb zr zr zr zr zr zr zr (hcmp G (hF2'.trans hG) l7 l8 _ _ hl7 hl8) (fun v hvz => ?_)
                obtain ⟨z, rfl, hz⟩ := hvz
                (iterate 2 refine ze hT zr zr zr zr zr ?_); refine WT.nil ?_; refine And.intro trivial ?_
                refine AW.cond rfl (fun hc => ?_) (fun hc => ?_)
                · have hlt : lt w.d[w.i]! w.d[w.i - 1]! = false := Bool.eq_false_iff.2 (fun hh => absurd (hz.2 hh) (by simpa using hc))
                  refine AW.exit ?_
                  refine ⟨⟨0, w.d, w.B⟩, SubK.of_map rfl, OwnLe.refl _, hw, ?_⟩
                  rw [← hwe, one, if_neg (by rw [hlt]; decide)]
                · have hlt := hz.1 (by simpa using hc)
                  refine AW.skip ?_
                  refine AW.draw (ps := [(4, 15)]) rfl rfl ?_
                  (iterate 4 refine ze hT zr zr zr zr zr ?_); refine WT.sub1 zr zr zr zr zr zr (by omega) ?_; (iterate 2 refine ze hT zr zr zr zr zr ?_); refine WT.sub1 zr zr zr zr zr zr (by omega) ?_
                  refine WT.vidx hT hw zr zr zr zr zr zr zr zr zr (by omega) (fun bl9 hbl9 => ?_)
                  refine WT.vldS hT 0 hw hbl9 (arr_at (by omega)) zr zr zr zr zr zr zr zr zr (fun l9 hl9 => ?_)
                  (iterate 2 refine ze hT zr zr zr zr zr ?_)
                  refine WT.vidx hT hw zr zr zr zr zr zr zr zr zr (by omega) (fun bl10 hbl10 => ?_)
                  refine WT.vldS hT 0 hw hbl10 (arr_at (by omega)) zr zr zr zr zr zr zr zr zr (fun l10 hl10 => ?_)
                  refine WT.vidx hT hw zr zr zr zr zr zr zr zr zr (by omega) (fun bl11 hbl11 => ?_)
                  refine WT.vst (y := w.d[w.i - 1]!) hT 0 hw hbl11 (List.getElem?_eq_getElem (by simp; omega)) zr zr zr zr zr hl9 rfl (fun _ => rfl) rfl (fun Bl11 hBl11 => ?_)
                  refine WT.vidx hT hBl11 zr zr zr zr zr zr zr zr zr (by omega) (fun bl12 hbl12 => ?_)
                  refine WT.vst (y := w.d[w.i]!) hT 0 hBl11 hbl12 (List.getElem?_eq_getElem (by simp; omega)) zr zr zr zr zr hl10 rfl (fun _ => rfl) rfl (fun Bl12 hBl12 => ?_)
                  rw [← swp_list] at hBl12
                  refine WT.nil ?_
                  refine ⟨(by repeat (first | exact trivial | refine recs_pair rfl rfl (by first | exact keep0 | exact keep1 (keeps_frz (by assumption)) | exact kp 0 0 me me | exact kp 1 1 me me | exact kp 2 2 me me | exact kp 3 3 me me | exact kp 4 4 me me | exact kp 5 5 me me | exact kp 6 6 me me | exact kp 0 1 me me | exact kp 1 2 me me | exact kp 2 3 me me | exact kp 3 4 me me | exact kp 4 5 me me | exact kp 5 6 me me | exact kp 6 7 me me) ?_)), ?_⟩
                  refine AW.reg ?_; refine ze hT zr zr zr zr zr ?_; refine WT.sub1 zr zr zr zr zr zr (by omega) ?_; refine ze hT zr zr zr zr zr ?_; refine WT.nil ?_
                  refine ⟨⟨w.i - 1, Go.Sort.swp w.d w.i (w.i - 1), Bl12⟩, by dsimp only; omega, SubK.of_map rfl, OwnLe.refl _, hBl12, by dsimp only; omega, ?_⟩
                  rw [← hwe, one, if_pos hlt]
              · have h3 : w.i = 0 := by simp at h3; omega
                refine AW.exit ?_
                refine ⟨⟨0, w.d, w.B⟩, SubK.of_map rfl, OwnLe.refl _, hw, ?_⟩
                rw [← hwe, h3]; rfl
            · have h2 : ¬ 2 ≤ i2 - a := by simp at h2; omega
              rw [Go.Sort.fixDown, if_neg h2]
              refine AW.skip ?_
              exact ⟨⟨0, d1, Bl6⟩, SubK.of_map rfl, OwnLe.refl _, hBl6, rfl⟩
          · obtain ⟨hs, hsd⟩ := hP3
            have hszs : m = s.d.size := hs.len
            have hF3' := hF2'.trans hF3
            rw [← hsd] at heq
            refine AW.seq ?_; refine AW.reg ?_; (iterate 2 refine ze hT zr zr zr zr zr ?_); refine WT.subN zr zr zr zr zr zr (by omega) ?_; refine ze hT zr zr zr zr zr ?_; refine WT.nil ?_
            refine AW.cond rfl (fun h2 => ?_) (fun h2 => ?_)
            · have h2 : 2 ≤ b - i2 := by simp at h2; omega
              rw [Go.Sort.fixUp, if_pos h2] at heq
              refine AW.seq ?_; refine AW.reg ?_; refine ze hT zr zr zr zr zr ?_; refine WT.add1 zr zr zr zr zr zr (by omega) ?_; refine ze hT zr zr zr zr zr ?_; refine WT.nil ?_
              refine AW.block ?_
              refine AW.loopR (S := VS Item) (fun s => [(12, .int .i64 (s.i : Nat))]) (fun s => s.B :: own) (fun w G => Vec tItem G a0 m c w.B w.d.toList ∧ i2 + 1 ≤ w.i ∧ Go.Sort.shiftUp lt b w.i w.d = Go.Sort.shiftUp lt b (i2 + 1) s.d) (fun s => b - s.i) ⟨i2 + 1, s.d, s.B⟩ (SubK.of_map rfl) (OwnLe.refl _) ⟨hs, Nat.le_refl _, rfl⟩ ?_
              intro w G hG hP4
              obtain ⟨hw, hwi, hwe⟩ := hP4
              have hszw : m = w.d.size := hw.len
              (iterate 2 refine AW.seq ?_); refine AW.reg ?_; (iterate 3 refine ze hT zr zr zr zr zr ?_); refine WT.nil ?_
              refine AW.cond rfl (fun h3 => ?_) (fun h3 => ?_)
              · have h3 : w.i < b := by simp at h3; omega
                have one : Go.Sort.shiftUp lt b w.i w.d = if lt w.d[w.i]! w.d[w.i - 1]! = true then Go.Sort.shiftUp lt b (w.i + 1) (Go.Sort.swp w.d w.i (w.i - 1)) else w.d := by
                  conv => lhs; rw [Go.Sort.shiftUp]
                  rw [if_pos h3]
                  cases lt w.d[w.i]! w.d[w.i - 1]! <;> simp
                refine AW.skip ?_; refine AW.seq ?_
                refine AW.block ?_
                (iterate 2 refine AW.seq ?_); refine AW.draw (ps := []) zr zr ?_; (iterate 3 refine ze hT zr zr zr zr zr ?_)
                refine WT.vidx hT hw zr zr zr zr zr zr zr zr zr (by omega) (fun bl7 hbl7 => ?_)
                refine WT.vldS hT 0 hw hbl7 (arr_at (by omega)) zr zr zr zr zr zr zr zr zr (fun l7 hl7 => ?_)
                (iterate 2 refine ze hT zr zr zr zr zr ?_); refine WT.sub1 zr zr zr zr zr zr (by omega) ?_
                refine WT.vidx hT hw zr zr zr zr zr zr zr zr zr (by omega) (fun bl8 hbl8 => ?_)
                refine WT.vldS hT 0 hw hbl8 (arr_at (by omega)) zr zr zr zr zr zr zr zr zr (fun l8 hl8 => ?_)
                refine WT.callC hg hgb zr zr zr zr zr zr zr (hcmp G (hF3'.trans hG) l7 l8 _ _ hl7 hl8) (fun v hvz => ?_)
                obtain ⟨z, rfl, hz⟩ := hvz
                (iterate 2 refine ze hT zr zr zr zr zr ?_); refine WT.nil ?_; refine And.intro trivial ?_
                refine AW.cond rfl (fun hc => ?_) (fun hc => ?_)
                · have hlt : lt w.d[w.i]! w.d[w.i - 1]! = false := Bool.eq_false_iff.2 (fun hh => absurd (hz.2 hh) (by simpa using hc))
                  refine AW.exit ?_
                  refine AW.reg ?_; refine ze hT zr zr zr zr zr ?_; refine WT.add1 zr zr zr zr zr zr (by omega) ?_; refine ze hT zr zr zr zr zr ?_; refine WT.nil ?_
                  refine ⟨(u.1 + 1, ⟨i2, w.d, w.B⟩), by dsimp only; omega, SubK.of_map rfl, OwnLe.refl _, hw, by dsimp only; omega, by dsimp only; omega, j2, ?_⟩
                  rw [← heq, ← hwe, one, if_neg (by rw [hlt]; decide)]
                · have hlt := hz.1 (by simpa using hc)
                  refine AW.skip ?_
                  refine AW.draw (ps := [(4, 15)]) rfl rfl ?_
                  (iterate 4 refine ze hT zr zr zr zr zr ?_); refine WT.sub1 zr zr zr zr zr zr (by omega) ?_; (iterate 2 refine ze hT zr zr zr zr zr ?_); refine WT.sub1 zr zr zr zr zr zr (by omega) ?_
                  refine WT.vidx hT hw zr zr zr zr zr zr zr zr zr (by omega) (fun bl9 hbl9 => ?_)
                  refine WT.vldS hT 0 hw hbl9 (arr_at (by omega)) zr zr zr zr zr zr zr zr zr (fun l9 hl9 => ?_)
                  (iterate 2 refine ze hT zr zr zr zr zr ?_)
                  refine WT.vidx hT hw zr zr zr zr zr zr zr zr zr (by omega) (fun bl10 hbl10 => ?_)
                  refine WT.vldS hT 0 hw hbl10 (arr_at (by omega)) zr zr zr zr zr zr zr zr zr (fun l10 hl10 => ?_)
                  refine WT.vidx hT hw zr zr zr zr zr zr zr zr zr (by omega) (fun bl11 hbl11 => ?_)
                  refine WT.vst (y := w.d[w.i - 1]!) hT 0 hw hbl11 (List.getElem?_eq_getElem (by simp; omega)) zr zr zr zr zr hl9 rfl (fun _ => rfl) rfl (fun Bl11 hBl11 => ?_)
                  refine WT.vidx hT hBl11 zr zr zr zr zr zr zr zr zr (by omega) (fun bl12 hbl12 => ?_)
                  refine WT.vst (y := w.d[w.i]!) hT 0 hBl11 hbl12 (List.getElem?_eq_getElem (by simp; omega)) zr zr zr zr zr hl10 rfl (fun _ => rfl) rfl (fun Bl12 hBl12 => ?_)
                  rw [← swp_list] at hBl12
                  refine WT.nil ?_
                  refine ⟨(by repeat (first | exact trivial | refine recs_pair rfl rfl (by first | exact keep0 | exact keep1 (keeps_frz (by assumption)) | exact kp 0 0 me me | exact kp 1 1 me me | exact kp 2 2 me me | exact kp 3 3 me me | exact kp 4 4 me me | exact kp 5 5 me me | exact kp 6 6 me me | exact kp 0 1 me me | exact kp 1 2 me me | exact kp 2 3 me me | exact kp 3 4 me me | exact kp 4 5 me me | exact kp 5 6 me me | exact kp 6 7 me me) ?_)), ?_⟩
                  refine AW.reg ?_; refine ze hT zr zr zr zr zr ?_; refine WT.add1 zr zr zr zr zr zr (by omega) ?_; refine ze hT zr zr zr zr zr ?_; refine WT.nil ?_
                  refine ⟨⟨w.i + 1, Go.Sort.swp w.d w.i (w.i - 1), Bl12⟩, by dsimp only; omega, SubK.of_map rfl, OwnLe.refl _, hBl12, by dsimp only; omega, ?_⟩
                  rw [← hwe, one, if_pos hlt]
              · have h3 : ¬ w.i < b := by simp at h3; omega
                refine AW.exit ?_
                refine AW.reg ?_; refine ze hT zr zr zr zr zr ?_; refine WT.add1 zr zr zr zr zr zr (by omega) ?_; refine ze hT zr zr zr zr zr ?_; refine WT.nil ?_
                refine ⟨(u.1 + 1, ⟨i2, w.d, w.B⟩), by dsimp only; omega, SubK.of_map rfl, OwnLe.refl _, hw, by dsimp only; omega, by dsimp only; omega, j2, ?_⟩
                rw [← heq, ← hwe, Go.Sort.shiftUp, if_neg h3]
            · have h2 : ¬ 2 ≤ b - i2 := by simp at h2; omega
              rw [Go.Sort.fixUp, if_neg h2] at heq
              refine AW.skip ?_; refine AW.reg ?_; refine ze hT zr zr zr zr zr ?_; refine WT.add1 zr zr zr zr zr zr (by omega) ?_; refine ze hT zr zr zr zr zr ?_; refine WT.nil ?_
              exact ⟨(u.1 + 1, ⟨i2, s.d, s.B⟩), by dsimp only; omega, SubK.of_map rfl, OwnLe.refl _, hs, by dsimp only; omega, by dsimp only; omega, j2, heq⟩
  · have h : u.1 = 5 := by simp at h; omega
    refine AW.exit ?_
    refine AW.seq ?_; refine AW.reg ?_; refine ze hT zr zr zr zr zr ?_; refine WT.nil ?_
    rw [h] at heq
    refine AW.ret ⟨_, [_], ⟨_, _, rfl, rfl, rfl⟩, (by repeat (first | exact List.Sublist.refl _ | refine List.Sublist.cons _ ?_)), _, rfl, ?_, ?_⟩
    · rw [← heq]; rfl
    · rw [← heq]; exact hv1

end Go.Proofs.D

set_option linter.unusedVariables false
set_option maxRecDepth 20000
set_option maxHeartbeats 0
open Go Go.Abs Go.Proofs Go.Proofs.D
namespace Go.Proofs.D

/-! ### bits.Len -/
theorem bitsLen_shift (x k : Nat) (h : 2 ^ k ≤ x) : Go.Sort.bitsLen x = k + Go.Sort.bitsLen (x / 2 ^ k) := by
  apply Nat.le_antisymm
  · rw [Go.Sort.bitsLen_le_iff]
    have h1 := Go.Sort.lt_two_pow_bitsLen (x / 2 ^ k)
    rw [Nat.div_lt_iff_lt_mul (Nat.two_pow_pos k)] at h1
    rw [Nat.pow_add, Nat.mul_comm]; exact h1
  · have h1 := Go.Sort.lt_two_pow_bitsLen x
    have hk : k ≤ Go.Sort.bitsLen x := by
      rcases Nat.lt_or_ge (Go.Sort.bitsLen x) k with h2 | h2
      · have := Nat.pow_le_pow_right (show 0 < 2 by decide) (Nat.le_of_lt h2)
        omega
      · exact h2
    have : Go.Sort.bitsLen (x / 2 ^ k) ≤ Go.Sort.bitsLen x - k := by
      rw [Go.Sort.bitsLen_le_iff, Nat.div_lt_iff_lt_mul (Nat.two_pow_pos k), ← Nat.pow_add, Nat.sub_add_cancel hk]
      exact h1
    omega

theorem len64_spec (F : Frz) (x : Nat) (hx : x < 4294967296) : Abs.Spec CC 161 [.int .u64 x] F [] fun _ v o => o = [] ∧ v = .int .i64 (Go.Sort.bitsLen x : Nat) := by
  have fin : ∀ (y n : Nat), y < 256 → n ≤ 64 → n + Go.Sort.bitsLen y = Go.Sort.bitsLen x → True := fun _ _ _ _ _ => trivial
  refine Abs.Spec.fn (n := 25) Tryd.func161 rfl rfl fun own => ?_
  refine AW.seq ?_; refine AW.reg ?_; refine ze hT zr zr zr zr zr ?_; refine WT.nil ?_; (iterate 2 refine AW.seq ?_); refine AW.reg ?_; (iterate 2 refine ze hT zr zr zr zr zr ?_); refine WT.nil ?_
  refine AW.cond rfl (fun h => (by simp at h; omega)) (fun _ => ?_)
  refine AW.skip ?_
  refine AW.jn (S := Nat × Nat) (fun s => [(0, .int .u64 (s.1 : Nat)), (2, .int .i64 (s.2 : Nat))]) (fun _ => own) (fun s _ => s.1 < 65536 ∧ s.2 ≤ 16 ∧ s.2 + Go.Sort.bitsLen s.1 = Go.Sort.bitsLen x) ?_ (fun s F1 hF1 hP => ?_)
  · refine AW.seq ?_; refine AW.reg ?_; (iterate 2 refine ze hT zr zr zr zr zr ?_); refine WT.nil ?_
    refine AW.cond rfl (fun h => ?_) (fun h => ?_)
    · have h : 65536 ≤ x := by simp at h; omega
      refine AW.seq ?_; refine AW.reg ?_; refine ze hT zr zr zr zr zr ?_
      refine WT.shV zr zr zr zr zr zr (by decide) (shr64 (y := 16) (by decide)) ?_
      refine ze hT zr zr zr zr zr ?_; refine WT.nil ?_; refine AW.reg ?_; refine ze hT zr zr zr zr zr ?_; refine za zr zr zr zr zr zr (by omega) ?_; refine ze hT zr zr zr zr zr ?_; refine WT.nil ?_
      refine ⟨(x / 2 ^ 16, 16), SubK.of_map rfl, OwnLe.refl _, ?_, Nat.le_refl _, (bitsLen_shift x 16 h).symm⟩
      show x / 65536 < 65536
      omega
    · have h : x < 65536 := by simp at h; omega
      refine AW.skip ?_
      exact ⟨(x, 0), SubK.of_map rfl, OwnLe.refl _, h, Nat.zero_le _, by simp⟩
  · obtain ⟨h1, h2, h3⟩ := hP
    refine AW.jn (S := Nat × Nat) (fun s => [(0, .int .u64 (s.1 : Nat)), (2, .int .i64 (s.2 : Nat))]) (fun _ => own) (fun s _ => s.1 < 256 ∧ s.2 ≤ 24 ∧ s.2 + Go.Sort.bitsLen s.1 = Go.Sort.bitsLen x) ?_ (fun u F2 hF2 hP => ?_)
    · refine AW.seq ?_; refine AW.reg ?_; (iterate 2 refine ze hT zr zr zr zr zr ?_); refine WT.nil ?_
      refine AW.cond rfl (fun h => ?_) (fun h => ?_)
      · have h : 256 ≤ s.1 := by simp at h; omega
        refine AW.seq ?_; refine AW.reg ?_; refine ze hT zr zr zr zr zr ?_
        refine WT.shV zr zr zr zr zr zr (by decide) (shr64 (y := 8) (by decide)) ?_
        refine ze hT zr zr zr zr zr ?_; refine WT.nil ?_; refine AW.reg ?_; refine ze hT zr zr zr zr zr ?_; refine za zr zr zr zr zr zr (by omega) ?_; refine ze hT zr zr zr zr zr ?_; refine WT.nil ?_
        refine ⟨(s.1 / 2 ^ 8, s.2 + 8), SubK.of_map rfl, OwnLe.refl _, ?_, by dsimp only; omega, ?_⟩
        · show s.1 / 256 < 256
          omega
        · have := bitsLen_shift s.1 8 h
          dsimp only
          omega
      · have h : s.1 < 256 := by simp at h; omega
        refine AW.skip ?_
        exact ⟨s, SubK.of_map rfl, OwnLe.refl _, h, by omega, h3⟩
    · obtain ⟨g1, g2, g3⟩ := hP
      refine AW.seq ?_; refine AW.reg ?_; (iterate 2 refine ze hT zr zr zr zr zr ?_)
      refine WT.conv hT (k2 := .u8) zr zr zr zr zr zr zr zr (wrapU8 (by omega)) ?_
      have hb : Go.Sort.bitsLen u.1 ≤ 8 := (Go.Sort.bitsLen_le_iff _ _).2 g1
      refine WT.indexStr (m := 256) (f := Go.Sort.bitsLen) hT zr zr zr zr zr zr zr zr g1 (by decide +kernel) ?_
      refine WT.conv hT (k2 := .i64) zr zr zr zr zr zr zr zr (wrap64 (by omega)) ?_
      refine WT.addN zr zr zr zr zr zr (by omega) ?_; refine ze hT zr zr zr zr zr ?_; refine WT.nil ?_
      refine AW.ret ⟨_, [], ⟨_, _, rfl, rfl, rfl⟩, (by repeat (first | exact List.Sublist.refl _ | refine List.Sublist.cons _ ?_)), rfl, ?_⟩
      rw [g3]; rfl

theorem blen_spec (F : Frz) (x : Nat) (hx : x < 4294967296) : Abs.Spec CC 139 [.int .u64 x] F [] fun _ v o => o = [] ∧ v = .int .i64 (Go.Sort.bitsLen x : Nat) := by
  refine Abs.Spec.fn (n := 8) Tryd.func139 rfl rfl fun own => ?_
  refine AW.seq ?_; refine AW.reg ?_; refine ze hT zr zr zr zr zr ?_; refine WT.nil ?_; refine AW.seq ?_
  refine AW.cond rfl (fun h => (by cases h)) (fun _ => ?_)
  refine AW.skip ?_; refine AW.seq ?_; refine AW.reg ?_; refine ze hT zr zr zr zr zr ?_
  refine WT.callV Tryd.func161 zr zr zr zr zr zr (len64_spec _ x hx) (fun v hv => ?_)
  subst hv
  refine ze hT zr zr zr zr zr ?_; refine WT.nil ?_
  exact AW.ret ⟨_, [], ⟨_, _, rfl, rfl, rfl⟩, (by repeat (first | exact List.Sublist.refl _ | refine List.Sublist.cons _ ?_)), rfl, rfl⟩

theorem npow_spec (F : Frz) (x : Nat) (hx : x ≤ 1000000) : Abs.Spec CC 178 [.int .i64 x] F [] fun _ v o => o = [] ∧ v = .int .u64 ((2 ^ Go.Sort.bitsLen x : Nat) : Int) := by
  have hb : Go.Sort.bitsLen x ≤ 20 := (Go.Sort.bitsLen_le_iff _ _).2 (by have : 2 ^ 20 = 1048576 := rfl
                                                                         omega)
  have hp : 2 ^ Go.Sort.bitsLen x ≤ 2 ^ 20 := Nat.pow_le_pow_right (by decide) hb
  have h20 : 2 ^ 20 = 1048576 := rfl
  refine Abs.Spec.fn (n := 7) Tryd.func178 rfl rfl fun own => ?_
  refine AW.seq ?_; refine AW.reg ?_; refine ze hT zr zr zr zr zr ?_; refine WT.nil ?_; refine AW.seq ?_; refine AW.reg ?_; refine ze hT zr zr zr zr zr ?_
  refine WT.conv hT (k2 := .u64) zr zr zr zr zr zr zr zr (wrapU64 (by omega)) ?_
  refine WT.callV Tryd.func139 zr zr zr zr zr zr (blen_spec _ x (by omega)) (fun v hv => ?_)
  subst hv
  have e := shl64 (x := 1) (y := Go.Sort.bitsLen x) (by omega)
  rw [Nat.one_mul, Nat.mod_eq_of_lt (by omega)] at e
  refine WT.shV zr zr zr zr zr zr (by decide) e ?_
  refine ze hT zr zr zr zr zr ?_; refine WT.nil ?_
  exact AW.ret ⟨_, [], ⟨_, _, rfl, rfl, rfl⟩, (by repeat (first | exact List.Sublist.refl _ | refine List.Sublist.cons _ ?_)), rfl, rfl⟩

theorem xorn_spec (F : Frz) (ip r : Nat) (hr : r < 18446744073709551616) : Abs.Spec CC 179 [.pointer (some ⟨ip, 0, none⟩)] F [[(ip, .cells false [.int .u64 r])]] fun F' v o => ∃ B', o = [B'] ∧ v = .int .u64 (Go.Sort.xorNextN r : Nat) ∧ B' = [(ip, .cells false [.int .u64 (Go.Sort.xorNextN r : Nat)])] := by
  obtain ⟨a, ha⟩ : ∃ a, r ^^^ (r * 8192 % 18446744073709551616) = a := ⟨_, rfl⟩
  obtain ⟨b, hb⟩ : ∃ b, a ^^^ (a / 128) = b := ⟨_, rfl⟩
  obtain ⟨c, hc⟩ : ∃ c, b ^^^ (b * 131072 % 18446744073709551616) = c := ⟨_, rfl⟩
  have p : (18446744073709551616 : Nat) = 2 ^ 64 := by decide
  have ha2 : a < 18446744073709551616 := by rw [← ha, p]; exact Nat.xor_lt_two_pow (by omega) (by omega)
  have hb2 : b < 18446744073709551616 := by rw [← hb, p]; exact Nat.xor_lt_two_pow (by omega) (by omega)
  have hx : Go.Sort.xorNextN r = c := by simp only [Go.Sort.xorNextN, ha, hb, hc]
  rw [hx]
  refine Abs.Spec.fn (n := 33) Tryd.func179 rfl rfl fun own => ?_
  refine AW.seq ?_; refine AW.reg ?_; refine ze hT zr zr zr zr zr ?_; refine WT.nil ?_; refine AW.seq ?_; refine AW.draw (ps := []) zr zr ?_; (iterate 2 refine ze hT zr zr zr zr zr ?_); refine zl hT 0 zr zr zr zr zr zr me zr ?_; (iterate 2 refine ze hT zr zr zr zr zr ?_); refine zl hT 0 zr zr zr zr zr zr me zr ?_
  refine WT.shV zr zr zr zr zr zr (by decide) (shl64 (y := 13) (by decide)) ?_
  refine WT.binV zr zr zr zr zr zr (by decide) (xor64 hr (Nat.mod_lt _ (by decide))) ?_
  rw [show r ^^^ (r * 2 ^ 13 % 18446744073709551616) = a from ha]
  refine ze hT zr zr zr zr zr ?_; refine zs hT 0 0 zr zr zr zr zr zr zr zr zr zr zr zr ?_; refine WT.nil ?_; refine And.intro trivial ?_; refine AW.seq ?_; refine AW.draw (ps := []) zr zr ?_; (iterate 2 refine ze hT zr zr zr zr zr ?_); refine zl hT 0 zr zr zr zr zr zr me zr ?_; (iterate 2 refine ze hT zr zr zr zr zr ?_); refine zl hT 0 zr zr zr zr zr zr me zr ?_
  refine WT.shV zr zr zr zr zr zr (by decide) (shr64 (y := 7) (by decide)) ?_
  refine WT.binV zr zr zr zr zr zr (by decide) (xor64 ha2 (Nat.lt_of_le_of_lt (Nat.div_le_self _ _) ha2)) ?_
  rw [show a ^^^ (a / 2 ^ 7) = b from hb]
  refine ze hT zr zr zr zr zr ?_; refine zs hT 0 0 zr zr zr zr zr zr zr zr zr zr zr zr ?_; refine WT.nil ?_; refine And.intro trivial ?_; refine AW.seq ?_; refine AW.draw (ps := []) zr zr ?_; (iterate 2 refine ze hT zr zr zr zr zr ?_); refine zl hT 0 zr zr zr zr zr zr me zr ?_; (iterate 2 refine ze hT zr zr zr zr zr ?_); refine zl hT 0 zr zr zr zr zr zr me zr ?_
  refine WT.shV zr zr zr zr zr zr (by decide) (shl64 (y := 17) (by decide)) ?_
  refine WT.binV zr zr zr zr zr zr (by decide) (xor64 hb2 (Nat.mod_lt _ (by decide))) ?_
  rw [show b ^^^ (b * 2 ^ 17 % 18446744073709551616) = c from hc]
  refine ze hT zr zr zr zr zr ?_; refine zs hT 0 0 zr zr zr zr zr zr zr zr zr zr zr zr ?_; refine WT.nil ?_; refine And.intro trivial ?_; refine AW.seq ?_; refine AW.reg ?_; (iterate 2 refine ze hT zr zr zr zr zr ?_); refine zl hT 0 zr zr zr zr zr zr me zr ?_; refine ze hT zr zr zr zr zr ?_; refine WT.nil ?_
  exact AW.ret ⟨_, [_], ⟨_, _, rfl, rfl, rfl⟩, (by repeat (first | exact List.Sublist.refl _ | refine List.Sublist.cons _ ?_)), _, rfl, rfl, rfl⟩
end Go.Proofs.D

set_option linter.unusedVariables false
set_option maxRecDepth 20000
set_option maxHeartbeats 0
open Go Go.Abs Go.Proofs Go.Proofs.D
namespace Go.Proofs.D

def bsN {α : Type} [Inhabited α] (a l md i0 : Nat) (st : UInt64 × Array α) : Nat → UInt64 × Array α
  | 0 => st
  | n + 1 => Go.Sort.breakStep a l md (bsN a l md i0 st n) (i0 + n)

structure PS (α : Type) where
  a : Nat
  b : Nat
  lim : Nat
  wb : Bool
  wp : Bool
  d : Array α
  B : List (Nat × Blk)

theorem partEq_range {α : Type} [Inhabited α] (lt : α → α → Bool) (d : Array α) {a b p : Nat} (h1 : a ≤ p) (h2 : p < b) (hb : b ≤ d.size) : a < (Go.Sort.partitionEqual lt d a b p).1 ∧ (Go.Sort.partitionEqual lt d a b p).1 ≤ b := by
  have := Go.Sort.partEqLoop_spec lt a b _ (a + 1) (b - 1) (Go.Sort.swp d a p) (Nat.le_refl _) (by omega) (by omega) (by omega) (by rw [Go.Sort.size_swp]; exact hb) (fun t h1 h2 => by omega) (fun t h1 h2 => by omega)
  exact ⟨this.1, this.2.1⟩

theorem part_range {α : Type} [Inhabited α] (lt : α → α → Bool) (d : Array α) {a b p : Nat} (h1 : a ≤ p) (h2 : p < b) (hb : b ≤ d.size) : a ≤ (Go.Sort.partition lt d a b p).1 ∧ (Go.Sort.partition lt d a b p).1 < b := by
  have := Go.Sort.partLoop_spec lt a b _ (a + 1) (b - 1) (Go.Sort.swp d a p) (Nat.le_refl _) (by omega) (by omega) (by omega) (by rw [Go.Sort.size_swp]; exact hb) (fun t h1 h2 => by omega) (fun t h1 h2 => by omega)
  rw [Go.Sort.partition_fst]
  exact ⟨this.1, this.2.1⟩

theorem itBreak_spec (F : Frz) {cv : Value} {a0 : Option Addr} {m c : Nat} {B : List (Nat × Blk)} {d : Array Item} (hv : Vec tItem F a0 m c B d.toList) (a b : Nat) (hab : a + 13 ≤ b) (hb : b ≤ m) (hm : m ≤ 1000000) :
    Abs.Spec CC 154 [.slice a0 m c, .int .i64 a, .int .i64 b, cv] F [B] fun F' v o => ∃ B', o = [B'] ∧ Vec tItem F' a0 m c B' (Go.Sort.breakPatterns d a b).toList := by
  obtain ⟨l, hl⟩ : ∃ l, b - a = l := ⟨_, rfl⟩
  obtain ⟨e, he⟩ : ∃ e, l / 4 = e := ⟨_, rfl⟩
  obtain ⟨p2, hp2⟩ : ∃ p, 2 ^ Go.Sort.bitsLen l = p := ⟨_, rfl⟩
  have h1p := Go.Sort.two_pow_bitsLen_le (n := l) (by omega)
  have h2p := Go.Sort.lt_two_pow_bitsLen l
  rw [hp2] at h1p h2p
  have hbr : Go.Sort.breakPatterns d a b = (bsN a l p2 (a + e * 2 - 1) (UInt64.ofNat l, d) 3).2 := by
    unfold Go.Sort.breakPatterns
    simp only [hl]
    rw [if_pos (by omega), he, Nat.one_shiftLeft, hp2]
    rfl
  refine Abs.Spec.fn (n := 67) Tryd.func154 rfl rfl fun own => ?_
  refine AW.seq ?_; refine AW.reg ?_; (iterate 2 refine ze hT zr zr zr zr zr ?_); refine WT.subN zr zr zr zr zr zr (by omega) ?_; refine ze hT zr zr zr zr zr ?_; refine WT.nil ?_; refine AW.seq ?_; refine AW.reg ?_; (iterate 2 refine ze hT zr zr zr zr zr ?_); refine WT.nil ?_
  rw [hl]
  refine AW.cond rfl (fun _ => ?_) (fun h => (by simp at h; omega))
  refine AW.seq ?_; refine AW.reg ?_; refine ze hT zr zr zr zr zr ?_
  refine WT.conv hT (k2 := .u64) zr zr zr zr zr zr zr zr (wrapU64 (by omega)) ?_
  refine WT.allocT hT zr zr zr zr zr zr (fun i9 hi9 => ?_)
  refine zs hT 0 0 zr zr zr zr zr zr zr zr zr zr zr zr ?_; refine WT.nil ?_; refine AW.seq ?_; refine AW.reg ?_; refine ze hT zr zr zr zr zr ?_
  refine WT.callV Tryd.func178 zr zr zr zr zr zr (npow_spec _ l (by omega)) (fun v hv' => ?_)
  rw [hp2] at hv'
  subst hv'
  refine ze hT zr zr zr zr zr ?_; refine WT.nil ?_; refine AW.seq ?_; refine AW.reg ?_; (iterate 2 refine ze hT zr zr zr zr zr ?_)
  refine WT.quoL 4 zr zr zr zr zr zr (by decide) (by omega) ?_
  rw [he]
  refine WT.mulL 2 zr zr zr zr zr zr (by omega) ?_
  refine WT.addN zr zr zr zr zr zr (by omega) ?_; refine WT.sub1 zr zr zr zr zr zr (by omega) ?_; refine ze hT zr zr zr zr zr ?_; refine WT.nil ?_
  refine AW.block ?_
  refine AW.loopR (S := VS Item) (fun s => [(11, .int .i64 ((a + e * 2 - 1 + s.i : Nat) : Int))]) (fun s => [(i9, .cells false [.int .u64 ((bsN a l p2 (a + e * 2 - 1) (UInt64.ofNat l, d) s.i).1.toNat : Nat)])] :: s.B :: own) (fun s G => Vec tItem G a0 m c s.B s.d.toList ∧ s.i ≤ 3 ∧ s.d = (bsN a l p2 (a + e * 2 - 1) (UInt64.ofNat l, d) s.i).2) (fun s => 3 - s.i) ⟨0, d, B⟩
    (SubK.of_map rfl) (OwnLe.flat (List.Perm.of_eq ?_)) ⟨hv, Nat.zero_le _, rfl⟩ ?_
  · rw [show (bsN a l p2 (a + e * 2 - 1) (UInt64.ofNat l, d) 0).1.toNat = l from by
      show (UInt64.ofNat l).toNat = l
      rw [UInt64.toNat_ofNat']
      exact Nat.mod_eq_of_lt (by have : 2 ^ 64 = 18446744073709551616 := rfl
                                 omega)]
    rfl
  intro u F2 hF2 hP2
  obtain ⟨hv2, hi, heq⟩ := hP2
  have hsz : m = u.d.size := hv2.len
  have hr64 := (bsN a l p2 (a + e * 2 - 1) (UInt64.ofNat l, d) u.i).1.toNat_lt
  rw [show (2 : Nat) ^ 64 = 18446744073709551616 from rfl] at hr64
  obtain ⟨r, hr⟩ : ∃ r, (bsN a l p2 (a + e * 2 - 1) (UInt64.ofNat l, d) u.i).1.toNat = r := ⟨_, rfl⟩
  have hnext : (bsN a l p2 (a + e * 2 - 1) (UInt64.ofNat l, d) (u.i + 1)).1.toNat = Go.Sort.xorNextN r := by
    rw [← hr, ← Go.Sort.xorNext_toNat]; rfl
  rw [hr] at hr64
  rw [hr]
  have hx64 := Go.Sort.xorNextN_lt r hr64
  obtain ⟨o0, ho0⟩ : ∃ o0, Go.Sort.xorNextN r &&& (p2 - 1) = o0 := ⟨_, rfl⟩
  have ho1 : o0 ≤ p2 - 1 := by rw [← ho0]; exact Nat.and_le_right
  have hswap : (bsN a l p2 (a + e * 2 - 1) (UInt64.ofNat l, d) (u.i + 1)).2 = Go.Sort.swp u.d (a + e * 2 - 1 + u.i) (a + (if o0 ≥ l then o0 - l else o0)) := by
    show (Go.Sort.breakStep a l p2 (bsN a l p2 (a + e * 2 - 1) (UInt64.ofNat l, d) u.i) (a + e * 2 - 1 + u.i)).2 = _
    unfold Go.Sort.breakStep
    simp only [Go.Sort.xorNext_toNat, hr, ho0, ← heq]
  have hel : e * 4 ≤ l := by rw [← he]; exact Nat.div_mul_le_self _ _
  have he3 : 3 ≤ e := by rw [← he]; omega
  (iterate 2 refine AW.seq ?_); refine AW.reg ?_; (iterate 3 refine ze hT zr zr zr zr zr ?_)
  refine WT.quoL 4 zr zr zr zr zr zr (by decide) (by omega) ?_
  rw [he]
  refine WT.mulL 2 zr zr zr zr zr zr (by omega) ?_
  refine WT.addN zr zr zr zr zr zr (by omega) ?_; refine WT.add1 zr zr zr zr zr zr (by omega) ?_; refine ze hT zr zr zr zr zr ?_; refine WT.nil ?_
  refine AW.cond rfl (fun h => ?_) (fun h => ?_)
  · have h : u.i < 3 := by simp at h; omega
    refine AW.skip ?_; refine AW.seq ?_
    refine AW.block ?_
    refine AW.seq ?_; refine AW.reg ?_
    refine WT.call1F 0 Tryd.func179 zr zr zr zr zr zr zr (fun _ => rfl) (xorn_spec _ i9 r hr64) (fun F3 v B3 hF3 hv3 => ?_)
    obtain ⟨rfl, rfl⟩ := hv3
    have hv3 := hv2.mono hF3
    refine ze hT zr zr zr zr zr ?_
    refine WT.binV zr zr zr zr zr zr (by decide) (sub64 (x := p2) (y := 1) (by omega) (by omega)) ?_
    refine WT.binV zr zr zr zr zr zr (by decide) (and64 hx64 (by omega)) ?_
    rw [ho0]
    refine WT.conv hT (k2 := .i64) zr zr zr zr zr zr zr zr (wrap64 (by omega)) ?_
    refine ze hT zr zr zr zr zr ?_; refine WT.nil ?_; (iterate 2 refine AW.seq ?_); refine AW.reg ?_; (iterate 3 refine ze hT zr zr zr zr zr ?_); refine WT.nil ?_
    refine AW.jnT (S := Unit) (fun _ => [(12, .int .i64 ((if o0 ≥ l then o0 - l else o0 : Nat) : Int))]) (fun _ => [(i9, .cells false [.int .u64 (Go.Sort.xorNextN r : Nat)])] :: u.B :: own) (fun _ _ => True) ?_ (fun _ F4 hF4 _ => ?_)
    · refine AW.cond rfl (fun h => ?_) (fun h => ?_)
      · have h : l ≤ o0 := by simp at h; omega
        refine AW.reg ?_; (iterate 2 refine ze hT zr zr zr zr zr ?_); refine WT.subN zr zr zr zr zr zr (by omega) ?_; refine ze hT zr zr zr zr zr ?_; refine WT.nil ?_
        refine ⟨(), SubK.of_map (by rw [if_pos h]; rfl), OwnLe.refl _, trivial⟩
      · have h : ¬ l ≤ o0 := by simp at h; omega
        refine AW.skip ?_
        refine ⟨(), SubK.of_map (by rw [if_neg h]; rfl), OwnLe.refl _, trivial⟩
    · obtain ⟨o1, ho2⟩ : ∃ o1, (if o0 ≥ l then o0 - l else o0) = o1 := ⟨_, rfl⟩
      have ho3 : o1 < l := by rw [← ho2]; split <;> omega
      rw [ho2] at hswap ⊢
      have hv4 := hv3.mono hF4
      skip
      refine AW.draw (ps := [(5, 17)]) rfl rfl ?_
      (iterate 5 refine ze hT zr zr zr zr zr ?_); refine WT.addN zr zr zr zr zr zr (by omega) ?_; (iterate 3 refine ze hT zr zr zr zr zr ?_); refine WT.addN zr zr zr zr zr zr (by omega) ?_
      refine WT.vidx hT hv4 zr zr zr zr zr zr zr zr zr (by omega) (fun bl3 hbl3 => ?_)
      refine WT.vldS hT 1 hv4 hbl3 (arr_at (by omega)) zr zr zr zr zr zr zr zr zr (fun l3 hl3 => ?_)
      (iterate 2 refine ze hT zr zr zr zr zr ?_)
      refine WT.vidx hT hv4 zr zr zr zr zr zr zr zr zr (by omega) (fun bl4 hbl4 => ?_)
      refine WT.vldS hT 1 hv4 hbl4 (arr_at (by omega)) zr zr zr zr zr zr zr zr zr (fun l4 hl4 => ?_)
      refine WT.vidx hT hv4 zr zr zr zr zr zr zr zr zr (by omega) (fun bl5 hbl5 => ?_)
      refine WT.vst (y := u.d[a + o1]!) hT 1 hv4 hbl5 (List.getElem?_eq_getElem (by simp; omega)) zr zr zr zr zr hl3 rfl (fun _ => rfl) rfl (fun Bl5 hBl5 => ?_)
      refine WT.vidx hT hBl5 zr zr zr zr zr zr zr zr zr (by omega) (fun bl6 hbl6 => ?_)
      refine WT.vst (y := u.d[a + e * 2 - 1 + u.i]!) hT 1 hBl5 hbl6 (List.getElem?_eq_getElem (by simp; omega)) zr zr zr zr zr hl4 rfl (fun _ => rfl) rfl (fun Bl6 hBl6 => ?_)
      rw [← swp_list] at hBl6
      refine WT.nil ?_
      refine ⟨(by repeat (first | exact trivial | refine recs_pair rfl rfl (by first | exact keep0 | exact keep1 (keeps_frz (by assumption)) | exact kp 0 0 me me | exact kp 1 1 me me | exact kp 2 2 me me | exact kp 3 3 me me | exact kp 4 4 me me | exact kp 5 5 me me | exact kp 6 6 me me | exact kp 0 1 me me | exact kp 1 2 me me | exact kp 2 3 me me | exact kp 3 4 me me | exact kp 4 5 me me | exact kp 5 6 me me | exact kp 6 7 me me) ?_)), ?_⟩
      refine AW.reg ?_; refine ze hT zr zr zr zr zr ?_; refine WT.add1 zr zr zr zr zr zr (by omega) ?_; refine ze hT zr zr zr zr zr ?_; refine WT.nil ?_
      refine ⟨⟨u.i + 1, _, Bl6⟩, by dsimp only; omega, SubK.of_map rfl, OwnLe.flat (List.Perm.of_eq (by rw [hnext])), hBl6, by dsimp only; omega, hswap.symm⟩
  · have h : u.i = 3 := by simp at h; omega
    refine AW.exit ?_
    skip
    refine ⟨_, [_], rfl, (by repeat (first | exact List.Sublist.refl _ | refine List.Sublist.cons _ ?_)), _, rfl, ?_⟩
    rw [hbr, ← h, ← heq]
    exact hv2

theorem itPdqR_spec {lt : Item → Item → Bool} {g : Nat} {first capt : List Value} : ∀ (N : Nat) (F : Frz) (hc : CmpOk tItem lt F g first capt) {a0 : Option Addr} {m c : Nat} {B : List (Nat × Blk)} {d : Array Item} (hv : Vec tItem F a0 m c B d.toList) (a b limit : Nat) (hN : b - a < N) (hab : a ≤ b) (hb : b ≤ m) (hm : m ≤ 1000000) (hlim : limit ≤ 1000000),
    Abs.Spec CC 138 [.slice a0 m c, .int .i64 a, .int .i64 b, .int .i64 limit, .func (.func g) ⟨first⟩ ⟨capt⟩] F [B] fun F' v o => ∃ B', o = [B'] ∧ Vec tItem F' a0 m c B' (Go.Sort.pdq lt d a b limit true true).toList
  | 0, _, _, _, _, _, _, _, _, _, _, _, h, _, _, _, _ => absurd h (Nat.not_lt_zero _)
  | N + 1, F, hc, a0, m, c, B, d, hv, a, b, limit, hN, hab, hb, hm, hlim => by
    obtain ⟨⟨fn, hg, hgb⟩, hcmp⟩ := id hc
    refine Abs.Spec.fn (n := 148) Tryd.func138 rfl rfl fun own => ?_
    refine AW.seq ?_; refine AW.reg ?_; refine ze hT zr zr zr zr zr ?_; refine WT.nil ?_; refine AW.seq ?_; refine AW.reg ?_; refine ze hT zr zr zr zr zr ?_; refine WT.nil ?_
    refine AW.block ?_
    refine AW.loopR (S := PS Item) (fun s => [(1, .int .i64 (s.a : Nat)), (2, .int .i64 (s.b : Nat)), (3, .int .i64 (s.lim : Nat)), (10, .bool s.wb), (11, .bool s.wp)]) (fun s => s.B :: own)
      (fun s G => Vec tItem G a0 m c s.B s.d.toList ∧ s.a ≤ s.b ∧ s.b ≤ m ∧ s.b - s.a ≤ b - a ∧ s.lim ≤ 1000000 ∧ Go.Sort.pdq lt s.d s.a s.b s.lim s.wb s.wp = Go.Sort.pdq lt d a b limit true true) (fun s => s.b - s.a) ⟨a, b, limit, true, true, d, B⟩
      (SubK.of_map rfl) (OwnLe.refl _) ⟨hv, hab, hb, Nat.le_refl _, hlim, rfl⟩ ?_
    intro s F1 hF1 hP
    obtain ⟨hv1, hab1, hb1, hle1, hlim1, heq⟩ := hP
    have hc1 := hc.mono hF1
    refine AW.block ?_
    refine AW.seq ?_; refine AW.reg ?_; (iterate 2 refine ze hT zr zr zr zr zr ?_); refine WT.subN zr zr zr zr zr zr (by omega) ?_; refine ze hT zr zr zr zr zr ?_; refine WT.nil ?_; (iterate 2 refine AW.seq ?_); refine AW.reg ?_; (iterate 2 refine ze hT zr zr zr zr zr ?_); refine WT.nil ?_
    refine AW.cond rfl (fun h => ?_) (fun h => ?_)
    · have h : s.b - s.a ≤ 12 := by simp at h; omega
      refine AW.seq ?_; refine AW.reg ?_; (iterate 4 refine ze hT zr zr zr zr zr ?_)
      refine WT.call1F 0 Tryd.func152 zr zr zr zr zr zr zr (fun _ => rfl) (itIns_spec _ hc1 hv1 s.a s.b (by omega) hb1 hm) (fun F2 v B2 hF2 hv2 => ?_)
      refine WT.nil ?_
      refine AW.ret ⟨_, [_], rfl, (by repeat (first | exact List.Sublist.refl _ | refine List.Sublist.cons _ ?_)), _, rfl, ?_⟩
      rw [← heq, Go.Sort.pdq_small h]; exact hv2
    · have h : ¬ s.b - s.a ≤ 12 := by simp at h; omega
      refine AW.skip ?_; (iterate 2 refine AW.seq ?_); refine AW.reg ?_; (iterate 2 refine ze hT zr zr zr zr zr ?_); refine WT.nil ?_
      refine AW.cond rfl (fun h0 => ?_) (fun h0 => ?_)
      · have h0 : s.lim = 0 := by simp at h0; omega
        refine AW.seq ?_; refine AW.reg ?_; (iterate 4 refine ze hT zr zr zr zr zr ?_)
        refine WT.call1F 0 Tryd.func153 zr zr zr zr zr zr zr (fun _ => rfl) (itHeap_spec _ hc1 hv1 s.a s.b (by omega) hb1 hm) (fun F2 v B2 hF2 hv2 => ?_)
        refine WT.nil ?_
        refine AW.ret ⟨_, [_], rfl, (by repeat (first | exact List.Sublist.refl _ | refine List.Sublist.cons _ ?_)), _, rfl, ?_⟩
        rw [← heq, Go.Sort.pdq_heap h h0]; exact hv2
      · have h0 : ¬ s.lim = 0 := by simp at h0; omega
        obtain ⟨R, hR⟩ : ∃ R, Go.Sort.rd lt s.d s.a s.b s.lim s.wb s.wp = R := ⟨_, rfl⟩
        refine AW.skip ?_
        refine AW.jn (S := VS Item) (fun t => [(3, .int .i64 (t.i : Nat))]) (fun t => t.B :: own) (fun t G => Vec tItem G a0 m c t.B t.d.toList ∧ t.i = R.lim ∧ t.d = R.d1) ?_ (fun t F2 hF2 hP2 => ?_)
        · refine AW.seq ?_; refine AW.reg ?_; (iterate 2 refine ze hT zr zr zr zr zr ?_); refine WT.nil ?_
          cases hwb : s.wb with
          | true =>
            refine AW.cond rfl (fun h => (by cases h)) (fun _ => ?_)
            refine AW.skip ?_
            exact ⟨⟨s.lim, s.d, s.B⟩, SubK.of_map rfl, OwnLe.refl _, hv1, by rw [← hR, hwb]; rfl, by rw [← hR, hwb]; rfl⟩
          | false =>
            refine AW.cond rfl (fun _ => ?_) (fun h => (by cases h))
            refine AW.seq ?_; refine AW.reg ?_; (iterate 4 refine ze hT zr zr zr zr zr ?_)
            refine WT.call1F 0 Tryd.func154 zr zr zr zr zr zr zr (fun _ => rfl) (itBreak_spec _ hv1 s.a s.b (by omega) hb1 hm) (fun F2 v B2 hF2 hv2 => ?_)
            refine WT.nil ?_; refine AW.reg ?_; refine ze hT zr zr zr zr zr ?_; refine WT.sub1 zr zr zr zr zr zr (by omega) ?_; refine ze hT zr zr zr zr zr ?_; refine WT.nil ?_
            exact ⟨⟨s.lim - 1, _, B2⟩, SubK.of_map rfl, OwnLe.refl _, hv2, by rw [← hR, hwb]; rfl, by rw [← hR, hwb]; rfl⟩
        · obtain ⟨hv2, hlm, hd1⟩ := hP2
          have hc2 := hc1.mono hF2
          have hsz2 : m = t.d.size := hv2.len
          have hcc : Go.Sort.choosePivot lt t.d s.a s.b = R.c := by rw [hd1, ← hR]; rfl
          have hcr := Go.Sort.choosePivot_holds lt t.d s.a s.b (by omega)
          rw [hcc] at hcr
          have hlim2 : R.lim ≤ s.lim := by rw [← hR]; exact Go.Sort.rd_lim_le
          refine AW.seq ?_; refine AW.reg ?_; (iterate 4 refine ze hT zr zr zr zr zr ?_)
          refine WT.callLend 0 Tryd.func155 zr zr zr zr zr zr zr (fun G hG hBG => itPivot_spec G (hc2.mono hG) (hv2.arr hG hBG) s.a s.b (by omega) hb1 hm) (fun v hv' => ?_)
          rw [hcc] at hv'
          subst hv'
          (iterate 5 (refine WT.easy hT zr zr zr zr zr ?_))
          refine WT.nil ?_
          refine AW.jn (S := Nat × Go.Sort.Hint × VS Item) (fun u => [(13, .int .i64 (u.1 : Nat)), (14, .int .i64 (Go.Sort.hintCode u.2.1))]) (fun u => u.2.2.B :: own) (fun u G => Vec tItem G a0 m c u.2.2.B u.2.2.d.toList ∧ u.1 = R.pivot ∧ u.2.1 = R.hint ∧ u.2.2.d = R.d2 ∧ s.a ≤ u.1 ∧ u.1 < s.b) ?_ (fun u F3 hF3 hP3 => ?_)
          · refine AW.seq ?_; refine AW.reg ?_; (iterate 2 refine ze hT zr zr zr zr zr ?_); refine WT.nil ?_
            refine AW.cond rfl (fun hh => ?_) (fun hh => ?_)
            · have hdec : R.c.2 = .decreasing := by
                cases e : R.c.2 with
                | decreasing => rfl
                | increasing => rw [e] at hh; cases hh
                | unknown => rw [e] at hh; cases hh
              obtain ⟨q1, q2, q3⟩ := Go.Sort.rd_dec (lt := lt) (d := s.d) (a := s.a) (b := s.b) (limit := s.lim) (wb := s.wb) (wp := s.wp) (by rw [hR]; exact hdec)
              rw [hR] at q1 q2 q3
              refine AW.seq ?_; refine AW.reg ?_; (iterate 4 refine ze hT zr zr zr zr zr ?_)
              refine WT.call1F 0 Tryd.func156 zr zr zr zr zr zr zr (fun _ => rfl) (itRev_spec _ hv2 s.a s.b (by omega) hb1 hm) (fun F3 v B3 hF3 hv3 => ?_)
              refine WT.nil ?_; refine AW.seq ?_; refine AW.reg ?_; refine ze hT zr zr zr zr zr ?_; refine WT.sub1 zr zr zr zr zr zr (by omega) ?_; (iterate 2 refine ze hT zr zr zr zr zr ?_); (iterate 2 refine WT.subN zr zr zr zr zr zr (by omega) ?_); refine ze hT zr zr zr zr zr ?_; refine WT.nil ?_; refine AW.reg ?_; refine ze hT zr zr zr zr zr ?_; refine WT.nil ?_
              refine ⟨(s.b - 1 - (R.c.1 - s.a), .increasing, ⟨0, _, B3⟩), SubK.of_map rfl, OwnLe.refl _, hv3, q2.symm, q3.symm, (by rw [q1, hd1]; rfl), by dsimp only; omega, by dsimp only; omega⟩
            · have hdec : R.c.2 ≠ .decreasing := by intro e; rw [e] at hh; cases hh
              obtain ⟨q1, q2, q3⟩ := Go.Sort.rd_not (lt := lt) (d := s.d) (a := s.a) (b := s.b) (limit := s.lim) (wb := s.wb) (wp := s.wp) (by rw [hR]; exact hdec)
              rw [hR] at q1 q2 q3
              refine AW.skip ?_
              exact ⟨(R.c.1, R.c.2, ⟨0, t.d, t.B⟩), SubK.of_map rfl, OwnLe.refl _, hv2, q2.symm, q3.symm, by rw [q1, hd1], hcr.1, hcr.2⟩
          · obtain ⟨hv3, hpv, hhint, hd2, hpa, hpb⟩ := hP3
            have hc3 := hc2.mono hF3
            have hno : (s.wb && s.wp && decide (R.hint = .increasing)) = false → R.pi = (R.d2, false) := fun h => by
              have := Go.Sort.rd_pi_no (lt := lt) (d := s.d) (a := s.a) (b := s.b) (limit := s.lim) (wb := s.wb) (wp := s.wp) (by rw [hR]; exact h)
              rw [hR] at this; exact this
            have hyes : (s.wb && s.wp && decide (R.hint = .increasing)) = true → R.pi = Go.Sort.partialInsertionSort lt R.d2 s.a s.b := fun h => by
              have := Go.Sort.rd_pi_yes (lt := lt) (d := s.d) (a := s.a) (b := s.b) (limit := s.lim) (wb := s.wb) (wp := s.wp) (by rw [hR]; exact h)
              rw [hR] at this; exact this
            refine AW.jn (S := VS Item) (fun _ => []) (fun w => w.B :: own) (fun w G => Vec tItem G a0 m c w.B w.d.toList ∧ R.pi = (w.d, false)) ?_ (fun w F4 hF4 hP4 => ?_)
            · refine AW.split 10 rfl (fun hwb => ?_) (fun hwb => ?_)
              · refine AW.split 11 rfl (fun hwp => ?_) (fun hwp => ?_)
                · refine AW.seq ?_; refine AW.reg ?_; (iterate 8 refine ze hT zr zr zr zr zr ?_); refine WT.nil ?_
                  refine AW.cond rfl (fun hh => ?_) (fun hh => ?_)
                  · have hinc : R.hint = .increasing := by
                      rw [← hhint]
                      cases e : u.2.1 with
                      | increasing => rfl
                      | decreasing => rw [e] at hh; cases hh
                      | unknown => rw [e] at hh; cases hh
                    have hpi := hyes (by rw [hwb, hwp, hinc]; rfl)
                    refine AW.seq ?_; refine AW.reg ?_; (iterate 4 refine ze hT zr zr zr zr zr ?_)
                    refine WT.call1F 0 Tryd.func157 zr zr zr zr zr zr zr (fun _ => rfl) (itPIns_spec _ hc3 hv3 s.a s.b (by omega) hb1 hm) (fun F4 v B4 hF4 hv4 => ?_)
                    obtain ⟨rfl, hv4⟩ := hv4
                    rw [hd2, ← hpi] at hv4 ⊢
                    refine WT.nil ?_
                    refine AW.cond rfl (fun hp2 => ?_) (fun hp2 => ?_)
                    · have hp2 : R.pi.2 = true := hp2
                      refine AW.ret ⟨_, [_], rfl, (by repeat (first | exact List.Sublist.refl _ | refine List.Sublist.cons _ ?_)), _, rfl, ?_⟩
                      rw [← heq, Go.Sort.pdq_done h h0 (by rw [hR]; exact hp2), hR]; exact hv4
                    · have hp2 : R.pi.2 = false := hp2
                      refine AW.skip ?_
                      exact ⟨⟨0, R.pi.1, B4⟩, SubK.of_map (by rw [hwb, hwp]; rfl), OwnLe.refl _, hv4, by rw [← hp2]⟩
                  · have hinc : R.hint ≠ .increasing := by intro e; rw [← hhint] at e; rw [e] at hh; cases hh
                    refine AW.skip ?_
                    exact ⟨⟨0, u.2.2.d, u.2.2.B⟩, SubK.of_map (by rw [hwb, hwp]; rfl), OwnLe.refl _, hv3, by rw [hno (by simp [hinc]), hd2]⟩
                · refine AW.seq ?_; refine AW.reg ?_; (iterate 5 refine ze hT zr zr zr zr zr ?_); (iterate 2 refine zx zr zr zr zr ?_); refine ze hT zr zr zr zr zr ?_; refine WT.nil ?_
                  refine AW.cond rfl (fun hh => (by cases hh)) (fun hh => ?_)
                  refine AW.skip ?_
                  exact ⟨⟨0, u.2.2.d, u.2.2.B⟩, SubK.of_map (by rw [hwb, hwp]; rfl), OwnLe.refl _, hv3, by rw [hno (by simp [hwp]), hd2]⟩
              · refine AW.seq ?_; refine AW.reg ?_; (iterate 2 refine ze hT zr zr zr zr zr ?_); refine zx zr zr zr zr ?_; (iterate 2 refine ze hT zr zr zr zr zr ?_); (iterate 2 refine zx zr zr zr zr ?_); refine ze hT zr zr zr zr zr ?_; refine WT.nil ?_
                refine AW.cond rfl (fun hh => (by cases hh)) (fun hh => ?_)
                refine AW.skip ?_
                exact ⟨⟨0, u.2.2.d, u.2.2.B⟩, SubK.of_map (by rw [hwb]; rfl), OwnLe.refl _, hv3, by rw [hno (by simp [hwb]), hd2]⟩
            · obtain ⟨hv4, hpi⟩ := hP4
              have hc4 := hc3.mono hF4
              have hsz4 : m = w.d.size := hv4.len
              have hp2 : (Go.Sort.rd lt s.d s.a s.b s.lim s.wb s.wp).pi.2 = false := by rw [hR, hpi]
              have hcm := hc4.2
              refine AW.jn (S := Unit) (fun _ => []) (fun _ => w.B :: own) (fun _ _ => (decide (s.a > 0) && !lt w.d[s.a - 1]! w.d[u.1]!) = false) ?_ (fun _ F5 hF5 hx => ?_)
              · refine AW.seq ?_; refine AW.draw (ps := []) zr zr ?_; (iterate 3 refine ze hT zr zr zr zr zr ?_)
                refine WT.split 83 rfl (fun ha0 => ?_) (fun ha0 => ?_)
                · have ha0 : 0 < s.a := by simp at ha0; omega
                  (iterate 3 refine ze hT zr zr zr zr zr ?_); refine WT.sub1 zr zr zr zr zr zr (by omega) ?_
                  refine WT.vidx hT hv4 zr zr zr zr zr zr zr zr zr (by omega) (fun bl1 hbl1 => ?_)
                  refine WT.vldS hT 0 hv4 hbl1 (arr_at (by omega)) zr zr zr zr zr zr zr zr zr (fun l1 hl1 => ?_)
                  (iterate 2 refine ze hT zr zr zr zr zr ?_)
                  refine WT.vidx hT hv4 zr zr zr zr zr zr zr zr zr (by omega) (fun bl2 hbl2 => ?_)
                  refine WT.vldS hT 0 hv4 hbl2 (arr_at (by omega)) zr zr zr zr zr zr zr zr zr (fun l2 hl2 => ?_)
                  refine WT.callC hg hgb zr zr zr zr zr zr zr (hcm F4 (Frz.le.refl F4) l1 l2 _ _ hl1 hl2) (fun v hvz => ?_)
                  obtain ⟨z, rfl, hz⟩ := hvz
                  (iterate 3 refine ze hT zr zr zr zr zr ?_); refine WT.nil ?_; refine And.intro trivial ?_
                  refine AW.cond rfl (fun hq => ?_) (fun hq => ?_)
                  · have hlt : lt w.d[s.a - 1]! w.d[u.1]! = false := Bool.eq_false_iff.2 (fun hh => absurd (hz.2 hh) (by simpa using hq))
                    have hrange := partEq_range lt w.d (a := s.a) (b := s.b) (p := u.1) hpa hpb (by omega)
                    have e := Go.Sort.pdq_eq (lt := lt) h h0 hp2 (by rw [hR, hpi, ← hpv]; simp [ha0, hlt]) (by rw [hR, hpi, ← hpv]; exact hrange)
                    rw [hR, hpi, ← hpv, ← hlm] at e
                    obtain ⟨pe, hpe⟩ : ∃ pe, Go.Sort.partitionEqual lt w.d s.a s.b u.1 = pe := ⟨_, rfl⟩
                    rw [hpe] at hrange
                    refine AW.seq ?_; refine AW.reg ?_; (iterate 5 refine ze hT zr zr zr zr zr ?_)
                    refine WT.call1F 0 Tryd.func158 zr zr zr zr zr zr zr (fun _ => rfl) (itPartEq_spec _ hc4 hv4 s.a s.b u.1 hpa hpb hb1 hm) (fun F5 v B5 hF5 hv5 => ?_)
                    obtain ⟨rfl, hv5⟩ := hv5
                    rw [hpe] at hv5 ⊢
                    refine ze hT zr zr zr zr zr ?_; refine WT.nil ?_; refine AW.seq ?_; refine AW.reg ?_; (iterate 2 refine ze hT zr zr zr zr zr ?_); refine WT.nil ?_
                    refine AW.exit ?_
                    refine ⟨⟨pe.1, s.b, t.i, s.wb, s.wp, pe.2, B5⟩, by dsimp only; omega, SubK.of_map rfl, OwnLe.refl _, hv5, hrange.2, hb1, by dsimp only; omega, by dsimp only; omega, ?_⟩
                    rw [← heq, e, hpe]
                  · have hlt := hz.1 (by simpa using hq)
                    refine AW.skip ?_
                    exact ⟨(), SubK.of_map rfl, OwnLe.refl _, by rw [hlt]; simp⟩
                · have ha0 : ¬ 0 < s.a := by simp at ha0; omega
                  (iterate 13 refine zx zr zr zr zr ?_); refine ze hT zr zr zr zr zr ?_; refine WT.nil ?_; refine And.intro trivial ?_
                  refine AW.cond rfl (fun hq => (by cases hq)) (fun hq => ?_)
                  refine AW.skip ?_
                  exact ⟨(), SubK.of_map rfl, OwnLe.refl _, by simp [ha0]⟩
              · have hv5 := hv4.mono hF5
                have hc5 := hc4.mono hF5
                have hrange := part_range lt w.d (a := s.a) (b := s.b) (p := u.1) hpa hpb (by omega)
                have hx' : (decide (s.a > 0) && !lt (Go.Sort.rd lt s.d s.a s.b s.lim s.wb s.wp).pi.1[s.a - 1]! (Go.Sort.rd lt s.d s.a s.b s.lim s.wb s.wp).pi.1[(Go.Sort.rd lt s.d s.a s.b s.lim s.wb s.wp).pivot]!) = false := by rw [hR, hpi, ← hpv]; exact hx
                have hr' : s.a ≤ (Go.Sort.partition lt (Go.Sort.rd lt s.d s.a s.b s.lim s.wb s.wp).pi.1 s.a s.b (Go.Sort.rd lt s.d s.a s.b s.lim s.wb s.wp).pivot).1 ∧ (Go.Sort.partition lt (Go.Sort.rd lt s.d s.a s.b s.lim s.wb s.wp).pi.1 s.a s.b (Go.Sort.rd lt s.d s.a s.b s.lim s.wb s.wp).pivot).1 < s.b := by rw [hR, hpi, ← hpv]; exact hrange
                have eL := Go.Sort.pdq_left (lt := lt) h h0 hp2 hx' hr'
                have eR := Go.Sort.pdq_right (lt := lt) h h0 hp2 hx' hr'
                rw [hR, hpi, ← hpv, ← hlm] at eL eR
                obtain ⟨pp, hpp⟩ : ∃ pp, Go.Sort.partition lt w.d s.a s.b u.1 = pp := ⟨_, rfl⟩
                simp only [hpp] at hrange eL eR
                refine AW.seq ?_; refine AW.reg ?_; (iterate 5 refine ze hT zr zr zr zr zr ?_)
                refine WT.call1F 0 Tryd.func159 zr zr zr zr zr zr zr (fun _ => rfl) (itPart_spec _ hc5 hv5 s.a s.b u.1 hpa hpb hb1 hm) (fun F6 v B6 hF6 hv6 => ?_)
                obtain ⟨rfl, hv6⟩ := hv6
                rw [hpp] at hv6 ⊢
                have hc6 := hc5.mono hF6
                (iterate 5 refine ze hT zr zr zr zr zr ?_); refine WT.nil ?_; refine AW.seq ?_; refine AW.reg ?_; (iterate 2 refine ze hT zr zr zr zr zr ?_); refine WT.nil ?_; refine AW.seq ?_; refine AW.reg ?_; (iterate 2 refine ze hT zr zr zr zr zr ?_); refine WT.subN zr zr zr zr zr zr (by omega) ?_; (iterate 2 refine ze hT zr zr zr zr zr ?_); refine WT.subN zr zr zr zr zr zr (by omega) ?_; (iterate 2 refine ze hT zr zr zr zr zr ?_); refine WT.nil ?_; refine AW.seq ?_; refine AW.reg ?_; refine ze hT zr zr zr zr zr ?_
                refine WT.quoL 8 zr zr zr zr zr zr (by decide) (by omega) ?_
                refine ze hT zr zr zr zr zr ?_; refine WT.nil ?_; refine AW.seq ?_; refine AW.reg ?_; (iterate 3 refine ze hT zr zr zr zr zr ?_); refine WT.nil ?_
                refine AW.cond rfl (fun hl => ?_) (fun hl => ?_)
                · have hl : pp.1 - s.a < s.b - pp.1 := by simp at hl; omega
                  refine AW.seq ?_; refine AW.reg ?_; (iterate 4 refine ze hT zr zr zr zr zr ?_); refine WT.nil ?_; refine AW.seq ?_; refine AW.reg ?_; (iterate 5 refine ze hT zr zr zr zr zr ?_)
                  refine WT.know (v' := .bool (decide (pp.1 - s.a ≥ (s.b - s.a) / 8))) 10 rfl (by congr 1; rw [decide_eq_decide]; omega) ?_
                  refine WT.call1F 0 Tryd.func138 zr zr zr zr zr zr zr (fun _ => rfl) (itPdqR_spec N _ hc6 hv6 s.a pp.1 t.i (by omega) hrange.1 (by omega) hm (by omega)) (fun F7 v B7 hF7 hv7 => ?_)
                  refine WT.nil ?_; refine AW.reg ?_; refine ze hT zr zr zr zr zr ?_; refine WT.add1 zr zr zr zr zr zr (by omega) ?_; refine ze hT zr zr zr zr zr ?_; refine WT.nil ?_
                  refine ⟨⟨pp.1 + 1, s.b, t.i, decide (pp.1 - s.a ≥ (s.b - s.a) / 8), pp.2.1, _, B7⟩, by dsimp only; omega, SubK.of_map rfl, OwnLe.refl _, hv7, by dsimp only; omega, hb1, by dsimp only; omega, by dsimp only; omega, ?_⟩
                  rw [← heq, eL hl]
                · have hl : ¬ pp.1 - s.a < s.b - pp.1 := by simp at hl; omega
                  refine AW.seq ?_; refine AW.reg ?_; (iterate 4 refine ze hT zr zr zr zr zr ?_); refine WT.nil ?_; refine AW.seq ?_; refine AW.reg ?_; (iterate 2 refine ze hT zr zr zr zr zr ?_); refine WT.add1 zr zr zr zr zr zr (by omega) ?_; (iterate 3 refine ze hT zr zr zr zr zr ?_)
                  refine WT.know (v' := .bool (decide (s.b - pp.1 ≥ (s.b - s.a) / 8))) 10 rfl (by congr 1; rw [decide_eq_decide]; omega) ?_
                  refine WT.call1F 0 Tryd.func138 zr zr zr zr zr zr zr (fun _ => rfl) (itPdqR_spec N _ hc6 hv6 (pp.1 + 1) s.b t.i (by omega) (by omega) hb1 hm (by omega)) (fun F7 v B7 hF7 hv7 => ?_)
                  refine WT.nil ?_; refine AW.reg ?_; (iterate 2 refine ze hT zr zr zr zr zr ?_); refine WT.nil ?_
                  refine ⟨⟨s.a, pp.1, t.i, decide (s.b - pp.1 ≥ (s.b - s.a) / 8), pp.2.1, _, B7⟩, by dsimp only; omega, SubK.of_map rfl, OwnLe.refl _, hv7, by dsimp only; omega, by dsimp only; omega, by dsimp only; omega, by dsimp only; omega, ?_⟩
                  rw [← heq, eR hl]

theorem itSort_spec (F : Frz) {lt : Item → Item → Bool} {g : Nat} {first capt : List Value} (hc : CmpOk tItem lt F g first capt) {a0 : Option Addr} {m c : Nat} {B : List (Nat × Blk)} {xs : List Item} (hv : Vec tItem F a0 m c B xs) (hm : m ≤ 1000000) :
    Abs.Spec CC 99 [.slice a0 m c, .func (.func g) ⟨first⟩ ⟨capt⟩] F [B] fun F' v o => ∃ B', o = [B'] ∧ Vec tItem F' a0 m c B' (Go.Sort.sort lt xs.toArray).toList := by
  have hl := hv.len
  have hb : Go.Sort.bitsLen m ≤ 20 := (Go.Sort.bitsLen_le_iff _ _).2 (by have : 2 ^ 20 = 1048576 := rfl
                                                                         omega)
  refine Abs.Spec.fn (n := 14) Tryd.func99 rfl rfl fun own => ?_
  refine AW.seq ?_; refine AW.reg ?_; (iterate 3 refine ze hT zr zr zr zr zr ?_); refine WT.nil ?_; refine AW.reg ?_; (iterate 3 refine ze hT zr zr zr zr zr ?_)
  refine WT.conv hT (k2 := .u64) zr zr zr zr zr zr zr zr (wrapU64 (by omega)) ?_
  refine WT.callV Tryd.func139 zr zr zr zr zr zr (blen_spec _ m (by omega)) (fun v hv' => ?_)
  subst hv'
  refine ze hT zr zr zr zr zr ?_
  refine WT.call1F 0 Tryd.func138 zr zr zr zr zr zr zr (fun _ => rfl) (itPdqR_spec (m + 1) _ hc (d := xs.toArray) hv 0 m (Go.Sort.bitsLen m) (by omega) (Nat.zero_le _) (Nat.le_refl _) hm (by omega)) (fun F7 v B7 hF7 hv7 => ?_)
  refine WT.nil ?_
  refine ⟨_, [_], rfl, (by repeat (first | exact List.Sublist.refl _ | refine List.Sublist.cons _ ?_)), _, rfl, ?_⟩
  rw [Go.Sort.sort, show xs.toArray.size = m from by simp [hl]]
  exact hv7

end Go.Proofs.D

set_option linter.unusedVariables false
set_option maxRecDepth 20000
set_option maxHeartbeats 0
open Go Go.Abs Go.Proofs Go.Proofs.D
namespace Go.Proofs.D

/-! ### what sorting gives -/
theorem sort_facts {α : Type} [Inhabited α] {lt : α → α → Bool} (h : Go.Sort.SWO lt) (xs : List α) : (Go.Sort.sort lt xs.toArray).toList.Perm xs ∧ (Go.Sort.sort lt xs.toArray).toList.Pairwise (fun x y => lt y x = false) := by
  obtain ⟨⟨h1, _, h2⟩, h3⟩ := Go.Sort.sort_sorts lt h xs.toArray
  have hsz : (Go.Sort.sort lt xs.toArray).size = xs.length := by rw [h1]; simp
  refine ⟨?_, ?_⟩
  · have e1 : ((Go.Sort.sort lt xs.toArray).extract 0 xs.toArray.size).toList = (Go.Sort.sort lt xs.toArray).toList := by
      rw [show xs.toArray.size = (Go.Sort.sort lt xs.toArray).size by rw [h1], Array.extract_size]
    have e2 : (xs.toArray.extract 0 xs.toArray.size).toList = xs := by rw [Array.extract_size]
    rw [e1, e2] at h2
    exact h2
  · rw [List.pairwise_iff_getElem]
    intro i j hi hj hij
    have hi' : i < (Go.Sort.sort lt xs.toArray).size := by simpa using hi
    have hj' : j < (Go.Sort.sort lt xs.toArray).size := by simpa using hj
    have := h3 i j (Nat.zero_le _) hij (by rw [← h1]; exact hj')
    rw [getElem!_pos _ i hi', getElem!_pos _ j hj'] at this
    simpa using this

theorem sort_same {α : Type} [Inhabited α] {lt : α → α → Bool} (h : Go.Sort.SWO lt) (ha : ∀ x y, lt x y = false → lt y x = false → x = y) {xs ys : List α} (hp : xs.Perm ys) : (Go.Sort.sort lt xs.toArray).toList = (Go.Sort.sort lt ys.toArray).toList := by
  obtain ⟨p1, s1⟩ := sort_facts h xs
  obtain ⟨p2, s2⟩ := sort_facts h ys
  exact List.Perm.eq_of_pairwise (le := fun x y => lt y x = false) (fun a b _ _ h1 h2 => ha _ _ h2 h1) s1 s2 ((p1.trans hp).trans p2.symm)

end Go.Proofs.D

set_option linter.unusedVariables false
set_option maxRecDepth 20000
set_option maxHeartbeats 0
open Go Go.Abs Go.Proofs Go.Proofs.D
namespace Go.Proofs.D

/-! ### items of package items -/
structure Lr where
  rule : Nat
  dot : Nat
deriving DecidableEq, Inhabited

def tLr : Ty Lr where
  size := 2
  rel := fun _ l x => l = [.int .i64 x.rule, .int .i64 x.dot]
  len := fun _ _ _ h => by rw [h]; rfl
  one := fun _ _ _ h => by rw [h]; rfl
  mono := fun _ _ _ _ _ h => h

theorem lrClone_spec (F : Frz) {a : Option Addr} {m c : Nat} {xs : List Lr} (hx : Arr tLr F a m c xs) (hm : m ≤ 1000000) :
    Abs.Spec CC 133 [.slice a m c] F [] fun F' v o => ∃ B', o = [B'] ∧ ∃ a' c', v = .slice a' m c' ∧ Vec tLr F' a' m c' B' xs := by
  refine Abs.Spec.fn (n := 8) Tryd.func133 rfl rfl fun own => ?_
  refine AW.seq ?_; refine AW.reg ?_; refine ze hT zr zr zr zr zr ?_; refine WT.nil ?_; (iterate 2 refine AW.seq ?_); refine AW.reg ?_; refine ze hT zr zr zr zr zr ?_
  refine WT.sliceNil hT zr zr zr zr zr zr zr zr ?_
  refine WT.nil ?_
  refine AW.cond rfl (fun h => ?_) (fun h => ?_)
  · obtain rfl : a = none := by simpa using h
    obtain ⟨rfl, rfl⟩ := hx.nil rfl
    obtain rfl : xs = [] := List.eq_nil_of_length_eq_zero hx.len.symm
    refine AW.seq ?_; refine AW.reg ?_; refine ze hT zr zr zr zr zr ?_; refine WT.nil ?_
    refine AW.le (own2 := [] :: own) (OwnLe.flat (List.Perm.refl _)) ?_
    exact AW.ret ⟨_, [[]], ⟨_, _, rfl, rfl, rfl⟩, (by repeat (first | exact List.Sublist.refl _ | refine List.Sublist.cons _ ?_)), _, rfl, _, _, rfl, (Bld.nil_ _ _).vec⟩
  · refine AW.skip ?_; refine AW.seq ?_; refine AW.reg ?_
    refine WT.buildT hT zr zr zr zr zr zr zr zr zr zr zr zr zr zr (fun i5 hi5 => ?_)
    refine ze hT zr zr zr zr zr ?_
    obtain ⟨ds, hds, hcs⟩ := news_arr hT hx (t := 73) rfl rfl 78
    refine WT.appendE hT zr zr zr zr zr zr zr zr zr zr zr zr (fun h0 s0 => hds _ h0 s0) hcs hx.len (by decide) (by first | omega | (dsimp only at *; omega)) (fun a' c' B' hB' _ => ?_)
    refine ze hT zr zr zr zr zr ?_; refine WT.nil ?_
    refine AW.le (OwnLe.cons _ (OwnLe.skip _ (OwnLe.refl _))) ?_
    exact AW.ret ⟨_, [_], ⟨_, _, rfl, rfl, rfl⟩, (by repeat (first | exact List.Sublist.refl _ | refine List.Sublist.cons _ ?_)), _, rfl, _, _, rfl, hB'⟩


def ltLr (x y : Lr) : Bool := decide (x.rule < y.rule ∨ (x.rule = y.rule ∧ x.dot < y.dot))
theorem ltLr_iff {x y : Lr} : ltLr x y = true ↔ (x.rule < y.rule ∨ (x.rule = y.rule ∧ x.dot < y.dot)) := by unfold ltLr; exact decide_eq_true_iff
theorem ltLr_not {x y : Lr} : ltLr x y = false ↔ ¬ (x.rule < y.rule ∨ (x.rule = y.rule ∧ x.dot < y.dot)) := by unfold ltLr; exact decide_eq_false_iff_not
theorem ltLr_swo : Go.Sort.SWO ltLr where
  irrefl := fun x => by rw [ltLr_not]; omega
  trans := fun x y z h1 h2 => by rw [ltLr_iff] at *; omega
  ntrans := fun x y z h1 h2 => by rw [ltLr_not] at *; omega
theorem ltLr_anti (x y : Lr) (h1 : ltLr x y = false) (h2 : ltLr y x = false) : x = y := by
  rw [ltLr_not] at *
  cases x; cases y
  simp only at h1 h2
  simp only [Lr.mk.injEq]
  omega

theorem cmpLr_lt (x y : Lr) : orInt [cmpInt x.rule y.rule, cmpInt x.dot y.dot] < 0 ↔ ltLr x y = true := by
  rw [ltLr_iff]
  simp only [orInt]
  unfold cmpInt
  repeat' split
  all_goals omega

theorem lrOrder_spec (F : Frz) (x y : Lr) : Abs.Spec CC 135 [.agg ⟨[.int .i64 x.rule, .int .i64 x.dot]⟩, .agg ⟨[.int .i64 y.rule, .int .i64 y.dot]⟩] F [] fun _ v o => o = [] ∧ v = .int .i64 (orInt [cmpInt x.rule y.rule, cmpInt x.dot y.dot]) := by
  refine Abs.Spec.fn (n := 17) Tryd.func135 rfl rfl fun own => ?_
  refine AW.seq (AW.reg ?_)
  refine WT.boxT zr zr zr zr zr zr (fun i2 hi2 => ?_)
  refine WT.boxT zr zr zr zr zr zr (fun i3 hi3 => ?_)
  refine ze hT zr zr zr zr zr ?_; refine WT.nil ?_; refine AW.seq ?_
  refine AW.draw (ps := [(6, 4), (8, 4)]) rfl rfl ?_
  refine ze hT zr zr zr zr zr ?_; refine zl hT 1 zr zr zr zr zr zr me zr ?_; refine ze hT zr zr zr zr zr ?_; refine zl hT 0 zr zr zr zr zr zr me zr ?_
  refine WT.callV Tryd.func102 zr zr zr zr zr zr (compare_spec _ _ _) (fun v hv => ?_)
  subst hv
  refine ze hT zr zr zr zr zr ?_; refine zl hT 1 zr zr zr zr zr zr me zr ?_; refine ze hT zr zr zr zr zr ?_; refine zl hT 0 zr zr zr zr zr zr me zr ?_
  refine WT.callV Tryd.func102 zr zr zr zr zr zr (compare_spec _ _ _) (fun v hv => ?_)
  subst hv
  skip
  refine WT.buildT hT zr zr zr zr zr zr zr zr zr zr zr zr zr zr (fun i9 hi9 => ?_)
  refine WT.callLend 0 Tryd.func101 zr zr zr zr zr zr zr (fun G hG hBG => or_spec G (l := [cmpInt x.rule y.rule, cmpInt x.dot y.dot]) (Bld.frozen (F := F) (B := [(i9, .cells false [.int .i64 (cmpInt x.rule y.rule), .int .i64 (cmpInt x.dot y.dot)])]) ⟨rfl, .inr ⟨i9, _, rfl, rfl, rfl, Cells.cons (l := [_]) rfl (Cells.single (x := cmpInt x.dot y.dot) rfl), by decide⟩⟩ hG hBG) (by decide)) (fun v hv => ?_)
  subst hv
  refine ze hT zr zr zr zr zr ?_; refine WT.nil ?_
  refine ⟨(by repeat (first | exact trivial | refine recs_pair rfl rfl (by first | exact keep0 | exact keep1 (keeps_frz (by assumption)) | exact kp 0 0 me me | exact kp 1 1 me me | exact kp 2 2 me me | exact kp 3 3 me me | exact kp 4 4 me me | exact kp 5 5 me me | exact kp 6 6 me me | exact kp 0 1 me me | exact kp 1 2 me me | exact kp 2 3 me me | exact kp 3 4 me me | exact kp 4 5 me me | exact kp 5 6 me me | exact kp 6 7 me me) ?_)), ?_⟩
  skip
  exact AW.ret ⟨_, [], ⟨_, _, rfl, rfl, rfl⟩, (by repeat (first | exact List.Sublist.refl _ | refine List.Sublist.cons _ ?_)), rfl, rfl⟩
theorem lrOrder_cmp (F : Frz) : CmpOk tLr ltLr F 135 [] [] :=
  ⟨⟨_, Tryd.func135, rfl⟩, fun G _ lx ly x y hx hy => by
    obtain rfl : lx = _ := hx
    obtain rfl : ly = _ := hy
    exact Spec.mono (lrOrder_spec G x y) (fun F' v o _ h => ⟨h.1, _, h.2, cmpLr_lt x y⟩)⟩

/-! ### equal, index, contains -/
theorem lrEqual_spec (F : Frz) {a b : Option Addr} {m n c d : Nat} {xs ys : List Lr} (hx : Arr tLr F a m c xs) (hy : Arr tLr F b n d ys) (hm : m ≤ 1000000) (hn : n ≤ 1000000) :
    Abs.Spec CC 38 [.slice a m c, .slice b n d] F [] fun _ v o => o = [] ∧ ∃ r : Bool, v = .bool r ∧ (xs = ys → r = true) := by
  refine Abs.Spec.fn (n := 26) Tryd.func38 rfl rfl fun own => ?_
  have hxlen := hx.len
  have hylen := hy.len
  refine AW.seq ?_; refine AW.reg ?_; refine ze hT zr zr zr zr zr ?_; refine WT.nil ?_; (iterate 2 refine AW.seq ?_); refine AW.reg ?_; (iterate 5 refine ze hT zr zr zr zr zr ?_); refine WT.nil ?_
  refine AW.cond rfl (fun hc => ?_) (fun hc => ?_)
  · refine AW.seq ?_; refine AW.reg ?_; refine ze hT zr zr zr zr zr ?_; refine WT.nil ?_
    refine AW.ret ⟨_, [], ⟨_, _, rfl, rfl, rfl⟩, (by repeat (first | exact List.Sublist.refl _ | refine List.Sublist.cons _ ?_)), rfl, false, rfl, fun he => ?_⟩
    subst he
    simp at hc; omega
  have hc : m = n := by simp at hc; omega
  subst hc
  refine AW.skip ?_; (iterate 2 refine AW.seq ?_); refine AW.reg ?_; (iterate 3 refine ze hT zr zr zr zr zr ?_); refine WT.nil ?_
  refine AW.range (S := Unit) (fun _ => []) (fun _ => _) (fun j _ G => True) m () zr zr zr zr zr zr zr zr zr (by omega) rfl rfl (fun _ => rfl) (fun _ => rfl) (SubK.of_map rfl) (OwnLe.refl _) trivial ?_ ?_
  · intro j _ F1 hF1 hj _
    have hx1 := hx.mono hF1
    have hy1 := hy.mono hF1
    refine AW.seq ?_; refine AW.reg ?_; (iterate 2 refine ze hT zr zr zr zr zr ?_); refine WT.nil ?_; refine AW.seq ?_; refine AW.draw (ps := []) zr zr ?_; (iterate 2 refine ze hT zr zr zr zr zr ?_)
    refine WT.idxL hT hx1 zr zr zr zr zr zr zr zr zr (by omega) (fun x hxj b1 off ro cs lx hb hp1 hrel => ?_)
    obtain rfl : lx = _ := hrel
    refine zi (fo := 0) hT (by assumption) (by assumption) zr zr zr zr zr zr ?_; (iterate 2 refine ze hT zr zr zr zr zr ?_)
    refine WT.idxL hT hy1 zr zr zr zr zr zr zr zr zr (by omega) (fun y hyj b2 off2 ro2 cs2 ly hb2 hp2 hrel2 => ?_)
    obtain rfl : ly = _ := hrel2
    refine zi (fo := 0) hT (by assumption) (by assumption) zr zr zr zr zr zr ?_; refine zp hT zr zr zr zr zr zr zr ?_; refine WT.nil ?_; refine And.intro trivial ?_
    refine AW.cond rfl (fun hc => ?_) (fun hc => ?_)
    · refine AW.seq ?_; refine AW.reg ?_; refine ze hT zr zr zr zr zr ?_; refine WT.nil ?_
      refine AW.ret ⟨_, [], ⟨_, _, rfl, rfl, rfl⟩, (by repeat (first | exact List.Sublist.refl _ | refine List.Sublist.cons _ ?_)), rfl, false, rfl, fun he => ?_⟩
      exfalso
      subst he
      obtain rfl : x = y := by rw [hxj] at hyj; exact Option.some.inj hyj
      simp at hc
    · refine AW.skip ?_
      exact ⟨(), SubK.of_map rfl, (by repeat (first | exact OwnLe.refl _ | refine OwnLe.skip _ ?_)), trivial⟩
  · intro _ F1 hF1 _
    refine AW.seq ?_; refine AW.reg ?_; refine ze hT zr zr zr zr zr ?_; refine WT.nil ?_
    exact AW.ret ⟨_, [], ⟨_, _, rfl, rfl, rfl⟩, (by repeat (first | exact List.Sublist.refl _ | refine List.Sublist.cons _ ?_)), rfl, true, rfl, fun _ => rfl⟩

theorem lrIndex_spec (F : Frz) {a : Option Addr} {m c : Nat} {xs : List Lr} (hx : Arr tLr F a m c xs) (hm : m ≤ 1000000) (x : Lr) :
    Abs.Spec CC 97 [.slice a m c, .agg ⟨[.int .i64 x.rule, .int .i64 x.dot]⟩] F [] fun _ v o => o = [] ∧ ∃ i : Int, v = .int .i64 i ∧ (0 ≤ i ↔ x ∈ xs) := by
  refine Abs.Spec.fn (n := 19) Tryd.func97 rfl rfl fun own => ?_
  have hxlen := hx.len
  refine AW.seq (AW.reg ?_)
  refine WT.boxT zr zr zr zr zr zr (fun i3 hi3 => ?_)
  refine ze hT zr zr zr zr zr ?_; refine WT.nil ?_; (iterate 2 refine AW.seq ?_); refine AW.reg ?_; (iterate 3 refine ze hT zr zr zr zr zr ?_); refine WT.nil ?_
  refine AW.range (S := Unit) (fun _ => []) (fun _ => _) (fun j _ G => x ∉ xs.take j) m () zr zr zr zr zr zr zr zr zr (by omega) rfl rfl (fun _ => rfl) (fun _ => rfl) (SubK.of_map rfl) (OwnLe.refl _) (by simp) ?_ ?_
  · intro j _ F1 hF1 hj hP
    have hx1 := hx.mono hF1
    refine AW.seq ?_; refine AW.reg ?_; (iterate 2 refine ze hT zr zr zr zr zr ?_); refine WT.nil ?_; refine AW.seq ?_; refine AW.draw (ps := []) zr zr ?_; refine zl hT 0 zr zr zr zr zr zr me zr ?_; (iterate 2 refine ze hT zr zr zr zr zr ?_)
    refine WT.idxL hT hx1 zr zr zr zr zr zr zr zr zr (by omega) (fun y hyj b1 off ro cs ly hb hp1 hrel => ?_)
    obtain rfl : ly = _ := hrel
    refine zi (fo := 0) hT (by assumption) (by assumption) zr zr zr zr zr zr ?_; refine zq hT zr zr zr zr zr zr zr ?_; refine WT.nil ?_; refine And.intro trivial ?_
    refine AW.cond rfl (fun hc => ?_) (fun hc => ?_)
    · refine AW.seq ?_; refine AW.reg ?_; (iterate 2 refine ze hT zr zr zr zr zr ?_); refine WT.nil ?_
      have e : x = y := by
        simp at hc
        cases x; cases y
        simp only [Lr.mk.injEq] at *
        omega
      subst e
      refine AW.ret ⟨_, [], ⟨_, _, rfl, rfl, rfl⟩, (by repeat (first | exact List.Sublist.refl _ | refine List.Sublist.cons _ ?_)), rfl, _, rfl, ?_⟩
      exact ⟨fun _ => List.mem_of_getElem? hyj, fun _ => by omega⟩
    · refine AW.skip ?_
      refine ⟨(), SubK.of_map rfl, (by repeat (first | exact OwnLe.refl _ | refine OwnLe.skip _ ?_)), ?_⟩
      show x ∉ xs.take (j + 1)
      rw [List.take_add_one, hyj]
      intro hm
      rcases List.mem_append.1 hm with h | h
      · exact hP h
      · have e : x = y := by simpa using h
        subst e
        simp at hc
  · intro _ F1 hF1 hP
    rw [List.take_of_length_le (by omega)] at hP
    refine AW.seq ?_; refine AW.reg ?_; refine ze hT zr zr zr zr zr ?_; refine WT.nil ?_
    exact AW.ret ⟨_, [], ⟨_, _, rfl, rfl, rfl⟩, (by repeat (first | exact List.Sublist.refl _ | refine List.Sublist.cons _ ?_)), rfl, _, rfl, by simp [hP]⟩

theorem lrContains_spec (F : Frz) {a : Option Addr} {m c : Nat} {xs : List Lr} (hx : Arr tLr F a m c xs) (hm : m ≤ 1000000) (x : Lr) :
    Abs.Spec CC 43 [.slice a m c, .agg ⟨[.int .i64 x.rule, .int .i64 x.dot]⟩] F [] fun _ v o => o = [] ∧ v = .bool (decide (x ∈ xs)) := by
  refine Abs.Spec.fn (n := 9) Tryd.func43 rfl rfl fun own => ?_
  refine AW.seq (AW.reg ?_)
  refine WT.boxT zr zr zr zr zr zr (fun i3 hi3 => ?_)
  refine ze hT zr zr zr zr zr ?_; refine WT.nil ?_; refine AW.seq ?_; refine AW.reg ?_; refine ze hT zr zr zr zr zr ?_; refine zl hT 0 zr zr zr zr zr zr me zr ?_
  refine WT.callV Tryd.func97 zr zr zr zr zr zr (lrIndex_spec _ hx hm x) (fun v hv => ?_)
  obtain ⟨i, rfl, hi⟩ := hv
  (iterate 2 refine ze hT zr zr zr zr zr ?_); refine WT.nil ?_
  refine AW.ret ⟨_, [], ⟨_, _, rfl, rfl, rfl⟩, (by repeat (first | exact List.Sublist.refl _ | refine List.Sublist.cons _ ?_)), rfl, ?_⟩
  rw [show decide (x ∈ xs) = decide (0 ≤ i) from by simp [hi]]
  rfl

end Go.Proofs.D

set_option linter.unusedVariables false
set_option maxRecDepth 20000
set_option maxHeartbeats 0
open Go Go.Abs Go.Proofs Go.Proofs.D
namespace Go.Proofs.D

theorem lrIns_spec (F : Frz) {lt : Lr → Lr → Bool} {g : Nat} {first capt : List Value} (hc : CmpOk tLr lt F g first capt) {a0 : Option Addr} {m c : Nat} {B : List (Nat × Blk)} {d : Array Lr} (hv : Vec tLr F a0 m c B d.toList) (a b : Nat) (ha : a ≤ 1000000) (hb : b ≤ m) (hm : m ≤ 1000000) :
    Abs.Spec CC 168 [.slice a0 m c, .int .i64 a, .int .i64 b, .func (.func g) ⟨first⟩ ⟨capt⟩] F [B] fun F' v o => ∃ B', o = [B'] ∧ Vec tLr F' a0 m c B' (Go.Sort.insertionSort lt d a b).toList := by
  obtain ⟨⟨fn, hg, hgb⟩, hcmp⟩ := hc
  refine Abs.Spec.fn (n := 53) Tryd.func168 rfl rfl fun own => ?_
  refine AW.seq ?_; refine AW.reg ?_; refine ze hT zr zr zr zr zr ?_; refine WT.add1 zr zr zr zr zr zr (by omega) ?_; refine ze hT zr zr zr zr zr ?_; refine WT.nil ?_
  refine AW.block ?_
  refine AW.loopR (S := VS Lr) (fun s => [(8, .int .i64 (s.i : Nat))]) (fun s => s.B :: own) (fun s G => Vec tLr G a0 m c s.B s.d.toList ∧ Go.Sort.insOuter lt a b s.i s.d = Go.Sort.insertionSort lt d a b) (fun s => b - s.i) ⟨a + 1, d, B⟩
    (SubK.of_map rfl) (OwnLe.refl _) ⟨hv, rfl⟩ ?_
  intro s F1 hF1 hP
  obtain ⟨hv1, heq1⟩ := hP
  (iterate 2 refine AW.seq ?_); refine AW.reg ?_; (iterate 3 refine ze hT zr zr zr zr zr ?_); refine WT.nil ?_
  refine AW.cond rfl (fun h => ?_) (fun h => ?_)
  · have h : s.i < b := by simpa using h
    refine AW.skip ?_; refine AW.seq ?_
    refine AW.block ?_
    refine AW.seq ?_; refine AW.reg ?_; (iterate 2 refine ze hT zr zr zr zr zr ?_); refine WT.nil ?_
    refine AW.block ?_
    refine AW.loopR (S := VS Lr) (fun u => [(9, .int .i64 (u.i : Nat))]) (fun u => u.B :: own) (fun u G => Vec tLr G a0 m c u.B u.d.toList ∧ u.i ≤ s.i ∧ Go.Sort.insInner lt a u.i u.d = Go.Sort.insInner lt a s.i s.d) (fun u => u.i) ⟨s.i, s.d, s.B⟩
      (SubK.of_map rfl) (OwnLe.refl _) ⟨hv1, Nat.le_refl _, rfl⟩ ?_
    intro u F2 hF2 hP2
    obtain ⟨hv2, hui, heq2⟩ := hP2
    have hsz : m = u.d.size := hv2.len
    have stop : (a < u.i → lt u.d[u.i]! u.d[u.i - 1]! = false) → Go.Sort.insOuter lt a b (s.i + 1) u.d = Go.Sort.insertionSort lt d a b := by
      intro h1
      rw [← heq1]
      have e : Go.Sort.insInner lt a s.i s.d = u.d := by
        rw [← heq2]
        cases hi : u.i with
        | zero => rfl
        | succ j =>
          rw [hi] at h1
          simp only [Nat.add_sub_cancel] at h1
          rw [Go.Sort.insInner]
          by_cases h2 : a < j + 1
          · rw [h1 h2]; simp
          · simp [h2]
      conv => rhs; rw [Go.Sort.insOuter]
      rw [if_pos h, e]
    (iterate 2 refine AW.seq ?_); refine AW.draw (ps := []) zr zr ?_; (iterate 4 refine ze hT zr zr zr zr zr ?_)
    refine WT.split 21 rfl (fun hja => ?_) (fun hja => ?_)
    · have hja : a < u.i := by simp at hja; omega
      (iterate 3 refine ze hT zr zr zr zr zr ?_)
      refine WT.vidx hT hv2 zr zr zr zr zr zr zr zr zr (by omega) (fun bl1 hbl1 => ?_)
      refine WT.vldS hT 0 hv2 hbl1 (arr_at (by omega)) zr zr zr zr zr zr zr zr zr (fun l1 hl1 => ?_)
      (iterate 2 refine ze hT zr zr zr zr zr ?_); refine WT.sub1 zr zr zr zr zr zr (by omega) ?_
      refine WT.vidx hT hv2 zr zr zr zr zr zr zr zr zr (by omega) (fun bl2 hbl2 => ?_)
      refine WT.vldS hT 0 hv2 hbl2 (arr_at (by omega)) zr zr zr zr zr zr zr zr zr (fun l2 hl2 => ?_)
      refine WT.callC hg hgb zr zr zr zr zr zr zr (hcmp F2 (hF1.trans hF2) l1 l2 _ _ hl1 hl2) (fun v hvz => ?_)
      obtain ⟨z, rfl, hz⟩ := hvz
      (iterate 2 refine ze hT zr zr zr zr zr ?_); refine WT.nil ?_; refine And.intro trivial ?_
      refine AW.cond rfl (fun hc => ?_) (fun hc => ?_)
      · have hlt : lt u.d[u.i]! u.d[u.i - 1]! = true := hz.1 (by simpa using hc)
        refine AW.skip ?_; refine AW.seq ?_
        refine AW.block ?_
        refine AW.draw (ps := [(4, 15)]) rfl rfl ?_
        (iterate 4 refine ze hT zr zr zr zr zr ?_); refine WT.sub1 zr zr zr zr zr zr (by omega) ?_; (iterate 2 refine ze hT zr zr zr zr zr ?_); refine WT.sub1 zr zr zr zr zr zr (by omega) ?_
        refine WT.vidx hT hv2 zr zr zr zr zr zr zr zr zr (by omega) (fun bl3 hbl3 => ?_)
        refine WT.vldS hT 0 hv2 hbl3 (arr_at (by omega)) zr zr zr zr zr zr zr zr zr (fun l3 hl3 => ?_)
        (iterate 2 refine ze hT zr zr zr zr zr ?_)
        refine WT.vidx hT hv2 zr zr zr zr zr zr zr zr zr (by omega) (fun bl4 hbl4 => ?_)
        refine WT.vldS hT 0 hv2 hbl4 (arr_at (by omega)) zr zr zr zr zr zr zr zr zr (fun l4 hl4 => ?_)
        refine WT.vidx hT hv2 zr zr zr zr zr zr zr zr zr (by omega) (fun bl5 hbl5 => ?_)
        refine WT.vst (y := u.d[u.i - 1]!) hT 0 hv2 hbl5 (List.getElem?_eq_getElem (by simp; omega)) zr zr zr zr zr hl3 rfl (fun _ => rfl) rfl (fun Bl5 hBl5 => ?_)
        refine WT.vidx hT hBl5 zr zr zr zr zr zr zr zr zr (by omega) (fun bl6 hbl6 => ?_)
        refine WT.vst (y := u.d[u.i]!) hT 0 hBl5 hbl6 (List.getElem?_eq_getElem (by simp; omega)) zr zr zr zr zr hl4 rfl (fun _ => rfl) rfl (fun Bl6 hBl6 => ?_)
        rw [← swp_list] at hBl6
        refine WT.nil ?_
        refine ⟨(by repeat (first | exact trivial | refine recs_pair rfl rfl (by first | exact keep0 | exact keep1 (keeps_frz (by assumption)) | exact kp 0 0 me me | exact kp 1 1 me me | exact kp 2 2 me me | exact kp 3 3 me me | exact kp 4 4 me me | exact kp 5 5 me me | exact kp 6 6 me me | exact kp 0 1 me me | exact kp 1 2 me me | exact kp 2 3 me me | exact kp 3 4 me me | exact kp 4 5 me me | exact kp 5 6 me me | exact kp 6 7 me me) ?_)), ?_⟩
        refine AW.reg ?_; refine ze hT zr zr zr zr zr ?_; refine WT.sub1 zr zr zr zr zr zr (by omega) ?_; refine ze hT zr zr zr zr zr ?_; refine WT.nil ?_
        refine ⟨⟨u.i - 1, Go.Sort.swp u.d u.i (u.i - 1), Bl6⟩, by dsimp only; omega, SubK.of_map rfl, OwnLe.refl _, hBl6, by dsimp only; omega, ?_⟩
        rw [← heq2]
        show Go.Sort.insInner lt a (u.i - 1) (Go.Sort.swp u.d u.i (u.i - 1)) = _
        cases hi : u.i with
        | zero => omega
        | succ j =>
          rw [hi] at hlt
          simp only [Nat.add_sub_cancel] at hlt ⊢
          conv => rhs; rw [Go.Sort.insInner]
          rw [if_pos (by simp [hlt]; omega)]
      · have hlt : lt u.d[u.i]! u.d[u.i - 1]! = false := by
          cases hh : lt u.d[u.i]! u.d[u.i - 1]! with
          | false => rfl
          | true => exact absurd (hz.2 hh) (by simpa using hc)
        refine AW.exit ?_
        refine AW.reg ?_; refine ze hT zr zr zr zr zr ?_; refine WT.add1 zr zr zr zr zr zr (by omega) ?_; refine ze hT zr zr zr zr zr ?_; refine WT.nil ?_
        exact ⟨⟨s.i + 1, u.d, u.B⟩, by dsimp only; omega, SubK.of_map rfl, OwnLe.refl _, hv2, stop (fun _ => hlt)⟩
    · have hja : ¬ a < u.i := by simp at hja; omega
      (iterate 12 refine zx zr zr zr zr ?_); refine ze hT zr zr zr zr zr ?_; refine WT.nil ?_; refine And.intro trivial ?_
      refine AW.cond rfl (fun h => (by cases h)) (fun _ => ?_)
      refine AW.exit ?_
      refine AW.reg ?_; refine ze hT zr zr zr zr zr ?_; refine WT.add1 zr zr zr zr zr zr (by omega) ?_; refine ze hT zr zr zr zr zr ?_; refine WT.nil ?_
      exact ⟨⟨s.i + 1, u.d, u.B⟩, by dsimp only; omega, SubK.of_map rfl, OwnLe.refl _, hv2, stop (fun h => absurd h hja)⟩
  · have h : ¬ s.i < b := by simpa using h
    refine AW.exit ?_
    skip
    refine ⟨_, [_], rfl, (by repeat (first | exact List.Sublist.refl _ | refine List.Sublist.cons _ ?_)), _, rfl, ?_⟩
    rw [← heq1, Go.Sort.insOuter, if_neg h]
    exact hv1

theorem lrSift_spec (F : Frz) {lt : Lr → Lr → Bool} {g : Nat} {first capt : List Value} (hc : CmpOk tLr lt F g first capt) {a0 : Option Addr} {m c : Nat} {B : List (Nat × Blk)} {d : Array Lr} (hv : Vec tLr F a0 m c B d.toList) (lo hi fst : Nat) (hlo : lo ≤ 1000000) (hb : fst + hi ≤ m) (hm : m ≤ 1000000) :
    Abs.Spec CC 188 [.slice a0 m c, .int .i64 lo, .int .i64 hi, .int .i64 fst, .func (.func g) ⟨first⟩ ⟨capt⟩] F [B] fun F' v o => ∃ B', o = [B'] ∧ Vec tLr F' a0 m c B' (Go.Sort.siftDown lt hi fst lo d).toList := by
  obtain ⟨⟨fn, hg, hgb⟩, hcmp⟩ := hc
  refine Abs.Spec.fn (n := 82) Tryd.func188 rfl rfl fun own => ?_
  refine AW.seq ?_; refine AW.reg ?_; (iterate 2 refine ze hT zr zr zr zr zr ?_); refine WT.nil ?_
  refine AW.block ?_
  refine AW.loopR (S := VS Lr) (fun s => [(10, .int .i64 (s.i : Nat))]) (fun s => s.B :: own) (fun s G => Vec tLr G a0 m c s.B s.d.toList ∧ s.i ≤ 1000000 ∧ Go.Sort.siftDown lt hi fst s.i s.d = Go.Sort.siftDown lt hi fst lo d) (fun s => hi - s.i) ⟨lo, d, B⟩
    (SubK.of_map rfl) (OwnLe.refl _) ⟨hv, hlo, rfl⟩ ?_
  intro u F1 hF1 hP
  obtain ⟨hv2, hui, heq⟩ := hP
  have hsz : m = u.d.size := hv2.len
  skip
  refine AW.block ?_
  refine AW.seq ?_; refine AW.reg ?_; refine ze hT zr zr zr zr zr ?_; refine WT.mul2 zr zr zr zr zr zr (by omega) ?_; refine WT.add1 zr zr zr zr zr zr (by omega) ?_; refine ze hT zr zr zr zr zr ?_; refine WT.nil ?_; (iterate 2 refine AW.seq ?_); refine AW.reg ?_; (iterate 3 refine ze hT zr zr zr zr zr ?_); refine WT.nil ?_
  refine AW.cond rfl (fun h => ?_) (fun h => ?_)
  · have h : hi ≤ 2 * u.i + 1 := by simp at h; omega
    refine AW.exit ?_
    skip
    refine ⟨_, [_], rfl, (by repeat (first | exact List.Sublist.refl _ | refine List.Sublist.cons _ ?_)), _, rfl, ?_⟩
    rw [← heq, Go.Sort.siftDown, dif_pos h]
    exact hv2
  · have h : 2 * u.i + 1 < hi := by simp at h; omega
    refine AW.skip ?_
    refine AW.jn (S := Nat) (fun ch => [(11, .int .i64 (ch : Nat))]) (fun _ => u.B :: own) (fun ch _ => u.i < ch ∧ ch < hi ∧ Go.Sort.siftDown lt hi fst u.i u.d = if (!lt u.d[fst + u.i]! u.d[fst + ch]!) = true then u.d else Go.Sort.siftDown lt hi fst ch (Go.Sort.swp u.d (fst + u.i) (fst + ch))) ?_ (fun ch F3 hF3 hch => ?_)
    · have e1 : (decide (2 * u.i + 1 + 1 < hi) && lt u.d[fst + (2 * u.i + 1)]! u.d[fst + (2 * u.i + 1) + 1]!) = false → Go.Sort.siftDown lt hi fst u.i u.d = if (!lt u.d[fst + u.i]! u.d[fst + (2 * u.i + 1)]!) = true then u.d else Go.Sort.siftDown lt hi fst (2 * u.i + 1) (Go.Sort.swp u.d (fst + u.i) (fst + (2 * u.i + 1))) := by
        intro h1
        conv => lhs; rw [Go.Sort.siftDown]
        rw [dif_neg (by omega)]
        simp only [Bool.and_eq_true, decide_eq_true_eq, Bool.and_eq_false_imp] at h1 ⊢
        rw [if_neg (fun h2 => by have := h1 h2.1; rw [h2.2] at this; cases this)]
      refine AW.seq ?_; refine AW.draw (ps := []) zr zr ?_; refine ze hT zr zr zr zr zr ?_; refine WT.add1 zr zr zr zr zr zr (by omega) ?_; (iterate 3 refine ze hT zr zr zr zr zr ?_)
      refine WT.split 23 rfl (fun h2 => ?_) (fun h2 => ?_)
      · have h2 : 2 * u.i + 1 + 1 < hi := by simp at h2; omega
        (iterate 4 refine ze hT zr zr zr zr zr ?_); refine WT.addN zr zr zr zr zr zr (by omega) ?_
        refine WT.vidx hT hv2 zr zr zr zr zr zr zr zr zr (by omega) (fun bl1 hbl1 => ?_)
        refine WT.vldS hT 0 hv2 hbl1 (arr_at (by omega)) zr zr zr zr zr zr zr zr zr (fun l1 hl1 => ?_)
        (iterate 3 refine ze hT zr zr zr zr zr ?_); refine WT.addN zr zr zr zr zr zr (by omega) ?_; refine WT.add1 zr zr zr zr zr zr (by omega) ?_
        refine WT.vidx hT hv2 zr zr zr zr zr zr zr zr zr (by omega) (fun bl2 hbl2 => ?_)
        refine WT.vldS hT 0 hv2 hbl2 (arr_at (by omega)) zr zr zr zr zr zr zr zr zr (fun l2 hl2 => ?_)
        refine WT.callC hg hgb zr zr zr zr zr zr zr (hcmp F1 hF1 l1 l2 _ _ hl1 hl2) (fun v hvz => ?_)
        obtain ⟨z, rfl, hz⟩ := hvz
        (iterate 2 refine ze hT zr zr zr zr zr ?_); refine WT.nil ?_; refine And.intro trivial ?_
        refine AW.cond rfl (fun hc => ?_) (fun hc => ?_)
        · have hlt := hz.1 (by simpa using hc)
          refine AW.reg ?_; refine ze hT zr zr zr zr zr ?_; refine WT.add1 zr zr zr zr zr zr (by omega) ?_; refine ze hT zr zr zr zr zr ?_; refine WT.nil ?_
          refine ⟨2 * u.i + 1 + 1, SubK.of_map rfl, OwnLe.refl _, by omega, h2, ?_⟩
          conv => lhs; rw [Go.Sort.siftDown]
          rw [dif_neg (by omega), if_pos (by simp [h2, hlt])]
          rw [dif_pos (show 2 * u.i + 2 < hi by omega)]
        · have hlt : lt u.d[fst + (2 * u.i + 1)]! u.d[fst + (2 * u.i + 1) + 1]! = false := by
            cases hh : lt u.d[fst + (2 * u.i + 1)]! u.d[fst + (2 * u.i + 1) + 1]! with
            | false => rfl
            | true => exact absurd (hz.2 hh) (by simpa using hc)
          refine AW.skip ?_
          exact ⟨2 * u.i + 1, SubK.of_map rfl, OwnLe.refl _, by omega, h, e1 (by rw [hlt]; simp)⟩
      · have h2 : ¬ 2 * u.i + 1 + 1 < hi := by simp at h2; omega
        (iterate 16 refine zx zr zr zr zr ?_); refine ze hT zr zr zr zr zr ?_; refine WT.nil ?_; refine And.intro trivial ?_
        refine AW.cond rfl (fun h => (by cases h)) (fun _ => ?_)
        refine AW.skip ?_
        exact ⟨2 * u.i + 1, SubK.of_map rfl, OwnLe.refl _, by omega, h, e1 (by simp [h2])⟩
    · obtain ⟨hc1, hc2, hceq⟩ := hch
      have hv3 := hv2.mono hF3
      (iterate 2 refine AW.seq ?_); refine AW.draw (ps := []) zr zr ?_; (iterate 4 refine ze hT zr zr zr zr zr ?_); refine WT.addN zr zr zr zr zr zr (by omega) ?_
      refine WT.vidx hT hv3 zr zr zr zr zr zr zr zr zr (by omega) (fun bl1 hbl1 => ?_)
      refine WT.vldS hT 0 hv3 hbl1 (arr_at (by omega)) zr zr zr zr zr zr zr zr zr (fun l1 hl1 => ?_)
      (iterate 3 refine ze hT zr zr zr zr zr ?_); refine WT.addN zr zr zr zr zr zr (by omega) ?_
      refine WT.vidx hT hv3 zr zr zr zr zr zr zr zr zr (by omega) (fun bl2 hbl2 => ?_)
      refine WT.vldS hT 0 hv3 hbl2 (arr_at (by omega)) zr zr zr zr zr zr zr zr zr (fun l2 hl2 => ?_)
      refine WT.callC hg hgb zr zr zr zr zr zr zr (hcmp F3 (hF1.trans hF3) l1 l2 _ _ hl1 hl2) (fun v hvz => ?_)
      obtain ⟨z, rfl, hz⟩ := hvz
      (iterate 2 refine ze hT zr zr zr zr zr ?_); refine WT.nil ?_; refine And.intro trivial ?_
      refine AW.cond rfl (fun hc => ?_) (fun hc => ?_)
      · have hlt : lt u.d[fst + u.i]! u.d[fst + ch]! = false := by
          cases hh : lt u.d[fst + u.i]! u.d[fst + ch]! with
          | false => rfl
          | true => exact absurd (hz.2 hh) (by simpa using hc)
        skip
        refine AW.ret ⟨_, [_], rfl, (by repeat (first | exact List.Sublist.refl _ | refine List.Sublist.cons _ ?_)), _, rfl, ?_⟩
        rw [← heq, hceq, hlt, if_pos (by decide)]
        exact hv3
      · have hlt := hz.1 (by simpa using hc)
        refine AW.skip ?_; refine AW.seq ?_
        refine AW.draw (ps := [(7, 21)]) rfl rfl ?_
        (iterate 3 refine ze hT zr zr zr zr zr ?_); refine WT.addN zr zr zr zr zr zr (by omega) ?_; (iterate 3 refine ze hT zr zr zr zr zr ?_); refine WT.addN zr zr zr zr zr zr (by omega) ?_; (iterate 3 refine ze hT zr zr zr zr zr ?_); refine WT.addN zr zr zr zr zr zr (by omega) ?_
        refine WT.vidx hT hv3 zr zr zr zr zr zr zr zr zr (by omega) (fun bl3 hbl3 => ?_)
        refine WT.vldS hT 0 hv3 hbl3 (arr_at (by omega)) zr zr zr zr zr zr zr zr zr (fun l3 hl3 => ?_)
        (iterate 3 refine ze hT zr zr zr zr zr ?_); refine WT.addN zr zr zr zr zr zr (by omega) ?_
        refine WT.vidx hT hv3 zr zr zr zr zr zr zr zr zr (by omega) (fun bl4 hbl4 => ?_)
        refine WT.vldS hT 0 hv3 hbl4 (arr_at (by omega)) zr zr zr zr zr zr zr zr zr (fun l4 hl4 => ?_)
        refine WT.vidx hT hv3 zr zr zr zr zr zr zr zr zr (by omega) (fun bl5 hbl5 => ?_)
        refine WT.vst (y := u.d[fst + ch]!) hT 0 hv3 hbl5 (List.getElem?_eq_getElem (by simp; omega)) zr zr zr zr zr hl3 rfl (fun _ => rfl) rfl (fun Bl5 hBl5 => ?_)
        refine WT.vidx hT hBl5 zr zr zr zr zr zr zr zr zr (by omega) (fun bl6 hbl6 => ?_)
        refine WT.vst (y := u.d[fst + u.i]!) hT 0 hBl5 hbl6 (List.getElem?_eq_getElem (by simp; omega)) zr zr zr zr zr hl4 rfl (fun _ => rfl) rfl (fun Bl6 hBl6 => ?_)
        rw [← swp_list] at hBl6
        refine WT.nil ?_
        refine ⟨(by repeat (first | exact trivial | refine recs_pair rfl rfl (by first | exact keep0 | exact keep1 (keeps_frz (by assumption)) | exact kp 0 0 me me | exact kp 1 1 me me | exact kp 2 2 me me | exact kp 3 3 me me | exact kp 4 4 me me | exact kp 5 5 me me | exact kp 6 6 me me | exact kp 0 1 me me | exact kp 1 2 me me | exact kp 2 3 me me | exact kp 3 4 me me | exact kp 4 5 me me | exact kp 5 6 me me | exact kp 6 7 me me) ?_)), ?_⟩
        refine AW.reg ?_; (iterate 2 refine ze hT zr zr zr zr zr ?_); refine WT.nil ?_
        refine ⟨⟨ch, Go.Sort.swp u.d (fst + u.i) (fst + ch), Bl6⟩, by dsimp only; omega, SubK.of_map rfl, OwnLe.refl _, hBl6, by dsimp only; omega, ?_⟩
        rw [← heq, hceq, hlt, if_neg (by simp)]

theorem lrHeap_spec (F : Frz) {lt : Lr → Lr → Bool} {g : Nat} {first capt : List Value} (hc : CmpOk tLr lt F g first capt) {a0 : Option Addr} {m c : Nat} {B : List (Nat × Blk)} {d : Array Lr} (hv : Vec tLr F a0 m c B d.toList) (a b : Nat) (hab : a < b) (hb : b ≤ m) (hm : m ≤ 1000000) :
    Abs.Spec CC 169 [.slice a0 m c, .int .i64 a, .int .i64 b, .func (.func g) ⟨first⟩ ⟨capt⟩] F [B] fun F' v o => ∃ B', o = [B'] ∧ Vec tLr F' a0 m c B' (Go.Sort.heapSort lt d a b).toList := by
  refine Abs.Spec.fn (n := 60) Tryd.func169 rfl rfl fun own => ?_
  refine AW.seq ?_; refine AW.reg ?_; (iterate 2 refine ze hT zr zr zr zr zr ?_); refine WT.nil ?_; refine AW.seq ?_; refine AW.reg ?_; refine ze hT zr zr zr zr zr ?_; refine WT.nil ?_; refine AW.seq ?_; refine AW.reg ?_; (iterate 2 refine ze hT zr zr zr zr zr ?_); refine WT.subN zr zr zr zr zr zr (by omega) ?_; refine ze hT zr zr zr zr zr ?_; refine WT.nil ?_; (iterate 2 refine AW.seq ?_); refine AW.reg ?_; refine ze hT zr zr zr zr zr ?_; refine WT.sub1 zr zr zr zr zr zr (by omega) ?_
  refine WT.quoL 2 zr zr zr zr zr zr (by decide) (by omega) ?_
  refine ze hT zr zr zr zr zr ?_; refine WT.nil ?_
  refine AW.know (v' := .int .i64 ((((b - a - 1) / 2 + 1 : Nat) : Int) - 1)) 11 rfl (by congr 1; omega) ?_
  refine AW.jnT (S := VS Lr) (fun _ => [(11, .int .i64 (((0 : Nat) : Int) - 1))]) (fun s => s.B :: own) (fun s G => Vec tLr G a0 m c s.B s.d.toList ∧ s.d = Go.Sort.heapBuild lt (b - a) a ((b - a - 1) / 2 + 1) d) ?_ (fun s F1 hF1 hP => ?_)
  · refine AW.block ?_
    refine AW.loopR (S := VS Lr) (fun s => [(11, .int .i64 ((s.i : Int) - 1))]) (fun s => s.B :: own) (fun s G => Vec tLr G a0 m c s.B s.d.toList ∧ s.i ≤ 1000000 ∧ Go.Sort.heapBuild lt (b - a) a s.i s.d = Go.Sort.heapBuild lt (b - a) a ((b - a - 1) / 2 + 1) d) (fun s => s.i) ⟨(b - a - 1) / 2 + 1, d, B⟩
      (SubK.of_map rfl) (OwnLe.refl _) ⟨hv, by dsimp only; omega, rfl⟩ ?_
    intro u F2 hF2 hP2
    obtain ⟨hv2, hui, heq⟩ := hP2
    (iterate 2 refine AW.seq ?_); refine AW.reg ?_; (iterate 2 refine ze hT zr zr zr zr zr ?_); refine WT.nil ?_
    refine AW.cond rfl (fun h => ?_) (fun h => ?_)
    · have h : 1 ≤ u.i := by simp at h; omega
      refine AW.skip ?_; refine AW.seq ?_
      refine AW.block ?_
      refine AW.reg ?_; (iterate 5 refine ze hT zr zr zr zr zr ?_)
      refine WT.know (v' := .int .i64 ((u.i - 1 : Nat) : Int)) 25 rfl (by congr 1; omega) ?_
      skip
      refine WT.call1F 0 Tryd.func188 zr zr zr zr zr zr zr (fun _ => rfl) (lrSift_spec _ (hc.mono hF2) hv2 (u.i - 1) (b - a) a (by omega) (by omega) hm) (fun F3 v B3 hF3 hv3 => ?_)
      refine WT.nil ?_
      refine AW.reg ?_
      refine WT.easy hT zr zr zr zr zr ?_
      refine WT.subT zr zr zr zr zr zr (by omega) ?_
      refine WT.know (v' := .int .i64 (((u.i - 1 : Nat) : Int) - 1)) 23 rfl (by congr 1; omega) ?_
      refine ze hT zr zr zr zr zr ?_; refine WT.nil ?_
      refine ⟨⟨u.i - 1, _, B3⟩, by dsimp only; omega, SubK.of_map rfl, OwnLe.refl _, hv3, by dsimp only; omega, ?_⟩
      rw [← heq]
      cases hi : u.i with
      | zero => omega
      | succ j => rfl
    · have h : u.i = 0 := by simp at h; omega
      refine AW.exit ?_
      skip
      refine ⟨⟨0, u.d, u.B⟩, SubK.of_map (by rw [h]; rfl), OwnLe.refl _, hv2, ?_⟩
      rw [← heq, h]; rfl
  · obtain ⟨hv1, hd1⟩ := hP
    refine AW.seq ?_; refine AW.reg ?_; refine ze hT zr zr zr zr zr ?_; refine WT.sub1 zr zr zr zr zr zr (by omega) ?_; refine ze hT zr zr zr zr zr ?_; refine WT.nil ?_
    refine AW.know (v' := .int .i64 (((b - a : Nat) : Int) - 1)) 12 rfl (by congr 1; omega) ?_
    refine AW.block ?_
    refine AW.loopR (S := VS Lr) (fun s => [(12, .int .i64 ((s.i : Int) - 1))]) (fun s => s.B :: own) (fun s G => Vec tLr G a0 m c s.B s.d.toList ∧ s.i ≤ b - a ∧ Go.Sort.heapPop lt a s.i s.d = Go.Sort.heapSort lt d a b) (fun s => s.i) ⟨b - a, s.d, s.B⟩
      (SubK.of_map rfl) (OwnLe.refl _) ⟨hv1, Nat.le_refl _, by dsimp only; rw [hd1]; rfl⟩ ?_
    intro u F2 hF2 hP2
    obtain ⟨hv2, hui, heq⟩ := hP2
    have hsz : m = u.d.size := hv2.len
    (iterate 2 refine AW.seq ?_); refine AW.reg ?_; (iterate 2 refine ze hT zr zr zr zr zr ?_); refine WT.nil ?_
    refine AW.cond rfl (fun h => ?_) (fun h => ?_)
    · have h : 1 ≤ u.i := by simp at h; omega
      refine AW.skip ?_; refine AW.seq ?_
      refine AW.block ?_
      refine AW.seq (AW.draw (ps := [(5, 17)]) rfl rfl ?_)
      (iterate 5 refine ze hT zr zr zr zr zr ?_); refine za zr zr zr zr zr zr (by omega) ?_; (iterate 3 refine ze hT zr zr zr zr zr ?_); refine za zr zr zr zr zr zr (by omega) ?_
      refine WT.know (v' := .int .i64 ((a + (u.i - 1) : Nat) : Int)) 41 rfl (by congr 1; omega) ?_
      skip
      refine WT.know (v' := .int .i64 ((a + (u.i - 1) : Nat) : Int)) 45 rfl (by congr 1; omega) ?_
      refine WT.vidx hT hv2 zr zr zr zr zr zr zr zr zr (by omega) (fun bl3 hbl3 => ?_)
      refine WT.vldS hT 0 hv2 hbl3 (arr_at (by omega)) zr zr zr zr zr zr zr zr zr (fun l3 hl3 => ?_)
      (iterate 2 refine ze hT zr zr zr zr zr ?_)
      refine WT.vidx hT hv2 zr zr zr zr zr zr zr zr zr (by omega) (fun bl4 hbl4 => ?_)
      refine WT.vldS hT 0 hv2 hbl4 (arr_at (by omega)) zr zr zr zr zr zr zr zr zr (fun l4 hl4 => ?_)
      refine WT.vidx hT hv2 zr zr zr zr zr zr zr zr zr (by omega) (fun bl5 hbl5 => ?_)
      refine WT.vst (y := u.d[a + (u.i - 1)]!) hT 0 hv2 hbl5 (List.getElem?_eq_getElem (by simp; omega)) zr zr zr zr zr hl3 rfl (fun _ => rfl) rfl (fun Bl5 hBl5 => ?_)
      refine WT.vidx hT hBl5 zr zr zr zr zr zr zr zr zr (by omega) (fun bl6 hbl6 => ?_)
      refine WT.vst (y := u.d[a]!) hT 0 hBl5 hbl6 (List.getElem?_eq_getElem (by simp; omega)) zr zr zr zr zr hl4 rfl (fun _ => rfl) rfl (fun Bl6 hBl6 => ?_)
      rw [← swp_list] at hBl6
      refine WT.nil ?_
      refine ⟨(by repeat (first | exact trivial | refine recs_pair rfl rfl (by first | exact keep0 | exact keep1 (keeps_frz (by assumption)) | exact kp 0 0 me me | exact kp 1 1 me me | exact kp 2 2 me me | exact kp 3 3 me me | exact kp 4 4 me me | exact kp 5 5 me me | exact kp 6 6 me me | exact kp 0 1 me me | exact kp 1 2 me me | exact kp 2 3 me me | exact kp 3 4 me me | exact kp 4 5 me me | exact kp 5 6 me me | exact kp 6 7 me me) ?_)), ?_⟩
      refine AW.reg ?_; (iterate 5 refine ze hT zr zr zr zr zr ?_)
      refine WT.know (v' := .int .i64 ((u.i - 1 : Nat) : Int)) 56 rfl (by congr 1; omega) ?_
      refine WT.know (v' := .int .i64 ((0 : Nat) : Int)) 55 rfl rfl ?_
      skip
      refine WT.call1F 0 Tryd.func188 zr zr zr zr zr zr zr (fun _ => rfl) (lrSift_spec _ ((hc.mono hF1).mono hF2) hBl6 0 (u.i - 1) a (by omega) (by omega) hm) (fun F3 v B3 hF3 hv3 => ?_)
      refine WT.nil ?_
      refine AW.reg ?_
      refine WT.easy hT zr zr zr zr zr ?_
      refine WT.subT zr zr zr zr zr zr (by omega) ?_
      refine WT.know (v' := .int .i64 (((u.i - 1 : Nat) : Int) - 1)) 35 rfl (by congr 1; omega) ?_
      refine ze hT zr zr zr zr zr ?_; refine WT.nil ?_
      refine ⟨⟨u.i - 1, _, B3⟩, by dsimp only; omega, SubK.of_map rfl, OwnLe.refl _, hv3, by dsimp only; omega, ?_⟩
      rw [← heq]
      cases hi : u.i with
      | zero => omega
      | succ j => rfl
    · have h : u.i = 0 := by simp at h; omega
      refine AW.exit ?_
      skip
      refine ⟨_, [_], rfl, (by repeat (first | exact List.Sublist.refl _ | refine List.Sublist.cons _ ?_)), _, rfl, ?_⟩
      rw [← heq, h]
      exact hv2

theorem lrRev_spec (F : Frz) {cv : Value} {a0 : Option Addr} {m c : Nat} {B : List (Nat × Blk)} {d : Array Lr} (hv : Vec tLr F a0 m c B d.toList) (a b : Nat) (hab : a < b) (hb : b ≤ m) (hm : m ≤ 1000000) :
    Abs.Spec CC 172 [.slice a0 m c, .int .i64 a, .int .i64 b, cv] F [B] fun F' v o => ∃ B', o = [B'] ∧ Vec tLr F' a0 m c B' (Go.Sort.reverseRange d a b).toList := by
  refine Abs.Spec.fn (n := 34) Tryd.func172 rfl rfl fun own => ?_
  refine AW.seq ?_; refine AW.reg ?_; (iterate 2 refine ze hT zr zr zr zr zr ?_); refine WT.nil ?_; refine AW.seq ?_; refine AW.reg ?_; refine ze hT zr zr zr zr zr ?_; refine WT.sub1 zr zr zr zr zr zr (by omega) ?_; refine ze hT zr zr zr zr zr ?_; refine WT.nil ?_
  refine AW.block ?_
  refine AW.loopR (S := Nat × VS Lr) (fun s => [(8, .int .i64 (s.2.i : Nat)), (9, .int .i64 (s.1 : Nat))]) (fun s => s.2.B :: own) (fun s G => Vec tLr G a0 m c s.2.B s.2.d.toList ∧ s.1 < m ∧ s.2.i ≤ m ∧ Go.Sort.reverseLoop s.2.i s.1 s.2.d = Go.Sort.reverseRange d a b) (fun s => s.1 - s.2.i) (b - 1, ⟨a, d, B⟩)
    (SubK.of_map rfl) (OwnLe.refl _) ⟨hv, by dsimp only; omega, by dsimp only; omega, rfl⟩ ?_
  intro u F2 hF2 hP2
  obtain ⟨hv2, hj, hi, heq⟩ := hP2
  have hsz : m = u.2.d.size := hv2.len
  (iterate 2 refine AW.seq ?_); refine AW.reg ?_; (iterate 3 refine ze hT zr zr zr zr zr ?_); refine WT.nil ?_
  refine AW.cond rfl (fun h => ?_) (fun h => ?_)
  · have h : u.2.i < u.1 := by simp at h; omega
    refine AW.skip ?_
    refine AW.block ?_
    refine AW.seq ?_; refine AW.draw (ps := []) zr zr ?_; (iterate 6 refine ze hT zr zr zr zr zr ?_)
    refine WT.vidx hT hv2 zr zr zr zr zr zr zr zr zr (by omega) (fun bl3 hbl3 => ?_)
    refine WT.vldS hT 0 hv2 hbl3 (arr_at (by omega)) zr zr zr zr zr zr zr zr zr (fun l3 hl3 => ?_)
    (iterate 2 refine ze hT zr zr zr zr zr ?_)
    refine WT.vidx hT hv2 zr zr zr zr zr zr zr zr zr (by omega) (fun bl4 hbl4 => ?_)
    refine WT.vldS hT 0 hv2 hbl4 (arr_at (by omega)) zr zr zr zr zr zr zr zr zr (fun l4 hl4 => ?_)
    refine WT.vidx hT hv2 zr zr zr zr zr zr zr zr zr (by omega) (fun bl5 hbl5 => ?_)
    refine WT.vst (y := u.2.d[u.1]!) hT 0 hv2 hbl5 (List.getElem?_eq_getElem (by simp; omega)) zr zr zr zr zr hl3 rfl (fun _ => rfl) rfl (fun Bl5 hBl5 => ?_)
    refine WT.vidx hT hBl5 zr zr zr zr zr zr zr zr zr (by omega) (fun bl6 hbl6 => ?_)
    refine WT.vst (y := u.2.d[u.2.i]!) hT 0 hBl5 hbl6 (List.getElem?_eq_getElem (by simp; omega)) zr zr zr zr zr hl4 rfl (fun _ => rfl) rfl (fun Bl6 hBl6 => ?_)
    rw [← swp_list] at hBl6
    refine WT.nil ?_; refine And.intro trivial ?_; refine AW.seq ?_; refine AW.reg ?_; refine ze hT zr zr zr zr zr ?_; refine WT.add1 zr zr zr zr zr zr (by omega) ?_; refine ze hT zr zr zr zr zr ?_; refine WT.nil ?_; refine AW.reg ?_; refine ze hT zr zr zr zr zr ?_; refine WT.sub1 zr zr zr zr zr zr (by omega) ?_; refine ze hT zr zr zr zr zr ?_; refine WT.nil ?_
    refine ⟨(u.1 - 1, ⟨u.2.i + 1, Go.Sort.swp u.2.d u.2.i u.1, Bl6⟩), by dsimp only; omega, SubK.of_map rfl, OwnLe.refl _, hBl6, by dsimp only; omega, by dsimp only; omega, ?_⟩
    rw [← heq]
    conv => rhs; rw [Go.Sort.reverseLoop]
    rw [if_pos h]
  · have h : ¬ u.2.i < u.1 := by simp at h; omega
    refine AW.exit ?_
    skip
    refine ⟨_, [_], rfl, (by repeat (first | exact List.Sublist.refl _ | refine List.Sublist.cons _ ?_)), _, rfl, ?_⟩
    rw [← heq, Go.Sort.reverseLoop, if_neg h]
    exact hv2

theorem lrPart_spec (F : Frz) {lt : Lr → Lr → Bool} {g : Nat} {first capt : List Value} (hc : CmpOk tLr lt F g first capt) {a0 : Option Addr} {m c : Nat} {B : List (Nat × Blk)} {d : Array Lr} (hv : Vec tLr F a0 m c B d.toList) (a b pivot : Nat) (hp1 : a ≤ pivot) (hp2 : pivot < b) (hb : b ≤ m) (hm : m ≤ 1000000) :
    Abs.Spec CC 175 [.slice a0 m c, .int .i64 a, .int .i64 b, .int .i64 pivot, .func (.func g) ⟨first⟩ ⟨capt⟩] F [B] fun F' v o => ∃ B', o = [B'] ∧ v = .tuple ⟨[.int .i64 ((Go.Sort.partition lt d a b pivot).1 : Nat), .bool (Go.Sort.partition lt d a b pivot).2.1]⟩ ∧ Vec tLr F' a0 m c B' (Go.Sort.partition lt d a b pivot).2.2.toList := by
  obtain ⟨⟨fn, hg, hgb⟩, hcmp⟩ := hc
  have hsz : m = d.size := hv.len
  refine Abs.Spec.fn (n := 178) Tryd.func175 rfl rfl fun own => ?_
  refine AW.seq ?_; refine AW.reg ?_; (iterate 2 refine ze hT zr zr zr zr zr ?_); refine WT.nil ?_; refine AW.seq ?_; refine AW.draw (ps := []) zr zr ?_; (iterate 6 refine ze hT zr zr zr zr zr ?_)
  refine WT.vidx hT hv zr zr zr zr zr zr zr zr zr (by omega) (fun bl1 hbl1 => ?_)
  refine WT.vldS hT 0 hv hbl1 (arr_at (by omega)) zr zr zr zr zr zr zr zr zr (fun l1 hl1 => ?_)
  (iterate 2 refine ze hT zr zr zr zr zr ?_)
  refine WT.vidx hT hv zr zr zr zr zr zr zr zr zr (by omega) (fun bl2 hbl2 => ?_)
  refine WT.vldS hT 0 hv hbl2 (arr_at (by omega)) zr zr zr zr zr zr zr zr zr (fun l2 hl2 => ?_)
  refine WT.vidx hT hv zr zr zr zr zr zr zr zr zr (by omega) (fun bl3 hbl3 => ?_)
  refine WT.vst (y := d[pivot]!) hT 0 hv hbl3 (List.getElem?_eq_getElem (by simp; omega)) zr zr zr zr zr hl1 rfl (fun _ => rfl) rfl (fun Bl3 hBl3 => ?_)
  refine WT.vidx hT hBl3 zr zr zr zr zr zr zr zr zr (by omega) (fun bl4 hbl4 => ?_)
  refine WT.vst (y := d[a]!) hT 0 hBl3 hbl4 (List.getElem?_eq_getElem (by simp; omega)) zr zr zr zr zr hl2 rfl (fun _ => rfl) rfl (fun Bl4 hBl4 => ?_)
  rw [← swp_list] at hBl4
  obtain ⟨d1, hd1⟩ : ∃ d1, Go.Sort.swp d a pivot = d1 := ⟨_, rfl⟩
  rw [hd1] at hBl4
  have hsz1 : m = d1.size := hBl4.len
  refine WT.nil ?_; refine And.intro trivial ?_; refine AW.seq ?_; refine AW.reg ?_; refine ze hT zr zr zr zr zr ?_; refine WT.add1 zr zr zr zr zr zr (by omega) ?_; refine ze hT zr zr zr zr zr ?_; refine WT.sub1 zr zr zr zr zr zr (by omega) ?_; (iterate 2 refine ze hT zr zr zr zr zr ?_); refine WT.nil ?_; refine AW.seq ?_
  obtain ⟨i1, hi1⟩ : ∃ i1, Go.Sort.scanUp (fun x => lt x d1[a]!) d1 (b - 1) (a + 1) = i1 := ⟨_, rfl⟩
  obtain ⟨j1, hj1⟩ : ∃ j1, Go.Sort.scanDown (fun x => !lt x d1[a]!) d1 i1 (b - 1) = j1 := ⟨_, rfl⟩
  obtain ⟨u1, u2, u3, u4⟩ := Go.Sort.scanUp_spec (fun x => lt x d1[a]!) d1 (b - 1) _ (a + 1) rfl
  obtain ⟨v1, v2, v3, v4⟩ := Go.Sort.scanDown_spec (fun x => !lt x d1[a]!) d1 i1 (b - 1)
  rw [hi1] at u1 u2 u4
  rw [hj1] at v1 v2 v4
  have u2 := u2 (by omega)
  have v2 := v2 (by omega)
  refine AW.jnT (S := Unit) (fun _ => [(12, .int .i64 (Go.Sort.scanUp (fun x => lt x d1[a]!) d1 (b - 1) (a + 1) : Nat))]) (fun _ => (Bl4 :: own)) (fun _ _ => True) ?_ (fun _ F1 hF1 _ => ?_)
  · refine AW.block ?_
    refine AW.loopR (S := Nat) (fun i => [(12, .int .i64 (i : Nat))]) (fun _ => (Bl4 :: own)) (fun i _ => (a + 1) ≤ i ∧ i ≤ (b - 1) + 1 ∧ Go.Sort.scanUp (fun x => lt x d1[a]!) d1 (b - 1) i = Go.Sort.scanUp (fun x => lt x d1[a]!) d1 (b - 1) (a + 1)) (fun i => (b - 1) + 1 - i) (a + 1) (SubK.of_map rfl) (OwnLe.refl _) ⟨Nat.le_refl _, by omega, rfl⟩ ?_
    intro i G hG hP
    obtain ⟨hi1, hi2, hi3⟩ := hP
    have hvG := hBl4.mono hG
    (iterate 2 refine AW.seq ?_); refine AW.draw (ps := []) zr zr ?_; (iterate 4 refine ze hT zr zr zr zr zr ?_)
    refine WT.split 35 rfl (fun h => ?_) (fun h => ?_)
    · have h : i ≤ (b - 1) := by simp at h; omega
      (iterate 3 refine ze hT zr zr zr zr zr ?_)
      refine WT.vidx hT hvG zr zr zr zr zr zr zr zr zr (by omega) (fun bl1 hbl1 => ?_)
      refine WT.vldS hT 0 hvG hbl1 (arr_at (by omega)) zr zr zr zr zr zr zr zr zr (fun l1 hl1 => ?_)
      (iterate 2 refine ze hT zr zr zr zr zr ?_)
      refine WT.vidx hT hvG zr zr zr zr zr zr zr zr zr (by omega) (fun bl2 hbl2 => ?_)
      refine WT.vldS hT 0 hvG hbl2 (arr_at (by omega)) zr zr zr zr zr zr zr zr zr (fun l2 hl2 => ?_)
      refine WT.callC hg hgb zr zr zr zr zr zr zr (hcmp G ((Frz.le.refl F).trans hG) l1 l2 _ _ hl1 hl2) (fun v hvz => ?_)
      obtain ⟨z, rfl, hz⟩ := hvz
      (iterate 2 refine ze hT zr zr zr zr zr ?_); refine WT.nil ?_; refine And.intro trivial ?_
      refine AW.cond rfl (fun hc => ?_) (fun hc => ?_)
      · have hlt := hz.1 (by simpa using hc)
        refine AW.skip ?_
        refine AW.block ?_
        refine AW.reg ?_; refine ze hT zr zr zr zr zr ?_; refine WT.add1 zr zr zr zr zr zr (by omega) ?_; refine ze hT zr zr zr zr zr ?_; refine WT.nil ?_
        refine ⟨i + 1, by omega, SubK.of_map rfl, OwnLe.refl _, by omega, by omega, ?_⟩
        rw [← hi3]
        conv => rhs; rw [Go.Sort.scanUp]
        rw [if_pos (by simp [h, hlt])]
      · have hlt := (Bool.eq_false_iff.2 (fun hh => absurd (hz.2 hh) (by simpa using hc)) : lt d1[i]! d1[a]! = false)
        refine AW.exit ?_
        refine ⟨(), SubK.of_map (by rw [← hi3, Go.Sort.scanUp, if_neg (by simp [hlt])]; rfl), OwnLe.refl _, trivial⟩
    · have h : ¬ i ≤ (b - 1) := by simp at h; omega
      (iterate 11 refine zx zr zr zr zr ?_); refine ze hT zr zr zr zr zr ?_; refine WT.nil ?_; refine And.intro trivial ?_
      refine AW.cond rfl (fun h => (by cases h)) (fun _ => ?_)
      refine AW.exit ?_
      refine ⟨(), SubK.of_map (by rw [← hi3, Go.Sort.scanUp, if_neg (by simp [h])]; rfl), OwnLe.refl _, trivial⟩
  rw [hi1]
  have hv1 := hBl4.mono hF1
  refine AW.seq ?_
  refine AW.jnT (S := Unit) (fun _ => [(13, .int .i64 (Go.Sort.scanDown (fun x => !lt x d1[a]!) d1 i1 (b - 1) : Nat))]) (fun _ => (Bl4 :: own)) (fun _ _ => True) ?_ (fun _ F2 hF2 _ => ?_)
  · refine AW.block ?_
    refine AW.loopR (S := Nat) (fun j => [(13, .int .i64 (j : Nat))]) (fun _ => (Bl4 :: own)) (fun j _ => j ≤ (b - 1) ∧ i1 ≤ j + 1 ∧ Go.Sort.scanDown (fun x => !lt x d1[a]!) d1 i1 j = Go.Sort.scanDown (fun x => !lt x d1[a]!) d1 i1 (b - 1)) (fun j => j) (b - 1) (SubK.of_map rfl) (OwnLe.refl _) ⟨Nat.le_refl _, by omega, rfl⟩ ?_
    intro j G hG hP
    obtain ⟨hj1, hj2, hj3⟩ := hP
    have hvG := hv1.mono hG
    have one : ∀ q, i1 ≤ j → (fun x => !lt x d1[a]!) d1[j]! = q → Go.Sort.scanDown (fun x => !lt x d1[a]!) d1 i1 j = if q = true then Go.Sort.scanDown (fun x => !lt x d1[a]!) d1 i1 (j - 1) else j := by
      intro q h1 h2
      cases j with
      | zero => omega
      | succ k =>
        rw [Go.Sort.scanDown, Nat.add_sub_cancel]
        subst h2
        simp [h1]
    (iterate 2 refine AW.seq ?_); refine AW.draw (ps := []) zr zr ?_; (iterate 4 refine ze hT zr zr zr zr zr ?_)
    refine WT.split 53 rfl (fun h => ?_) (fun h => ?_)
    · have h : i1 ≤ j := by simp at h; omega
      (iterate 3 refine ze hT zr zr zr zr zr ?_)
      refine WT.vidx hT hvG zr zr zr zr zr zr zr zr zr (by omega) (fun bl1 hbl1 => ?_)
      refine WT.vldS hT 0 hvG hbl1 (arr_at (by omega)) zr zr zr zr zr zr zr zr zr (fun l1 hl1 => ?_)
      (iterate 2 refine ze hT zr zr zr zr zr ?_)
      refine WT.vidx hT hvG zr zr zr zr zr zr zr zr zr (by omega) (fun bl2 hbl2 => ?_)
      refine WT.vldS hT 0 hvG hbl2 (arr_at (by omega)) zr zr zr zr zr zr zr zr zr (fun l2 hl2 => ?_)
      refine WT.callC hg hgb zr zr zr zr zr zr zr (hcmp G (hF1.trans hG) l1 l2 _ _ hl1 hl2) (fun v hvz => ?_)
      obtain ⟨z, rfl, hz⟩ := hvz
      (iterate 3 refine ze hT zr zr zr zr zr ?_); refine WT.nil ?_; refine And.intro trivial ?_
      refine AW.cond rfl (fun hc => ?_) (fun hc => ?_)
      · have hlt := (Bool.eq_false_iff.2 (fun hh => absurd (hz.2 hh) (by simpa using hc)) : lt d1[j]! d1[a]! = false)
        refine AW.skip ?_
        refine AW.block ?_
        refine AW.reg ?_; refine ze hT zr zr zr zr zr ?_; refine WT.sub1 zr zr zr zr zr zr (by omega) ?_; refine ze hT zr zr zr zr zr ?_; refine WT.nil ?_
        refine ⟨j - 1, by omega, SubK.of_map rfl, OwnLe.refl _, by omega, by omega, ?_⟩
        rw [← hj3, one true h (by simp [hlt]), if_pos rfl]
      · have hlt := hz.1 (by simpa using hc)
        refine AW.exit ?_
        refine ⟨(), SubK.of_map (by rw [← hj3, one false h (by simp [hlt]), if_neg (by decide)]; rfl), OwnLe.refl _, trivial⟩
    · have h : ¬ i1 ≤ j := by simp at h; omega
      (iterate 12 refine zx zr zr zr zr ?_); refine ze hT zr zr zr zr zr ?_; refine WT.nil ?_; refine And.intro trivial ?_
      refine AW.cond rfl (fun h => (by cases h)) (fun _ => ?_)
      refine AW.exit ?_
      have e : Go.Sort.scanDown (fun x => !lt x d1[a]!) d1 i1 j = j := by
        cases j with
        | zero => rfl
        | succ k => rw [Go.Sort.scanDown, if_neg (by simp; omega)]
      refine ⟨(), SubK.of_map (by rw [← hj3, e]; rfl), OwnLe.refl _, trivial⟩
  rw [hj1]
  have hv2 := hv1.mono hF2
  (iterate 2 refine AW.seq ?_); refine AW.reg ?_; (iterate 3 refine ze hT zr zr zr zr zr ?_); refine WT.nil ?_
  have hpart : Go.Sort.partition lt d a b pivot = if i1 > j1 then (j1, true, Go.Sort.swp d1 j1 a) else
      ((Go.Sort.partLoop lt a (i1 + 1) (j1 - 1) (Go.Sort.swp d1 i1 j1)).1, false, Go.Sort.swp (Go.Sort.partLoop lt a (i1 + 1) (j1 - 1) (Go.Sort.swp d1 i1 j1)).2 (Go.Sort.partLoop lt a (i1 + 1) (j1 - 1) (Go.Sort.swp d1 i1 j1)).1 a) := by
    simp only [Go.Sort.partition, hd1, hi1, hj1]
  refine AW.cond rfl (fun h => ?_) (fun h => ?_)
  · have h : j1 < i1 := by simp at h; omega
    refine AW.seq ?_; refine AW.draw (ps := []) zr zr ?_; (iterate 6 refine ze hT zr zr zr zr zr ?_)
    refine WT.vidx hT hv2 zr zr zr zr zr zr zr zr zr (by omega) (fun bl1 hbl1 => ?_)
    refine WT.vldS hT 0 hv2 hbl1 (arr_at (by omega)) zr zr zr zr zr zr zr zr zr (fun l1 hl1 => ?_)
    (iterate 2 refine ze hT zr zr zr zr zr ?_)
    refine WT.vidx hT hv2 zr zr zr zr zr zr zr zr zr (by omega) (fun bl2 hbl2 => ?_)
    refine WT.vldS hT 0 hv2 hbl2 (arr_at (by omega)) zr zr zr zr zr zr zr zr zr (fun l2 hl2 => ?_)
    refine WT.vidx hT hv2 zr zr zr zr zr zr zr zr zr (by omega) (fun bl3 hbl3 => ?_)
    refine WT.vst (y := d1[a]!) hT 0 hv2 hbl3 (List.getElem?_eq_getElem (by simp; omega)) zr zr zr zr zr hl1 rfl (fun _ => rfl) rfl (fun Bl3 hBl3 => ?_)
    refine WT.vidx hT hBl3 zr zr zr zr zr zr zr zr zr (by omega) (fun bl4 hbl4 => ?_)
    refine WT.vst (y := d1[j1]!) hT 0 hBl3 hbl4 (List.getElem?_eq_getElem (by simp; omega)) zr zr zr zr zr hl2 rfl (fun _ => rfl) rfl (fun Bl4 hBl4 => ?_)
    rw [← swp_list] at hBl4
    refine WT.nil ?_; refine And.intro trivial ?_; refine AW.seq ?_; refine AW.reg ?_; (iterate 3 refine ze hT zr zr zr zr zr ?_); refine WT.nil ?_
    refine AW.ret ⟨_, [_], ⟨_, _, rfl, ⟨_, _, rfl, rfl, rfl⟩, rfl⟩, (by repeat (first | exact List.Sublist.refl _ | refine List.Sublist.cons _ ?_)), _, rfl, ?_, ?_⟩
    · rw [hpart, if_pos h]; rfl
    · rw [hpart, if_pos h]; exact hBl4
  · have h : ¬ j1 < i1 := by simp at h; omega
    have hlt1 : i1 < j1 := by
      rcases Nat.lt_or_ge i1 j1 with h1 | h1
      · exact h1
      · obtain rfl : i1 = j1 := by omega
        have e1 := u4 (by omega)
        have e2 := v4 (Nat.le_refl _) (by omega)
        rw [e1] at e2
        cases e2
    rw [if_neg h] at hpart
    refine AW.skip ?_; refine AW.seq ?_; refine AW.draw (ps := []) zr zr ?_; (iterate 6 refine ze hT zr zr zr zr zr ?_)
    refine WT.vidx hT hv2 zr zr zr zr zr zr zr zr zr (by omega) (fun bl1 hbl1 => ?_)
    refine WT.vldS hT 0 hv2 hbl1 (arr_at (by omega)) zr zr zr zr zr zr zr zr zr (fun l1 hl1 => ?_)
    (iterate 2 refine ze hT zr zr zr zr zr ?_)
    refine WT.vidx hT hv2 zr zr zr zr zr zr zr zr zr (by omega) (fun bl2 hbl2 => ?_)
    refine WT.vldS hT 0 hv2 hbl2 (arr_at (by omega)) zr zr zr zr zr zr zr zr zr (fun l2 hl2 => ?_)
    refine WT.vidx hT hv2 zr zr zr zr zr zr zr zr zr (by omega) (fun bl3 hbl3 => ?_)
    refine WT.vst (y := d1[j1]!) hT 0 hv2 hbl3 (List.getElem?_eq_getElem (by simp; omega)) zr zr zr zr zr hl1 rfl (fun _ => rfl) rfl (fun Bl3 hBl3 => ?_)
    refine WT.vidx hT hBl3 zr zr zr zr zr zr zr zr zr (by omega) (fun bl4 hbl4 => ?_)
    refine WT.vst (y := d1[i1]!) hT 0 hBl3 hbl4 (List.getElem?_eq_getElem (by simp; omega)) zr zr zr zr zr hl2 rfl (fun _ => rfl) rfl (fun Bl4 hBl4 => ?_)
    rw [← swp_list] at hBl4
    refine WT.nil ?_; refine And.intro trivial ?_; refine AW.seq ?_; refine AW.reg ?_; refine ze hT zr zr zr zr zr ?_; refine WT.add1 zr zr zr zr zr zr (by omega) ?_; refine ze hT zr zr zr zr zr ?_; refine WT.nil ?_; refine AW.seq ?_; refine AW.reg ?_; refine ze hT zr zr zr zr zr ?_; refine WT.sub1 zr zr zr zr zr zr (by omega) ?_; refine ze hT zr zr zr zr zr ?_; refine WT.nil ?_; refine AW.seq ?_
    refine AW.jnT (S := Nat × VS Lr) (fun s => [(12, .int .i64 (s.1 : Nat)), (13, .int .i64 (s.2.i : Nat))]) (fun s => s.2.B :: own) (fun s G => Vec tLr G a0 m c s.2.B s.2.d.toList ∧ a ≤ s.2.i ∧ s.2.i < b ∧ (s.2.i, s.2.d) = Go.Sort.partLoop lt a (i1 + 1) (j1 - 1) (Go.Sort.swp d1 i1 j1)) ?_ (fun s F3 hF3 hP => ?_)
    · refine AW.block ?_
      refine AW.loopR (S := Nat × VS Lr) (fun s => [(12, .int .i64 (s.1 : Nat)), (13, .int .i64 (s.2.i : Nat))]) (fun s => s.2.B :: own) (fun s G => Vec tLr G a0 m c s.2.B s.2.d.toList ∧ a < s.1 ∧ s.1 ≤ s.2.i + 1 ∧ s.2.i < b ∧ Go.Sort.partLoop lt a s.1 s.2.i s.2.d = Go.Sort.partLoop lt a (i1 + 1) (j1 - 1) (Go.Sort.swp d1 i1 j1)) (fun s => s.2.i + 1 - s.1) (i1 + 1, ⟨j1 - 1, Go.Sort.swp d1 i1 j1, Bl4⟩)
        (SubK.of_map rfl) (OwnLe.refl _) ⟨hBl4, by dsimp only; omega, by dsimp only; omega, by dsimp only; omega, rfl⟩ ?_
      intro u F4 hF4 hP4
      obtain ⟨hv4, ha4, hij4, hb4, heq4⟩ := hP4
      have hF4' := (hF1.trans hF2).trans hF4
      have hsz4 : m = u.2.d.size := hv4.len
      obtain ⟨i2, hi2⟩ : ∃ i2, Go.Sort.scanUp (fun x => lt x u.2.d[a]!) u.2.d u.2.i u.1 = i2 := ⟨_, rfl⟩
      obtain ⟨j2, hj2⟩ : ∃ j2, Go.Sort.scanDown (fun x => !lt x u.2.d[a]!) u.2.d i2 u.2.i = j2 := ⟨_, rfl⟩
      obtain ⟨w1, w2, w3, w4⟩ := Go.Sort.scanUp_spec (fun x => lt x u.2.d[a]!) u.2.d u.2.i _ u.1 rfl
      obtain ⟨x1, x2, x3, x4⟩ := Go.Sort.scanDown_spec (fun x => !lt x u.2.d[a]!) u.2.d i2 u.2.i
      rw [hi2] at w1 w2 w4
      rw [hj2] at x1 x2 x4
      have w2 := w2 hij4
      have x2 := x2 (by omega)
      have hloop := Go.Sort.partLoop_eq lt a u.1 u.2.i u.2.d
      rw [hi2, hj2, heq4] at hloop
      refine AW.block ?_
      refine AW.seq ?_
      refine AW.jnT (S := Unit) (fun _ => [(12, .int .i64 (Go.Sort.scanUp (fun x => lt x u.2.d[a]!) u.2.d u.2.i u.1 : Nat))]) (fun _ => (u.2.B :: own)) (fun _ _ => True) ?_ (fun _ F5 hF5 _ => ?_)
      · refine AW.block ?_
        refine AW.loopR (S := Nat) (fun i => [(12, .int .i64 (i : Nat))]) (fun _ => (u.2.B :: own)) (fun i _ => u.1 ≤ i ∧ i ≤ u.2.i + 1 ∧ Go.Sort.scanUp (fun x => lt x u.2.d[a]!) u.2.d u.2.i i = Go.Sort.scanUp (fun x => lt x u.2.d[a]!) u.2.d u.2.i u.1) (fun i => u.2.i + 1 - i) u.1 (SubK.of_map rfl) (OwnLe.refl _) ⟨Nat.le_refl _, by omega, rfl⟩ ?_
        intro i G hG hP
        obtain ⟨hi1, hi2, hi3⟩ := hP
        have hvG := hv4.mono hG
        (iterate 2 refine AW.seq ?_); refine AW.draw (ps := []) zr zr ?_; (iterate 4 refine ze hT zr zr zr zr zr ?_)
        refine WT.split 108 rfl (fun h => ?_) (fun h => ?_)
        · have h : i ≤ u.2.i := by simp at h; omega
          (iterate 3 refine ze hT zr zr zr zr zr ?_)
          refine WT.vidx hT hvG zr zr zr zr zr zr zr zr zr (by omega) (fun bl1 hbl1 => ?_)
          refine WT.vldS hT 0 hvG hbl1 (arr_at (by omega)) zr zr zr zr zr zr zr zr zr (fun l1 hl1 => ?_)
          (iterate 2 refine ze hT zr zr zr zr zr ?_)
          refine WT.vidx hT hvG zr zr zr zr zr zr zr zr zr (by omega) (fun bl2 hbl2 => ?_)
          refine WT.vldS hT 0 hvG hbl2 (arr_at (by omega)) zr zr zr zr zr zr zr zr zr (fun l2 hl2 => ?_)
          refine WT.callC hg hgb zr zr zr zr zr zr zr (hcmp G (hF4'.trans hG) l1 l2 _ _ hl1 hl2) (fun v hvz => ?_)
          obtain ⟨z, rfl, hz⟩ := hvz
          (iterate 2 refine ze hT zr zr zr zr zr ?_); refine WT.nil ?_; refine And.intro trivial ?_
          refine AW.cond rfl (fun hc => ?_) (fun hc => ?_)
          · have hlt := hz.1 (by simpa using hc)
            refine AW.skip ?_
            refine AW.block ?_
            refine AW.reg ?_; refine ze hT zr zr zr zr zr ?_; refine WT.add1 zr zr zr zr zr zr (by omega) ?_; refine ze hT zr zr zr zr zr ?_; refine WT.nil ?_
            refine ⟨i + 1, by omega, SubK.of_map rfl, OwnLe.refl _, by omega, by omega, ?_⟩
            rw [← hi3]
            conv => rhs; rw [Go.Sort.scanUp]
            rw [if_pos (by simp [h, hlt])]
          · have hlt := (Bool.eq_false_iff.2 (fun hh => absurd (hz.2 hh) (by simpa using hc)) : lt u.2.d[i]! u.2.d[a]! = false)
            refine AW.exit ?_
            refine ⟨(), SubK.of_map (by rw [← hi3, Go.Sort.scanUp, if_neg (by simp [hlt])]; rfl), OwnLe.refl _, trivial⟩
        · have h : ¬ i ≤ u.2.i := by simp at h; omega
          (iterate 11 refine zx zr zr zr zr ?_); refine ze hT zr zr zr zr zr ?_; refine WT.nil ?_; refine And.intro trivial ?_
          refine AW.cond rfl (fun h => (by cases h)) (fun _ => ?_)
          refine AW.exit ?_
          refine ⟨(), SubK.of_map (by rw [← hi3, Go.Sort.scanUp, if_neg (by simp [h])]; rfl), OwnLe.refl _, trivial⟩
      rw [hi2]
      have hv5 := hv4.mono hF5
      have hF5' := hF4'.trans hF5
      refine AW.seq ?_
      refine AW.jnT (S := Unit) (fun _ => [(13, .int .i64 (Go.Sort.scanDown (fun x => !lt x u.2.d[a]!) u.2.d i2 u.2.i : Nat))]) (fun _ => (u.2.B :: own)) (fun _ _ => True) ?_ (fun _ F6 hF6 _ => ?_)
      · refine AW.block ?_
        refine AW.loopR (S := Nat) (fun j => [(13, .int .i64 (j : Nat))]) (fun _ => (u.2.B :: own)) (fun j _ => j ≤ u.2.i ∧ i2 ≤ j + 1 ∧ Go.Sort.scanDown (fun x => !lt x u.2.d[a]!) u.2.d i2 j = Go.Sort.scanDown (fun x => !lt x u.2.d[a]!) u.2.d i2 u.2.i) (fun j => j) u.2.i (SubK.of_map rfl) (OwnLe.refl _) ⟨Nat.le_refl _, by omega, rfl⟩ ?_
        intro j G hG hP
        obtain ⟨hj1, hj2, hj3⟩ := hP
        have hvG := hv5.mono hG
        have one : ∀ q, i2 ≤ j → (fun x => !lt x u.2.d[a]!) u.2.d[j]! = q → Go.Sort.scanDown (fun x => !lt x u.2.d[a]!) u.2.d i2 j = if q = true then Go.Sort.scanDown (fun x => !lt x u.2.d[a]!) u.2.d i2 (j - 1) else j := by
          intro q h1 h2
          cases j with
          | zero => omega
          | succ k =>
            rw [Go.Sort.scanDown, Nat.add_sub_cancel]
            subst h2
            simp [h1]
        (iterate 2 refine AW.seq ?_); refine AW.draw (ps := []) zr zr ?_; (iterate 4 refine ze hT zr zr zr zr zr ?_)
        refine WT.split 126 rfl (fun h => ?_) (fun h => ?_)
        · have h : i2 ≤ j := by simp at h; omega
          (iterate 3 refine ze hT zr zr zr zr zr ?_)
          refine WT.vidx hT hvG zr zr zr zr zr zr zr zr zr (by omega) (fun bl1 hbl1 => ?_)
          refine WT.vldS hT 0 hvG hbl1 (arr_at (by omega)) zr zr zr zr zr zr zr zr zr (fun l1 hl1 => ?_)
          (iterate 2 refine ze hT zr zr zr zr zr ?_)
          refine WT.vidx hT hvG zr zr zr zr zr zr zr zr zr (by omega) (fun bl2 hbl2 => ?_)
          refine WT.vldS hT 0 hvG hbl2 (arr_at (by omega)) zr zr zr zr zr zr zr zr zr (fun l2 hl2 => ?_)
          refine WT.callC hg hgb zr zr zr zr zr zr zr (hcmp G (hF5'.trans hG) l1 l2 _ _ hl1 hl2) (fun v hvz => ?_)
          obtain ⟨z, rfl, hz⟩ := hvz
          (iterate 3 refine ze hT zr zr zr zr zr ?_); refine WT.nil ?_; refine And.intro trivial ?_
          refine AW.cond rfl (fun hc => ?_) (fun hc => ?_)
          · have hlt := (Bool.eq_false_iff.2 (fun hh => absurd (hz.2 hh) (by simpa using hc)) : lt u.2.d[j]! u.2.d[a]! = false)
            refine AW.skip ?_
            refine AW.block ?_
            refine AW.reg ?_; refine ze hT zr zr zr zr zr ?_; refine WT.sub1 zr zr zr zr zr zr (by omega) ?_; refine ze hT zr zr zr zr zr ?_; refine WT.nil ?_
            refine ⟨j - 1, by omega, SubK.of_map rfl, OwnLe.refl _, by omega, by omega, ?_⟩
            rw [← hj3, one true h (by simp [hlt]), if_pos rfl]
          · have hlt := hz.1 (by simpa using hc)
            refine AW.exit ?_
            refine ⟨(), SubK.of_map (by rw [← hj3, one false h (by simp [hlt]), if_neg (by decide)]; rfl), OwnLe.refl _, trivial⟩
        · have h : ¬ i2 ≤ j := by simp at h; omega
          (iterate 12 refine zx zr zr zr zr ?_); refine ze hT zr zr zr zr zr ?_; refine WT.nil ?_; refine And.intro trivial ?_
          refine AW.cond rfl (fun h => (by cases h)) (fun _ => ?_)
          refine AW.exit ?_
          have e : Go.Sort.scanDown (fun x => !lt x u.2.d[a]!) u.2.d i2 j = j := by
            cases j with
            | zero => rfl
            | succ k => rw [Go.Sort.scanDown, if_neg (by simp; omega)]
          refine ⟨(), SubK.of_map (by rw [← hj3, e]; rfl), OwnLe.refl _, trivial⟩
      rw [hj2]
      have hv6 := hv5.mono hF6
      (iterate 2 refine AW.seq ?_); refine AW.reg ?_; (iterate 3 refine ze hT zr zr zr zr zr ?_); refine WT.nil ?_
      refine AW.cond rfl (fun h => ?_) (fun h => ?_)
      · have h : j2 < i2 := by simp at h; omega
        refine AW.exit ?_
        refine ⟨(i2, ⟨j2, u.2.d, u.2.B⟩), SubK.of_map rfl, OwnLe.refl _, hv6, by dsimp only; omega, by dsimp only; omega, ?_⟩
        rw [hloop, if_pos h]
      · have h : ¬ j2 < i2 := by simp at h; omega
        have hlt2 : i2 < j2 := by
          rcases Nat.lt_or_ge i2 j2 with h1 | h1
          · exact h1
          · obtain rfl : i2 = j2 := by omega
            have e1 := w4 (by omega)
            have e2 := x4 (Nat.le_refl _) (by omega)
            rw [e1] at e2
            cases e2
        refine AW.skip ?_; refine AW.seq ?_; refine AW.draw (ps := []) zr zr ?_; (iterate 6 refine ze hT zr zr zr zr zr ?_)
        refine WT.vidx hT hv6 zr zr zr zr zr zr zr zr zr (by omega) (fun bl5 hbl5 => ?_)
        refine WT.vldS hT 0 hv6 hbl5 (arr_at (by omega)) zr zr zr zr zr zr zr zr zr (fun l5 hl5 => ?_)
        (iterate 2 refine ze hT zr zr zr zr zr ?_)
        refine WT.vidx hT hv6 zr zr zr zr zr zr zr zr zr (by omega) (fun bl6 hbl6 => ?_)
        refine WT.vldS hT 0 hv6 hbl6 (arr_at (by omega)) zr zr zr zr zr zr zr zr zr (fun l6 hl6 => ?_)
        refine WT.vidx hT hv6 zr zr zr zr zr zr zr zr zr (by omega) (fun bl7 hbl7 => ?_)
        refine WT.vst (y := u.2.d[j2]!) hT 0 hv6 hbl7 (List.getElem?_eq_getElem (by simp; omega)) zr zr zr zr zr hl5 rfl (fun _ => rfl) rfl (fun Bl7 hBl7 => ?_)
        refine WT.vidx hT hBl7 zr zr zr zr zr zr zr zr zr (by omega) (fun bl8 hbl8 => ?_)
        refine WT.vst (y := u.2.d[i2]!) hT 0 hBl7 hbl8 (List.getElem?_eq_getElem (by simp; omega)) zr zr zr zr zr hl6 rfl (fun _ => rfl) rfl (fun Bl8 hBl8 => ?_)
        rw [← swp_list] at hBl8
        refine WT.nil ?_; refine And.intro trivial ?_; refine AW.seq ?_; refine AW.reg ?_; refine ze hT zr zr zr zr zr ?_; refine WT.add1 zr zr zr zr zr zr (by omega) ?_; refine ze hT zr zr zr zr zr ?_; refine WT.nil ?_; refine AW.reg ?_; refine ze hT zr zr zr zr zr ?_; refine WT.sub1 zr zr zr zr zr zr (by omega) ?_; refine ze hT zr zr zr zr zr ?_; refine WT.nil ?_
        refine ⟨(i2 + 1, ⟨j2 - 1, Go.Sort.swp u.2.d i2 j2, Bl8⟩), by dsimp only; omega, SubK.of_map rfl, OwnLe.refl _, hBl8, by dsimp only; omega, by dsimp only; omega, by dsimp only; omega, ?_⟩
        rw [hloop, if_neg h]
    · obtain ⟨hv3, ha3, hb3, heq3⟩ := hP
      have hsz3 : m = s.2.d.size := hv3.len
      rw [← heq3] at hpart
      refine AW.seq ?_; refine AW.draw (ps := []) zr zr ?_; (iterate 6 refine ze hT zr zr zr zr zr ?_)
      refine WT.vidx hT hv3 zr zr zr zr zr zr zr zr zr (by omega) (fun bl5 hbl5 => ?_)
      refine WT.vldS hT 0 hv3 hbl5 (arr_at (by omega)) zr zr zr zr zr zr zr zr zr (fun l5 hl5 => ?_)
      (iterate 2 refine ze hT zr zr zr zr zr ?_)
      refine WT.vidx hT hv3 zr zr zr zr zr zr zr zr zr (by omega) (fun bl6 hbl6 => ?_)
      refine WT.vldS hT 0 hv3 hbl6 (arr_at (by omega)) zr zr zr zr zr zr zr zr zr (fun l6 hl6 => ?_)
      refine WT.vidx hT hv3 zr zr zr zr zr zr zr zr zr (by omega) (fun bl7 hbl7 => ?_)
      refine WT.vst (y := s.2.d[a]!) hT 0 hv3 hbl7 (List.getElem?_eq_getElem (by simp; omega)) zr zr zr zr zr hl5 rfl (fun _ => rfl) rfl (fun Bl7 hBl7 => ?_)
      refine WT.vidx hT hBl7 zr zr zr zr zr zr zr zr zr (by omega) (fun bl8 hbl8 => ?_)
      refine WT.vst (y := s.2.d[s.2.i]!) hT 0 hBl7 hbl8 (List.getElem?_eq_getElem (by simp; omega)) zr zr zr zr zr hl6 rfl (fun _ => rfl) rfl (fun Bl8 hBl8 => ?_)
      rw [← swp_list] at hBl8
      refine WT.nil ?_; refine And.intro trivial ?_; refine AW.seq ?_; refine AW.reg ?_; (iterate 3 refine ze hT zr zr zr zr zr ?_); refine WT.nil ?_
      refine AW.ret ⟨_, [_], ⟨_, _, rfl, ⟨_, _, rfl, rfl, rfl⟩, rfl⟩, (by repeat (first | exact List.Sublist.refl _ | refine List.Sublist.cons _ ?_)), _, rfl, ?_, ?_⟩
      · rw [hpart]; rfl
      · rw [hpart]; exact hBl8

theorem lrPartEq_spec (F : Frz) {lt : Lr → Lr → Bool} {g : Nat} {first capt : List Value} (hc : CmpOk tLr lt F g first capt) {a0 : Option Addr} {m c : Nat} {B : List (Nat × Blk)} {d : Array Lr} (hv : Vec tLr F a0 m c B d.toList) (a b pivot : Nat) (hp1 : a ≤ pivot) (hp2 : pivot < b) (hb : b ≤ m) (hm : m ≤ 1000000) :
    Abs.Spec CC 174 [.slice a0 m c, .int .i64 a, .int .i64 b, .int .i64 pivot, .func (.func g) ⟨first⟩ ⟨capt⟩] F [B] fun F' v o => ∃ B', o = [B'] ∧ v = .int .i64 ((Go.Sort.partitionEqual lt d a b pivot).1 : Nat) ∧ Vec tLr F' a0 m c B' (Go.Sort.partitionEqual lt d a b pivot).2.toList := by
  obtain ⟨⟨fn, hg, hgb⟩, hcmp⟩ := hc
  have hsz : m = d.size := hv.len
  refine Abs.Spec.fn (n := 90) Tryd.func174 rfl rfl fun own => ?_
  refine AW.seq ?_; refine AW.reg ?_; refine ze hT zr zr zr zr zr ?_; refine WT.nil ?_; refine AW.seq ?_; refine AW.draw (ps := []) zr zr ?_; (iterate 6 refine ze hT zr zr zr zr zr ?_)
  refine WT.vidx hT hv zr zr zr zr zr zr zr zr zr (by omega) (fun bl1 hbl1 => ?_)
  refine WT.vldS hT 0 hv hbl1 (arr_at (by omega)) zr zr zr zr zr zr zr zr zr (fun l1 hl1 => ?_)
  (iterate 2 refine ze hT zr zr zr zr zr ?_)
  refine WT.vidx hT hv zr zr zr zr zr zr zr zr zr (by omega) (fun bl2 hbl2 => ?_)
  refine WT.vldS hT 0 hv hbl2 (arr_at (by omega)) zr zr zr zr zr zr zr zr zr (fun l2 hl2 => ?_)
  refine WT.vidx hT hv zr zr zr zr zr zr zr zr zr (by omega) (fun bl3 hbl3 => ?_)
  refine WT.vst (y := d[pivot]!) hT 0 hv hbl3 (List.getElem?_eq_getElem (by simp; omega)) zr zr zr zr zr hl1 rfl (fun _ => rfl) rfl (fun Bl3 hBl3 => ?_)
  refine WT.vidx hT hBl3 zr zr zr zr zr zr zr zr zr (by omega) (fun bl4 hbl4 => ?_)
  refine WT.vst (y := d[a]!) hT 0 hBl3 hbl4 (List.getElem?_eq_getElem (by simp; omega)) zr zr zr zr zr hl2 rfl (fun _ => rfl) rfl (fun Bl4 hBl4 => ?_)
  rw [← swp_list] at hBl4
  obtain ⟨d1, hd1⟩ : ∃ d1, Go.Sort.swp d a pivot = d1 := ⟨_, rfl⟩
  rw [hd1] at hBl4
  have hpart : Go.Sort.partitionEqual lt d a b pivot = Go.Sort.partEqLoop lt a (a + 1) (b - 1) d1 := by rw [Go.Sort.partitionEqual, hd1]
  refine WT.nil ?_; refine And.intro trivial ?_; refine AW.seq ?_; refine AW.reg ?_; refine ze hT zr zr zr zr zr ?_; refine WT.add1 zr zr zr zr zr zr (by omega) ?_; refine ze hT zr zr zr zr zr ?_; refine WT.sub1 zr zr zr zr zr zr (by omega) ?_; (iterate 2 refine ze hT zr zr zr zr zr ?_); refine WT.nil ?_; refine AW.seq ?_
  refine AW.jnT (S := Nat × VS Lr) (fun s => [(11, .int .i64 (s.1 : Nat)), (12, .int .i64 (s.2.i : Nat))]) (fun s => s.2.B :: own) (fun s G => Vec tLr G a0 m c s.2.B s.2.d.toList ∧ (s.1, s.2.d) = Go.Sort.partEqLoop lt a (a + 1) (b - 1) d1) ?_ (fun s F3 hF3 hP => ?_)
  · refine AW.block ?_
    refine AW.loopR (S := Nat × VS Lr) (fun s => [(11, .int .i64 (s.1 : Nat)), (12, .int .i64 (s.2.i : Nat))]) (fun s => s.2.B :: own) (fun s G => Vec tLr G a0 m c s.2.B s.2.d.toList ∧ a < s.1 ∧ s.1 ≤ s.2.i + 1 ∧ s.2.i < b ∧ Go.Sort.partEqLoop lt a s.1 s.2.i s.2.d = Go.Sort.partEqLoop lt a (a + 1) (b - 1) d1) (fun s => s.2.i + 1 - s.1) (a + 1, ⟨b - 1, d1, Bl4⟩)
      (SubK.of_map rfl) (OwnLe.refl _) ⟨hBl4, by dsimp only; omega, by dsimp only; omega, by dsimp only; omega, rfl⟩ ?_
    intro u F4 hF4 hP4
    obtain ⟨hv4, ha4, hij4, hb4, heq4⟩ := hP4
    have hsz4 : m = u.2.d.size := hv4.len
    obtain ⟨i2, hi2⟩ : ∃ i2, Go.Sort.scanUp (fun x => !lt u.2.d[a]! x) u.2.d u.2.i u.1 = i2 := ⟨_, rfl⟩
    obtain ⟨j2, hj2⟩ : ∃ j2, Go.Sort.scanDown (fun x => lt u.2.d[a]! x) u.2.d i2 u.2.i = j2 := ⟨_, rfl⟩
    obtain ⟨w1, w2, w3, w4⟩ := Go.Sort.scanUp_spec (fun x => !lt u.2.d[a]! x) u.2.d u.2.i _ u.1 rfl
    obtain ⟨x1, x2, x3, x4⟩ := Go.Sort.scanDown_spec (fun x => lt u.2.d[a]! x) u.2.d i2 u.2.i
    rw [hi2] at w1 w2 w4
    rw [hj2] at x1 x2 x4
    have w2 := w2 hij4
    have x2 := x2 (by omega)
    have hloop := Go.Sort.partEqLoop_eq lt a u.1 u.2.i u.2.d
    rw [hi2, hj2, heq4] at hloop
    refine AW.block ?_
    refine AW.seq ?_
    refine AW.jnT (S := Unit) (fun _ => [(11, .int .i64 (Go.Sort.scanUp (fun x => !lt u.2.d[a]! x) u.2.d u.2.i u.1 : Nat))]) (fun _ => (u.2.B :: own)) (fun _ _ => True) ?_ (fun _ F5 hF5 _ => ?_)
    · refine AW.block ?_
      refine AW.loopR (S := Nat) (fun i => [(11, .int .i64 (i : Nat))]) (fun _ => (u.2.B :: own)) (fun i _ => u.1 ≤ i ∧ i ≤ u.2.i + 1 ∧ Go.Sort.scanUp (fun x => !lt u.2.d[a]! x) u.2.d u.2.i i = Go.Sort.scanUp (fun x => !lt u.2.d[a]! x) u.2.d u.2.i u.1) (fun i => u.2.i + 1 - i) u.1 (SubK.of_map rfl) (OwnLe.refl _) ⟨Nat.le_refl _, by omega, rfl⟩ ?_
      intro i G hG hP
      obtain ⟨hi1, hi2, hi3⟩ := hP
      have hvG := hv4.mono hG
      (iterate 2 refine AW.seq ?_); refine AW.draw (ps := []) zr zr ?_; (iterate 4 refine ze hT zr zr zr zr zr ?_)
      refine WT.split 34 rfl (fun h => ?_) (fun h => ?_)
      · have h : i ≤ u.2.i := by simp at h; omega
        (iterate 3 refine ze hT zr zr zr zr zr ?_)
        refine WT.vidx hT hvG zr zr zr zr zr zr zr zr zr (by omega) (fun bl1 hbl1 => ?_)
        refine WT.vldS hT 0 hvG hbl1 (arr_at (by omega)) zr zr zr zr zr zr zr zr zr (fun l1 hl1 => ?_)
        (iterate 2 refine ze hT zr zr zr zr zr ?_)
        refine WT.vidx hT hvG zr zr zr zr zr zr zr zr zr (by omega) (fun bl2 hbl2 => ?_)
        refine WT.vldS hT 0 hvG hbl2 (arr_at (by omega)) zr zr zr zr zr zr zr zr zr (fun l2 hl2 => ?_)
        refine WT.callC hg hgb zr zr zr zr zr zr zr (hcmp G (hF4.trans hG) l1 l2 _ _ hl1 hl2) (fun v hvz => ?_)
        obtain ⟨z, rfl, hz⟩ := hvz
        (iterate 3 refine ze hT zr zr zr zr zr ?_); refine WT.nil ?_; refine And.intro trivial ?_
        refine AW.cond rfl (fun hc => ?_) (fun hc => ?_)
        · have hlt := (Bool.eq_false_iff.2 (fun hh => absurd (hz.2 hh) (by simpa using hc)) : lt u.2.d[a]! u.2.d[i]! = false)
          refine AW.skip ?_
          refine AW.block ?_
          refine AW.reg ?_; refine ze hT zr zr zr zr zr ?_; refine WT.add1 zr zr zr zr zr zr (by omega) ?_; refine ze hT zr zr zr zr zr ?_; refine WT.nil ?_
          refine ⟨i + 1, by omega, SubK.of_map rfl, OwnLe.refl _, by omega, by omega, ?_⟩
          rw [← hi3]
          conv => rhs; rw [Go.Sort.scanUp]
          rw [if_pos (by simp [h, hlt])]
        · have hlt := hz.1 (by simpa using hc)
          refine AW.exit ?_
          refine ⟨(), SubK.of_map (by rw [← hi3, Go.Sort.scanUp, if_neg (by simp [hlt])]; rfl), OwnLe.refl _, trivial⟩
      · have h : ¬ i ≤ u.2.i := by simp at h; omega
        (iterate 12 refine zx zr zr zr zr ?_); refine ze hT zr zr zr zr zr ?_; refine WT.nil ?_; refine And.intro trivial ?_
        refine AW.cond rfl (fun h => (by cases h)) (fun _ => ?_)
        refine AW.exit ?_
        refine ⟨(), SubK.of_map (by rw [← hi3, Go.Sort.scanUp, if_neg (by simp [h])]; rfl), OwnLe.refl _, trivial⟩
    rw [hi2]
    have hv5 := hv4.mono hF5
    have hF5' := hF4.trans hF5
    refine AW.seq ?_
    refine AW.jnT (S := Unit) (fun _ => [(12, .int .i64 (Go.Sort.scanDown (fun x => lt u.2.d[a]! x) u.2.d i2 u.2.i : Nat))]) (fun _ => (u.2.B :: own)) (fun _ _ => True) ?_ (fun _ F6 hF6 _ => ?_)
    · refine AW.block ?_
      refine AW.loopR (S := Nat) (fun j => [(12, .int .i64 (j : Nat))]) (fun _ => (u.2.B :: own)) (fun j _ => j ≤ u.2.i ∧ i2 ≤ j + 1 ∧ Go.Sort.scanDown (fun x => lt u.2.d[a]! x) u.2.d i2 j = Go.Sort.scanDown (fun x => lt u.2.d[a]! x) u.2.d i2 u.2.i) (fun j => j) u.2.i (SubK.of_map rfl) (OwnLe.refl _) ⟨Nat.le_refl _, by omega, rfl⟩ ?_
      intro j G hG hP
      obtain ⟨hj1, hj2, hj3⟩ := hP
      have hvG := hv5.mono hG
      have one : ∀ q, i2 ≤ j → (fun x => lt u.2.d[a]! x) u.2.d[j]! = q → Go.Sort.scanDown (fun x => lt u.2.d[a]! x) u.2.d i2 j = if q = true then Go.Sort.scanDown (fun x => lt u.2.d[a]! x) u.2.d i2 (j - 1) else j := by
        intro q h1 h2
        cases j with
        | zero => omega
        | succ k =>
          rw [Go.Sort.scanDown, Nat.add_sub_cancel]
          subst h2
          simp [h1]
      (iterate 2 refine AW.seq ?_); refine AW.draw (ps := []) zr zr ?_; (iterate 4 refine ze hT zr zr zr zr zr ?_)
      refine WT.split 53 rfl (fun h => ?_) (fun h => ?_)
      · have h : i2 ≤ j := by simp at h; omega
        (iterate 3 refine ze hT zr zr zr zr zr ?_)
        refine WT.vidx hT hvG zr zr zr zr zr zr zr zr zr (by omega) (fun bl1 hbl1 => ?_)
        refine WT.vldS hT 0 hvG hbl1 (arr_at (by omega)) zr zr zr zr zr zr zr zr zr (fun l1 hl1 => ?_)
        (iterate 2 refine ze hT zr zr zr zr zr ?_)
        refine WT.vidx hT hvG zr zr zr zr zr zr zr zr zr (by omega) (fun bl2 hbl2 => ?_)
        refine WT.vldS hT 0 hvG hbl2 (arr_at (by omega)) zr zr zr zr zr zr zr zr zr (fun l2 hl2 => ?_)
        refine WT.callC hg hgb zr zr zr zr zr zr zr (hcmp G (hF5'.trans hG) l1 l2 _ _ hl1 hl2) (fun v hvz => ?_)
        obtain ⟨z, rfl, hz⟩ := hvz
        (iterate 2 refine ze hT zr zr zr zr zr ?_); refine WT.nil ?_; refine And.intro trivial ?_
        refine AW.cond rfl (fun hc => ?_) (fun hc => ?_)
        · have hlt := hz.1 (by simpa using hc)
          refine AW.skip ?_
          refine AW.block ?_
          refine AW.reg ?_; refine ze hT zr zr zr zr zr ?_; refine WT.sub1 zr zr zr zr zr zr (by omega) ?_; refine ze hT zr zr zr zr zr ?_; refine WT.nil ?_
          refine ⟨j - 1, by omega, SubK.of_map rfl, OwnLe.refl _, by omega, by omega, ?_⟩
          rw [← hj3, one true h (by simp [hlt]), if_pos rfl]
        · have hlt := (Bool.eq_false_iff.2 (fun hh => absurd (hz.2 hh) (by simpa using hc)) : lt u.2.d[a]! u.2.d[j]! = false)
          refine AW.exit ?_
          refine ⟨(), SubK.of_map (by rw [← hj3, one false h (by simp [hlt]), if_neg (by decide)]; rfl), OwnLe.refl _, trivial⟩
      · have h : ¬ i2 ≤ j := by simp at h; omega
        (iterate 11 refine zx zr zr zr zr ?_); refine ze hT zr zr zr zr zr ?_; refine WT.nil ?_; refine And.intro trivial ?_
        refine AW.cond rfl (fun h => (by cases h)) (fun _ => ?_)
        refine AW.exit ?_
        have e : Go.Sort.scanDown (fun x => lt u.2.d[a]! x) u.2.d i2 j = j := by
          cases j with
          | zero => rfl
          | succ k => rw [Go.Sort.scanDown, if_neg (by simp; omega)]
        refine ⟨(), SubK.of_map (by rw [← hj3, e]; rfl), OwnLe.refl _, trivial⟩
    rw [hj2]
    have hv6 := hv5.mono hF6
    (iterate 2 refine AW.seq ?_); refine AW.reg ?_; (iterate 3 refine ze hT zr zr zr zr zr ?_); refine WT.nil ?_
    refine AW.cond rfl (fun h => ?_) (fun h => ?_)
    · have h : j2 < i2 := by simp at h; omega
      refine AW.exit ?_
      refine ⟨(i2, ⟨j2, u.2.d, u.2.B⟩), SubK.of_map rfl, OwnLe.refl _, hv6, ?_⟩
      rw [hloop, if_pos h]
    · have h : ¬ j2 < i2 := by simp at h; omega
      have hlt2 : i2 < j2 := by
        rcases Nat.lt_or_ge i2 j2 with h1 | h1
        · exact h1
        · obtain rfl : i2 = j2 := by omega
          have e1 := w4 (by omega)
          have e2 := x4 (Nat.le_refl _) (by omega)
          rw [e2] at e1
          cases e1
      refine AW.skip ?_; refine AW.seq ?_; refine AW.draw (ps := []) zr zr ?_; (iterate 6 refine ze hT zr zr zr zr zr ?_)
      refine WT.vidx hT hv6 zr zr zr zr zr zr zr zr zr (by omega) (fun bl5 hbl5 => ?_)
      refine WT.vldS hT 0 hv6 hbl5 (arr_at (by omega)) zr zr zr zr zr zr zr zr zr (fun l5 hl5 => ?_)
      (iterate 2 refine ze hT zr zr zr zr zr ?_)
      refine WT.vidx hT hv6 zr zr zr zr zr zr zr zr zr (by omega) (fun bl6 hbl6 => ?_)
      refine WT.vldS hT 0 hv6 hbl6 (arr_at (by omega)) zr zr zr zr zr zr zr zr zr (fun l6 hl6 => ?_)
      refine WT.vidx hT hv6 zr zr zr zr zr zr zr zr zr (by omega) (fun bl7 hbl7 => ?_)
      refine WT.vst (y := u.2.d[j2]!) hT 0 hv6 hbl7 (List.getElem?_eq_getElem (by simp; omega)) zr zr zr zr zr hl5 rfl (fun _ => rfl) rfl (fun Bl7 hBl7 => ?_)
      refine WT.vidx hT hBl7 zr zr zr zr zr zr zr zr zr (by omega) (fun bl8 hbl8 => ?_)
      refine WT.vst (y := u.2.d[i2]!) hT 0 hBl7 hbl8 (List.getElem?_eq_getElem (by simp; omega)) zr zr zr zr zr hl6 rfl (fun _ => rfl) rfl (fun Bl8 hBl8 => ?_)
      rw [← swp_list] at hBl8
      refine WT.nil ?_; refine And.intro trivial ?_; refine AW.seq ?_; refine AW.reg ?_; refine ze hT zr zr zr zr zr ?_; refine WT.add1 zr zr zr zr zr zr (by omega) ?_; refine ze hT zr zr zr zr zr ?_; refine WT.nil ?_; refine AW.reg ?_; refine ze hT zr zr zr zr zr ?_; refine WT.sub1 zr zr zr zr zr zr (by omega) ?_; refine ze hT zr zr zr zr zr ?_; refine WT.nil ?_
      refine ⟨(i2 + 1, ⟨j2 - 1, Go.Sort.swp u.2.d i2 j2, Bl8⟩), by dsimp only; omega, SubK.of_map rfl, OwnLe.refl _, hBl8, by dsimp only; omega, by dsimp only; omega, by dsimp only; omega, ?_⟩
      rw [hloop, if_neg h]
  · obtain ⟨hv3, heq3⟩ := hP
    refine AW.seq ?_; refine AW.reg ?_; (iterate 2 refine ze hT zr zr zr zr zr ?_); refine WT.nil ?_
    refine AW.ret ⟨_, [_], ⟨_, _, rfl, rfl, rfl⟩, (by repeat (first | exact List.Sublist.refl _ | refine List.Sublist.cons _ ?_)), _, rfl, ?_, ?_⟩
    · rw [hpart, ← heq3]; rfl
    · rw [hpart, ← heq3]; exact hv3

theorem lrOrder2_spec (F : Frz) {lt : Lr → Lr → Bool} {g : Nat} {first capt : List Value} (hc : CmpOk tLr lt F g first capt) {a0 : Option Addr} {m c : Nat} {d : Array Lr} (hv : Arr tLr F a0 m c d.toList) (a b : Nat) (ha : a < m) (hb : b < m) (hm : m ≤ 1000000) {ip sw : Nat} (hsw : sw ≤ 1000) :
    Abs.Spec CC 200 [.slice a0 m c, .int .i64 a, .int .i64 b, .pointer (some ⟨ip, 0, none⟩), .func (.func g) ⟨first⟩ ⟨capt⟩] F [[(ip, .cells false [.int .i64 sw])]] fun F' v o => ∃ B', o = [B'] ∧ v = .tuple ⟨[.int .i64 ((Go.Sort.order2 lt d a b sw).1 : Nat), .int .i64 ((Go.Sort.order2 lt d a b sw).2.1 : Nat)]⟩ ∧ B' = [(ip, .cells false [.int .i64 ((Go.Sort.order2 lt d a b sw).2.2 : Nat)])] := by
  obtain ⟨⟨fn, hg, hgb⟩, hcmp⟩ := hc
  have hsz : m = d.size := hv.len
  refine Abs.Spec.fn (n := 32) Tryd.func200 rfl rfl fun own => ?_
  refine AW.seq ?_; refine AW.reg ?_; (iterate 2 refine ze hT zr zr zr zr zr ?_); refine WT.nil ?_; (iterate 2 refine AW.seq ?_); refine AW.draw (ps := []) zr zr ?_; (iterate 3 refine ze hT zr zr zr zr zr ?_)
  refine WT.idxL hT hv zr zr zr zr zr zr zr zr zr (by simp; omega) (fun x1 hx1 b1 off1 ro1 cs1 l1 hb1 hp1 hl1 => ?_)
  obtain rfl : x1 = d[b]! := by rw [arr_at (by omega)] at hx1; exact (Option.some.inj hx1).symm
  refine WT.loadS hT hb1 hp1 zr zr zr zr zr zr zr zr ?_
  (iterate 2 refine ze hT zr zr zr zr zr ?_)
  refine WT.idxL hT hv zr zr zr zr zr zr zr zr zr (by simp; omega) (fun x2 hx2 b2 off2 ro2 cs2 l2 hb2 hp2 hl2 => ?_)
  obtain rfl : x2 = d[a]! := by rw [arr_at (by omega)] at hx2; exact (Option.some.inj hx2).symm
  refine WT.loadS hT hb2 hp2 zr zr zr zr zr zr zr zr ?_
  refine WT.callC hg hgb zr zr zr zr zr zr zr (hcmp F (Frz.le.refl F) l1 l2 _ _ hl1 hl2) (fun v hvz => ?_)
  obtain ⟨z, rfl, hz⟩ := hvz
  refine ze hT zr zr zr zr zr ?_; refine WT.nil ?_; refine And.intro trivial ?_
  refine AW.cond rfl (fun hc => ?_) (fun hc => ?_)
  · have hlt := hz.1 (by simpa using hc)
    have e : Go.Sort.order2 lt d a b sw = (b, a, sw + 1) := by rw [Go.Sort.order2, if_pos hlt]
    refine AW.seq ?_; refine AW.reg ?_; (iterate 2 refine ze hT zr zr zr zr zr ?_); refine zl hT 0 zr zr zr zr zr zr me zr ?_; refine WT.add1 zr zr zr zr zr zr (by omega) ?_; refine ze hT zr zr zr zr zr ?_; refine zs hT 0 0 zr zr zr zr zr zr zr zr zr zr zr zr ?_; refine WT.nil ?_; refine AW.seq ?_; refine AW.reg ?_; (iterate 4 refine ze hT zr zr zr zr zr ?_); refine WT.nil ?_
    exact AW.ret ⟨_, [_], ⟨_, _, rfl, ⟨_, _, rfl, rfl, rfl⟩, rfl⟩, (by repeat (first | exact List.Sublist.refl _ | refine List.Sublist.cons _ ?_)), _, rfl, (by rw [e]; first | done | rfl), (by rw [e]; first | done | rfl)⟩
  · have hlt : lt d[b]! d[a]! = false := Bool.eq_false_iff.2 (fun hh => absurd (hz.2 hh) (by simpa using hc))
    have e : Go.Sort.order2 lt d a b sw = (a, b, sw) := by rw [Go.Sort.order2, if_neg (by rw [hlt]; decide)]
    refine AW.skip ?_; refine AW.seq ?_; refine AW.reg ?_; (iterate 4 refine ze hT zr zr zr zr zr ?_); refine WT.nil ?_
    exact AW.ret ⟨_, [_], ⟨_, _, rfl, ⟨_, _, rfl, rfl, rfl⟩, rfl⟩, (by repeat (first | exact List.Sublist.refl _ | refine List.Sublist.cons _ ?_)), _, rfl, (by rw [e]; first | done | rfl), (by rw [e]; first | done | rfl)⟩

theorem lrMedian_spec (F : Frz) {lt : Lr → Lr → Bool} {g : Nat} {first capt : List Value} (hc : CmpOk tLr lt F g first capt) {a0 : Option Addr} {m c0 : Nat} {d : Array Lr} (hv : Arr tLr F a0 m c0 d.toList) (a b c : Nat) (ha : a < m) (hb : b < m) (hcm : c < m) (hm : m ≤ 1000000) {ip sw : Nat} (hsw : sw ≤ 900) :
    Abs.Spec CC 190 [.slice a0 m c0, .int .i64 a, .int .i64 b, .int .i64 c, .pointer (some ⟨ip, 0, none⟩), .func (.func g) ⟨first⟩ ⟨capt⟩] F [[(ip, .cells false [.int .i64 sw])]] fun F' v o => ∃ B', o = [B'] ∧ v = .int .i64 ((Go.Sort.median lt d a b c sw).1 : Nat) ∧ B' = [(ip, .cells false [.int .i64 ((Go.Sort.median lt d a b c sw).2 : Nat)])] := by
  obtain ⟨r1, hr1⟩ : ∃ r, Go.Sort.order2 lt d a b sw = r := ⟨_, rfl⟩
  obtain ⟨r2, hr2⟩ : ∃ r, Go.Sort.order2 lt d r1.2.1 c r1.2.2 = r := ⟨_, rfl⟩
  obtain ⟨r3, hr3⟩ : ∃ r, Go.Sort.order2 lt d r1.1 r2.1 r2.2.2 = r := ⟨_, rfl⟩
  have hmed : Go.Sort.median lt d a b c sw = (r3.2.1, r3.2.2) := by simp only [Go.Sort.median, hr1, hr2, hr3]
  have m1 := Go.Sort.order2_mem lt d a b sw
  have m2 := Go.Sort.order2_mem lt d r1.2.1 c r1.2.2
  have n1 := Go.Sort.order2_count lt d a b sw
  have n2 := Go.Sort.order2_count lt d r1.2.1 c r1.2.2
  rw [hr1] at m1 n1
  rw [hr2] at m2 n2
  have b1 : r1.1 < m ∧ r1.2.1 < m := by omega
  have b2 : r2.1 < m ∧ r2.2.1 < m := by omega
  refine Abs.Spec.fn (n := 41) Tryd.func190 rfl rfl fun own => ?_
  refine AW.seq ?_; refine AW.reg ?_; refine ze hT zr zr zr zr zr ?_; refine WT.nil ?_; refine AW.seq ?_; refine AW.reg ?_; (iterate 5 refine ze hT zr zr zr zr zr ?_)
  refine WT.call1F 0 Tryd.func200 zr zr zr zr zr zr zr (fun _ => rfl) (lrOrder2_spec _ hc hv a b ha hb hm (by omega)) (fun F1 v B1 hF1 hv1 => ?_)
  obtain ⟨rfl, rfl⟩ := hv1
  rw [hr1]
  (iterate 5 refine ze hT zr zr zr zr zr ?_); refine WT.nil ?_; refine AW.seq ?_; refine AW.reg ?_; (iterate 5 refine ze hT zr zr zr zr zr ?_)
  refine WT.call1F 0 Tryd.func200 zr zr zr zr zr zr zr (fun _ => rfl) (lrOrder2_spec _ (hc.mono hF1) (hv.mono hF1) r1.2.1 c b1.2 hcm hm (sw := r1.2.2) (by omega)) (fun F2 v B2 hF2 hv2 => ?_)
  obtain ⟨rfl, rfl⟩ := hv2
  rw [hr2]
  (iterate 5 refine ze hT zr zr zr zr zr ?_); refine WT.nil ?_; refine AW.seq ?_; refine AW.reg ?_; (iterate 5 refine ze hT zr zr zr zr zr ?_)
  refine WT.call1F 0 Tryd.func200 zr zr zr zr zr zr zr (fun _ => rfl) (lrOrder2_spec _ ((hc.mono hF1).mono hF2) ((hv.mono hF1).mono hF2) r1.1 r2.1 b1.1 b2.1 hm (sw := r2.2.2) (by omega)) (fun F3 v B3 hF3 hv3 => ?_)
  obtain ⟨rfl, rfl⟩ := hv3
  rw [hr3]
  (iterate 5 refine ze hT zr zr zr zr zr ?_); refine WT.nil ?_; refine AW.seq ?_; refine AW.reg ?_; (iterate 2 refine ze hT zr zr zr zr zr ?_); refine WT.nil ?_
  exact AW.ret ⟨_, [_], ⟨_, _, rfl, rfl, rfl⟩, (by repeat (first | exact List.Sublist.refl _ | refine List.Sublist.cons _ ?_)), _, rfl, (by rw [hmed]; first | done | rfl), (by rw [hmed])⟩

theorem lrMedAdj_spec (F : Frz) {lt : Lr → Lr → Bool} {g : Nat} {first capt : List Value} (hc : CmpOk tLr lt F g first capt) {a0 : Option Addr} {m c0 : Nat} {d : Array Lr} (hv : Arr tLr F a0 m c0 d.toList) (a : Nat) (ha : 1 ≤ a) (hb : a + 1 < m) (hm : m ≤ 1000000) {ip sw : Nat} (hsw : sw ≤ 900) :
    Abs.Spec CC 189 [.slice a0 m c0, .int .i64 a, .pointer (some ⟨ip, 0, none⟩), .func (.func g) ⟨first⟩ ⟨capt⟩] F [[(ip, .cells false [.int .i64 sw])]] fun F' v o => ∃ B', o = [B'] ∧ v = .int .i64 ((Go.Sort.medianAdjacent lt d a sw).1 : Nat) ∧ B' = [(ip, .cells false [.int .i64 ((Go.Sort.medianAdjacent lt d a sw).2 : Nat)])] := by
  refine Abs.Spec.fn (n := 18) Tryd.func189 rfl rfl fun own => ?_
  refine AW.seq ?_; refine AW.reg ?_; refine ze hT zr zr zr zr zr ?_; refine WT.nil ?_; refine AW.seq ?_; refine AW.reg ?_; (iterate 2 refine ze hT zr zr zr zr zr ?_); refine WT.sub1 zr zr zr zr zr zr (by omega) ?_; (iterate 2 refine ze hT zr zr zr zr zr ?_); refine WT.add1 zr zr zr zr zr zr (by omega) ?_; (iterate 2 refine ze hT zr zr zr zr zr ?_)
  refine WT.call1F 0 Tryd.func190 zr zr zr zr zr zr zr (fun _ => rfl) (lrMedian_spec _ hc hv (a - 1) a (a + 1) (by omega) (by omega) (by omega) hm hsw) (fun F1 v B1 hF1 hv1 => ?_)
  obtain ⟨rfl, rfl⟩ := hv1
  refine ze hT zr zr zr zr zr ?_; refine WT.nil ?_
  exact AW.ret ⟨_, [_], ⟨_, _, rfl, rfl, rfl⟩, (by repeat (first | exact List.Sublist.refl _ | refine List.Sublist.cons _ ?_)), _, rfl, rfl, rfl⟩

theorem lrPivot_spec (F : Frz) {lt : Lr → Lr → Bool} {g : Nat} {first capt : List Value} (hc : CmpOk tLr lt F g first capt) {a0 : Option Addr} {m c0 : Nat} {d : Array Lr} (hv : Arr tLr F a0 m c0 d.toList) (a b : Nat) (hab : a + 13 ≤ b) (hb : b ≤ m) (hm : m ≤ 1000000) :
    Abs.Spec CC 171 [.slice a0 m c0, .int .i64 a, .int .i64 b, .func (.func g) ⟨first⟩ ⟨capt⟩] F [] fun F' v o => o = [] ∧ v = .tuple ⟨[.int .i64 ((Go.Sort.choosePivot lt d a b).1 : Nat), .int .i64 (Go.Sort.hintCode (Go.Sort.choosePivot lt d a b).2)]⟩ := by
  have hd4 : (b - a) / 4 * 4 ≤ b - a := Nat.div_mul_le_self _ _
  have hd3 : 3 ≤ (b - a) / 4 := by omega
  obtain ⟨e, he⟩ : ∃ e, (b - a) / 4 = e := ⟨_, rfl⟩
  rw [he] at hd4 hd3
  refine Abs.Spec.fn (n := 63) Tryd.func171 rfl rfl fun own => ?_
  refine AW.seq ?_; refine AW.reg ?_; (iterate 2 refine ze hT zr zr zr zr zr ?_); refine WT.nil ?_; refine AW.seq ?_; refine AW.reg ?_; (iterate 2 refine ze hT zr zr zr zr zr ?_); refine WT.subN zr zr zr zr zr zr (by omega) ?_; refine ze hT zr zr zr zr zr ?_; refine WT.nil ?_; refine AW.seq ?_; refine AW.reg ?_
  refine WT.allocT hT zr zr zr zr zr zr (fun i11 hi11 => ?_)
  refine WT.nil ?_; refine AW.seq ?_; refine AW.reg ?_; (iterate 2 refine ze hT zr zr zr zr zr ?_)
  refine WT.quoL 4 zr zr zr zr zr zr (by decide) (by omega) ?_
  refine WT.mulL 1 zr zr zr zr zr zr (by omega) ?_
  rw [he]
  refine WT.addN zr zr zr zr zr zr (by omega) ?_; refine ze hT zr zr zr zr zr ?_; refine WT.nil ?_; refine AW.seq ?_; refine AW.reg ?_; (iterate 2 refine ze hT zr zr zr zr zr ?_)
  refine WT.quoL 4 zr zr zr zr zr zr (by decide) (by omega) ?_
  refine WT.mulL 2 zr zr zr zr zr zr (by omega) ?_
  rw [he]
  refine WT.addN zr zr zr zr zr zr (by omega) ?_; refine ze hT zr zr zr zr zr ?_; refine WT.nil ?_; refine AW.seq ?_; refine AW.reg ?_; (iterate 2 refine ze hT zr zr zr zr zr ?_)
  refine WT.quoL 4 zr zr zr zr zr zr (by decide) (by omega) ?_
  refine WT.mulL 3 zr zr zr zr zr zr (by omega) ?_
  rw [he]
  refine WT.addN zr zr zr zr zr zr (by omega) ?_; refine ze hT zr zr zr zr zr ?_; refine WT.nil ?_; (iterate 2 refine AW.seq ?_); refine AW.reg ?_; (iterate 2 refine ze hT zr zr zr zr zr ?_); refine WT.nil ?_
  refine AW.cond rfl (fun _ => ?_) (fun h => (by simp at h; omega))
  refine AW.jn (S := Nat × Nat × Nat × Nat) (fun s => [(12, .int .i64 (s.1 : Nat)), (13, .int .i64 (s.2.1 : Nat)), (14, .int .i64 (s.2.2.1 : Nat))]) (fun s => [(i11, .cells false [.int .i64 (s.2.2.2 : Nat)])] :: own) (fun s _ => s.1 < m ∧ s.2.1 < m ∧ s.2.2.1 < m ∧ s.2.2.2 ≤ 9 ∧ Go.Sort.rawPivot lt d a b = Go.Sort.median lt d s.1 s.2.1 s.2.2.1 s.2.2.2) ?_ (fun s F5 hF5 hP => ?_)
  · refine AW.seq ?_; refine AW.reg ?_; (iterate 2 refine ze hT zr zr zr zr zr ?_); refine WT.nil ?_
    refine AW.cond rfl (fun h => ?_) (fun h => ?_)
    · have h : 50 ≤ b - a := by simp at h; omega
      have h12 : 12 ≤ e := by omega
      obtain ⟨r1, hr1⟩ : ∃ r, Go.Sort.medianAdjacent lt d (a + e * 1) 0 = r := ⟨_, rfl⟩
      obtain ⟨r2, hr2⟩ : ∃ r, Go.Sort.medianAdjacent lt d (a + e * 2) r1.2 = r := ⟨_, rfl⟩
      obtain ⟨r3, hr3⟩ : ∃ r, Go.Sort.medianAdjacent lt d (a + e * 3) r2.2 = r := ⟨_, rfl⟩
      have m1 := Go.Sort.medianAdjacent_mem lt d (a + e * 1) 0
      have m2 := Go.Sort.medianAdjacent_mem lt d (a + e * 2) r1.2
      have m3 := Go.Sort.medianAdjacent_mem lt d (a + e * 3) r2.2
      have n1 := Go.Sort.medianAdjacent_count lt d (a + e * 1) 0
      have n2 := Go.Sort.medianAdjacent_count lt d (a + e * 2) r1.2
      have n3 := Go.Sort.medianAdjacent_count lt d (a + e * 3) r2.2
      rw [hr1] at m1 n1
      rw [hr2] at m2 n2
      rw [hr3] at m3 n3
      refine AW.seq ?_; refine AW.reg ?_; (iterate 3 refine ze hT zr zr zr zr zr ?_)
      refine WT.call1F 0 Tryd.func189 zr zr zr zr zr zr zr (fun _ => rfl) (lrMedAdj_spec _ hc hv (a + e * 1) (by omega) (by omega) hm (sw := 0) (by omega)) (fun F1 v B1 hF1 hv1 => ?_)
      obtain ⟨rfl, rfl⟩ := hv1
      rw [hr1]
      refine ze hT zr zr zr zr zr ?_; refine WT.nil ?_; refine AW.seq ?_; refine AW.reg ?_; (iterate 3 refine ze hT zr zr zr zr zr ?_)
      refine WT.call1F 0 Tryd.func189 zr zr zr zr zr zr zr (fun _ => rfl) (lrMedAdj_spec _ (hc.mono hF1) (hv.mono hF1) (a + e * 2) (by omega) (by omega) hm (sw := r1.2) (by omega)) (fun F2 v B2 hF2 hv2 => ?_)
      obtain ⟨rfl, rfl⟩ := hv2
      rw [hr2]
      refine ze hT zr zr zr zr zr ?_; refine WT.nil ?_; refine AW.reg ?_; (iterate 3 refine ze hT zr zr zr zr zr ?_)
      refine WT.call1F 0 Tryd.func189 zr zr zr zr zr zr zr (fun _ => rfl) (lrMedAdj_spec _ ((hc.mono hF1).mono hF2) ((hv.mono hF1).mono hF2) (a + e * 3) (by omega) (by omega) hm (sw := r2.2) (by omega)) (fun F3 v B3 hF3 hv3 => ?_)
      obtain ⟨rfl, rfl⟩ := hv3
      rw [hr3]
      refine ze hT zr zr zr zr zr ?_; refine WT.nil ?_
      refine ⟨(r1.1, r2.1, r3.1, r3.2), SubK.of_map rfl, OwnLe.refl _, by dsimp only; omega, by dsimp only; omega, by dsimp only; omega, by dsimp only; omega, ?_⟩
      rw [Go.Sort.rawPivot, if_pos (by omega), if_pos h, he, hr1, hr2, hr3]
    · have h : ¬ 50 ≤ b - a := by simp at h; omega
      refine AW.skip ?_
      refine ⟨(a + e * 1, a + e * 2, a + e * 3, 0), SubK.of_map rfl, OwnLe.refl _, by dsimp only; omega, by dsimp only; omega, by dsimp only; omega, by dsimp only; omega, ?_⟩
      rw [Go.Sort.rawPivot, if_pos (by omega), if_neg (by omega), he]
  · obtain ⟨q1, q2, q3, q4, q5⟩ := hP
    obtain ⟨r, hr⟩ : ∃ r, Go.Sort.median lt d s.1 s.2.1 s.2.2.1 s.2.2.2 = r := ⟨_, rfl⟩
    have n1 := Go.Sort.median_count lt d s.1 s.2.1 s.2.2.1 s.2.2.2
    rw [hr] at n1 q5
    have hch : Go.Sort.choosePivot lt d a b = (r.1, Go.Sort.hintOf r.2) := by rw [Go.Sort.choosePivot_eq, q5]
    refine AW.reg ?_; (iterate 5 refine ze hT zr zr zr zr zr ?_)
    refine WT.call1F 0 Tryd.func190 zr zr zr zr zr zr zr (fun _ => rfl) (lrMedian_spec _ (hc.mono hF5) (hv.mono hF5) s.1 s.2.1 s.2.2.1 q1 q2 q3 hm (sw := s.2.2.2) (by omega)) (fun F6 v B6 hF6 hv6 => ?_)
    obtain ⟨rfl, rfl⟩ := hv6
    rw [hr]
    refine ze hT zr zr zr zr zr ?_; refine WT.nil ?_; refine AW.seq ?_; refine AW.reg ?_; refine zl hT 0 zr zr zr zr zr zr me zr ?_; refine WT.nil ?_
    refine AW.block ?_
    refine AW.seq ?_; refine AW.reg ?_; (iterate 2 refine ze hT zr zr zr zr zr ?_); refine WT.nil ?_
    refine AW.cond rfl (fun h => ?_) (fun h => ?_)
    · have h : r.2 = 0 := by simp at h; omega
      refine AW.seq ?_; refine AW.reg ?_; (iterate 3 refine ze hT zr zr zr zr zr ?_); refine WT.nil ?_
      refine AW.ret ⟨_, [], ⟨_, _, rfl, ⟨_, _, rfl, rfl, rfl⟩, rfl⟩, (by repeat (first | exact List.Sublist.refl _ | refine List.Sublist.cons _ ?_)), rfl, ?_⟩
      rw [hch, h]; rfl
    · have h : r.2 ≠ 0 := by simp at h; omega
      refine AW.seq ?_; refine AW.reg ?_; (iterate 2 refine ze hT zr zr zr zr zr ?_); refine WT.nil ?_
      refine AW.cond rfl (fun h2 => ?_) (fun h2 => ?_)
      · have h2 : r.2 = 12 := by simp at h2; omega
        refine AW.seq ?_; refine AW.reg ?_; (iterate 3 refine ze hT zr zr zr zr zr ?_); refine WT.nil ?_
        refine AW.ret ⟨_, [], ⟨_, _, rfl, ⟨_, _, rfl, rfl, rfl⟩, rfl⟩, (by repeat (first | exact List.Sublist.refl _ | refine List.Sublist.cons _ ?_)), rfl, ?_⟩
        rw [hch, h2]; rfl
      · have h2 : r.2 ≠ 12 := by simp at h2; omega
        refine AW.seq ?_; refine AW.reg ?_; (iterate 3 refine ze hT zr zr zr zr zr ?_); refine WT.nil ?_
        refine AW.ret ⟨_, [], ⟨_, _, rfl, ⟨_, _, rfl, rfl, rfl⟩, rfl⟩, (by repeat (first | exact List.Sublist.refl _ | refine List.Sublist.cons _ ?_)), rfl, ?_⟩
        rw [hch, show Go.Sort.hintOf r.2 = .unknown by rw [Go.Sort.hintOf, if_neg h, if_neg h2]]; rfl

theorem lrPIns_spec (F : Frz) {lt : Lr → Lr → Bool} {g : Nat} {first capt : List Value} (hc : CmpOk tLr lt F g first capt) {a0 : Option Addr} {m c : Nat} {B : List (Nat × Blk)} {d : Array Lr} (hv : Vec tLr F a0 m c B d.toList) (a b : Nat) (hab : a < b) (hb : b ≤ m) (hm : m ≤ 1000000) :
    Abs.Spec CC 173 [.slice a0 m c, .int .i64 a, .int .i64 b, .func (.func g) ⟨first⟩ ⟨capt⟩] F [B] fun F' v o => ∃ B', o = [B'] ∧ v = .bool (Go.Sort.partialInsertionSort lt d a b).2 ∧ Vec tLr F' a0 m c B' (Go.Sort.partialInsertionSort lt d a b).1.toList := by
  obtain ⟨⟨fn, hg, hgb⟩, hcmp⟩ := hc
  refine Abs.Spec.fn (n := 141) Tryd.func173 rfl rfl fun own => ?_
  refine AW.seq ?_; refine AW.reg ?_; refine ze hT zr zr zr zr zr ?_; refine WT.nil ?_; refine AW.seq ?_; refine AW.reg ?_; refine ze hT zr zr zr zr zr ?_; refine WT.add1 zr zr zr zr zr zr (by omega) ?_; refine ze hT zr zr zr zr zr ?_; refine WT.nil ?_; (iterate 2 refine AW.seq ?_); refine AW.reg ?_; refine ze hT zr zr zr zr zr ?_; refine WT.nil ?_
  refine AW.block ?_
  refine AW.loopR (S := Nat × VS Lr) (fun s => [(10, .int .i64 (s.1 : Nat)), (9, .int .i64 (s.2.i : Nat))]) (fun s => s.2.B :: own) (fun s G => Vec tLr G a0 m c s.2.B s.2.d.toList ∧ s.1 ≤ 5 ∧ a + 1 ≤ s.2.i ∧ s.2.i ≤ b ∧ Go.Sort.partialIns lt a b (5 - s.1) s.2.i s.2.d = Go.Sort.partialInsertionSort lt d a b) (fun s => 5 - s.1) (0, ⟨a + 1, d, B⟩)
    (SubK.of_map rfl) (OwnLe.refl _) ⟨hv, Nat.zero_le _, Nat.le_refl _, hab, rfl⟩ ?_
  intro u F1 hF1 hP
  obtain ⟨hv1, hk, hi1, hi2, heq⟩ := hP
  (iterate 2 refine AW.seq ?_); refine AW.reg ?_; (iterate 2 refine ze hT zr zr zr zr zr ?_); refine WT.nil ?_
  refine AW.cond rfl (fun h => ?_) (fun h => ?_)
  · have h : u.1 < 5 := by simp at h; omega
    obtain ⟨i2, hsc⟩ : ∃ i2, Go.Sort.scanSorted lt u.2.d b u.2.i = i2 := ⟨_, rfl⟩
    rw [show 5 - u.1 = (5 - (u.1 + 1)) + 1 by omega, Go.Sort.partialIns_succ, hsc] at heq
    refine AW.skip ?_
    refine AW.seq ?_
    refine AW.block ?_
    refine AW.jn (S := Unit) (fun _ => [(9, .int .i64 (i2 : Nat))]) (fun _ => u.2.B :: own) (fun _ _ => u.2.i ≤ i2 ∧ i2 ≤ b) ?_ (fun _ F2 hF2 hi2' => ?_)
    · refine AW.block ?_
      refine AW.loopR (S := Nat) (fun i => [(9, .int .i64 (i : Nat))]) (fun _ => u.2.B :: own) (fun i _ => u.2.i ≤ i ∧ i ≤ b ∧ Go.Sort.scanSorted lt u.2.d b i = i2) (fun i => b - i) u.2.i (SubK.of_map rfl) (OwnLe.refl _) ⟨Nat.le_refl _, hi2, hsc⟩ ?_
      intro i G hG hP
      obtain ⟨j1, j2, j3⟩ := hP
      have hvG := hv1.mono hG
      have hsz : m = u.2.d.size := hv1.len
      (iterate 2 refine AW.seq ?_); refine AW.draw (ps := []) zr zr ?_; (iterate 4 refine ze hT zr zr zr zr zr ?_)
      refine WT.split 22 rfl (fun h => ?_) (fun h => ?_)
      · have h : i < b := by simp at h; omega
        (iterate 3 refine ze hT zr zr zr zr zr ?_)
        refine WT.vidx hT hvG zr zr zr zr zr zr zr zr zr (by omega) (fun bl1 hbl1 => ?_)
        refine WT.vldS hT 0 hvG hbl1 (arr_at (by omega)) zr zr zr zr zr zr zr zr zr (fun l1 hl1 => ?_)
        (iterate 2 refine ze hT zr zr zr zr zr ?_); refine WT.sub1 zr zr zr zr zr zr (by omega) ?_
        refine WT.vidx hT hvG zr zr zr zr zr zr zr zr zr (by omega) (fun bl2 hbl2 => ?_)
        refine WT.vldS hT 0 hvG hbl2 (arr_at (by omega)) zr zr zr zr zr zr zr zr zr (fun l2 hl2 => ?_)
        refine WT.callC hg hgb zr zr zr zr zr zr zr (hcmp G (hF1.trans hG) l1 l2 _ _ hl1 hl2) (fun v hvz => ?_)
        obtain ⟨z, rfl, hz⟩ := hvz
        (iterate 3 refine ze hT zr zr zr zr zr ?_); refine WT.nil ?_; refine And.intro trivial ?_
        refine AW.cond rfl (fun hc => ?_) (fun hc => ?_)
        · have hlt : lt u.2.d[i]! u.2.d[i - 1]! = false := Bool.eq_false_iff.2 (fun hh => absurd (hz.2 hh) (by simpa using hc))
          refine AW.skip ?_
          refine AW.block ?_
          refine AW.reg ?_; refine ze hT zr zr zr zr zr ?_; refine WT.add1 zr zr zr zr zr zr (by omega) ?_; refine ze hT zr zr zr zr zr ?_; refine WT.nil ?_
          refine ⟨i + 1, by omega, SubK.of_map rfl, OwnLe.refl _, by omega, by omega, ?_⟩
          rw [← j3]
          conv => rhs; rw [Go.Sort.scanSorted]
          rw [if_pos (by simp [h, hlt])]
        · have hlt := hz.1 (by simpa using hc)
          refine AW.exit ?_
          have e : i = i2 := by rw [← j3, Go.Sort.scanSorted, if_neg (by simp [hlt])]
          exact ⟨(), SubK.of_map (by rw [e]; rfl), OwnLe.refl _, by omega, by omega⟩
      · have h : ¬ i < b := by simp at h; omega
        (iterate 13 refine zx zr zr zr zr ?_); refine ze hT zr zr zr zr zr ?_; refine WT.nil ?_; refine And.intro trivial ?_
        refine AW.cond rfl (fun h => (by cases h)) (fun _ => ?_)
        refine AW.exit ?_
        have e : i = i2 := by rw [← j3, Go.Sort.scanSorted, if_neg (by simp [h])]
        exact ⟨(), SubK.of_map (by rw [e]; rfl), OwnLe.refl _, by omega, by omega⟩
    · obtain ⟨j1, j2⟩ := hi2'
      have hv2 := hv1.mono hF2
      have hsz : m = u.2.d.size := hv1.len
      have hF2' := hF1.trans hF2
      (iterate 2 refine AW.seq ?_); refine AW.reg ?_; (iterate 3 refine ze hT zr zr zr zr zr ?_); refine WT.nil ?_
      refine AW.cond rfl (fun h => ?_) (fun h => ?_)
      · have h : i2 = b := by simp at h; omega
        refine AW.seq ?_; refine AW.reg ?_; refine ze hT zr zr zr zr zr ?_; refine WT.nil ?_
        refine AW.ret ⟨_, [_], ⟨_, _, rfl, rfl, rfl⟩, (by repeat (first | exact List.Sublist.refl _ | refine List.Sublist.cons _ ?_)), _, rfl, ?_, ?_⟩
        · rw [← heq, if_pos h]; rfl
        · rw [← heq, if_pos h]; exact hv2
      · have h : i2 ≠ b := by simp at h; omega
        rw [if_neg h] at heq
        refine AW.skip ?_; (iterate 2 refine AW.seq ?_); refine AW.reg ?_; (iterate 2 refine ze hT zr zr zr zr zr ?_); refine WT.subN zr zr zr zr zr zr (by omega) ?_; refine ze hT zr zr zr zr zr ?_; refine WT.nil ?_
        refine AW.cond rfl (fun h5 => ?_) (fun h5 => ?_)
        · have h5 : b - a < 50 := by simp at h5; omega
          refine AW.seq ?_; refine AW.reg ?_; refine ze hT zr zr zr zr zr ?_; refine WT.nil ?_
          refine AW.ret ⟨_, [_], ⟨_, _, rfl, rfl, rfl⟩, (by repeat (first | exact List.Sublist.refl _ | refine List.Sublist.cons _ ?_)), _, rfl, ?_, ?_⟩
          · rw [← heq, if_pos h5]; rfl
          · rw [← heq, if_pos h5]; exact hv2
        · have h5 : ¬ b - a < 50 := by simp at h5; omega
          rw [if_neg h5] at heq
          refine AW.skip ?_; refine AW.seq ?_
          refine AW.draw (ps := [(4, 15)]) rfl rfl ?_
          (iterate 4 refine ze hT zr zr zr zr zr ?_); refine WT.sub1 zr zr zr zr zr zr (by omega) ?_; (iterate 2 refine ze hT zr zr zr zr zr ?_); refine WT.sub1 zr zr zr zr zr zr (by omega) ?_
          refine WT.vidx hT hv2 zr zr zr zr zr zr zr zr zr (by omega) (fun bl3 hbl3 => ?_)
          refine WT.vldS hT 0 hv2 hbl3 (arr_at (by omega)) zr zr zr zr zr zr zr zr zr (fun l3 hl3 => ?_)
          (iterate 2 refine ze hT zr zr zr zr zr ?_)
          refine WT.vidx hT hv2 zr zr zr zr zr zr zr zr zr (by omega) (fun bl4 hbl4 => ?_)
          refine WT.vldS hT 0 hv2 hbl4 (arr_at (by omega)) zr zr zr zr zr zr zr zr zr (fun l4 hl4 => ?_)
          refine WT.vidx hT hv2 zr zr zr zr zr zr zr zr zr (by omega) (fun bl5 hbl5 => ?_)
          refine WT.vst (y := u.2.d[i2 - 1]!) hT 0 hv2 hbl5 (List.getElem?_eq_getElem (by simp; omega)) zr zr zr zr zr hl3 rfl (fun _ => rfl) rfl (fun Bl5 hBl5 => ?_)
          refine WT.vidx hT hBl5 zr zr zr zr zr zr zr zr zr (by omega) (fun bl6 hbl6 => ?_)
          refine WT.vst (y := u.2.d[i2]!) hT 0 hBl5 hbl6 (List.getElem?_eq_getElem (by simp; omega)) zr zr zr zr zr hl4 rfl (fun _ => rfl) rfl (fun Bl6 hBl6 => ?_)
          rw [← swp_list] at hBl6
          obtain ⟨d1, hd1⟩ : ∃ d1, Go.Sort.swp u.2.d i2 (i2 - 1) = d1 := ⟨_, rfl⟩
          rw [hd1] at heq hBl6
          refine WT.nil ?_
          refine ⟨(by repeat (first | exact trivial | refine recs_pair rfl rfl (by first | exact keep0 | exact keep1 (keeps_frz (by assumption)) | exact kp 0 0 me me | exact kp 1 1 me me | exact kp 2 2 me me | exact kp 3 3 me me | exact kp 4 4 me me | exact kp 5 5 me me | exact kp 6 6 me me | exact kp 0 1 me me | exact kp 1 2 me me | exact kp 2 3 me me | exact kp 3 4 me me | exact kp 4 5 me me | exact kp 5 6 me me | exact kp 6 7 me me) ?_)), ?_⟩
          refine AW.jn (S := VS Lr) (fun _ => []) (fun s => s.B :: own) (fun s G => Vec tLr G a0 m c s.B s.d.toList ∧ s.d = Go.Sort.fixDown lt a i2 d1) ?_ (fun s F3 hF3 hP3 => ?_)
          · refine AW.seq ?_; refine AW.reg ?_; (iterate 2 refine ze hT zr zr zr zr zr ?_); refine WT.subN zr zr zr zr zr zr (by omega) ?_; refine ze hT zr zr zr zr zr ?_; refine WT.nil ?_
            refine AW.cond rfl (fun h2 => ?_) (fun h2 => ?_)
            · have h2 : 2 ≤ i2 - a := by simp at h2; omega
              rw [Go.Sort.fixDown, if_pos h2]
              refine AW.seq ?_; refine AW.reg ?_; refine ze hT zr zr zr zr zr ?_; refine WT.sub1 zr zr zr zr zr zr (by omega) ?_; refine ze hT zr zr zr zr zr ?_; refine WT.nil ?_
              refine AW.block ?_
              refine AW.loopR (S := VS Lr) (fun s => [(11, .int .i64 (s.i : Nat))]) (fun s => s.B :: own) (fun s G => Vec tLr G a0 m c s.B s.d.toList ∧ s.i < m ∧ Go.Sort.shiftDown lt s.i s.d = Go.Sort.shiftDown lt (i2 - 1) d1) (fun s => s.i) ⟨i2 - 1, d1, Bl6⟩ (SubK.of_map rfl) (OwnLe.refl _) ⟨hBl6, by dsimp only; omega, rfl⟩ ?_
              intro w G hG hP4
              obtain ⟨hw, hwi, hwe⟩ := hP4
              have hszw : m = w.d.size := hw.len
              (iterate 2 refine AW.seq ?_); refine AW.reg ?_; (iterate 2 refine ze hT zr zr zr zr zr ?_); refine WT.nil ?_
              refine AW.cond rfl (fun h3 => ?_) (fun h3 => ?_)
              · have h3 : 1 ≤ w.i := by simp at h3; omega
                have one : Go.Sort.shiftDown lt w.i w.d = if lt w.d[w.i]! w.d[w.i - 1]! = true then Go.Sort.shiftDown lt (w.i - 1) (Go.Sort.swp w.d w.i (w.i - 1)) else w.d := by
                  cases hi : w.i with
                  | zero => omega
                  | succ k =>
                    rw [Go.Sort.shiftDown, Nat.add_sub_cancel]
                    cases lt w.d[k + 1]! w.d[k]! <;> simp
                refine AW.skip ?_; refine AW.seq ?_
                refine AW.block ?_
                (iterate 2 refine AW.seq ?_); refine AW.draw (ps := []) zr zr ?_; (iterate 3 refine ze hT zr zr zr zr zr ?_)
                refine WT.vidx hT hw zr zr zr zr zr zr zr zr zr (by omega) (fun bl7 hbl7 => ?_)
                refine WT.vldS hT 0 hw hbl7 (arr_at (by omega)) zr zr zr zr zr zr zr zr zr (fun l7 hl7 => ?_)
                (iterate 2 refine ze hT zr zr zr zr zr ?_); refine WT.sub1 zr zr zr zr zr zr (by omega) ?_
                refine WT.vidx hT hw zr zr zr zr zr zr zr zr zr (by omega) (fun bl8 hbl8 => ?_)
                refine WT.vldS hT 0 hw hbl8 (arr_at (by omega)) zr zr zr zr zr zr zr zr zr (fun l8 hl8 => ?_)
                refine WT.callC hg hgb zr zr zr zr zr zr zr (hcmp G (hF2'.trans hG) l7 l8 _ _ hl7 hl8) (fun v hvz => ?_)
                obtain ⟨z, rfl, hz⟩ := hvz
                (iterate 2 refine ze hT zr zr zr zr zr ?_); refine WT.nil ?_; refine And.intro trivial ?_
                refine AW.cond rfl (fun hc => ?_) (fun hc => ?_)
                · have hlt : lt w.d[w.i]! w.d[w.i - 1]! = false := Bool.eq_false_iff.2 (fun hh => absurd (hz.2 hh) (by simpa using hc))
                  refine AW.exit ?_
                  refine ⟨⟨0, w.d, w.B⟩, SubK.of_map rfl, OwnLe.refl _, hw, ?_⟩
                  rw [← hwe, one, if_neg (by rw [hlt]; decide)]
                · have hlt := hz.1 (by simpa using hc)
                  refine AW.skip ?_
                  refine AW.draw (ps := [(4, 15)]) rfl rfl ?_
                  (iterate 4 refine ze hT zr zr zr zr zr ?_); refine WT.sub1 zr zr zr zr zr zr (by omega) ?_; (iterate 2 refine ze hT zr zr zr zr zr ?_); refine WT.sub1 zr zr zr zr zr zr (by omega) ?_
                  refine WT.vidx hT hw zr zr zr zr zr zr zr zr zr (by omega) (fun bl9 hbl9 => ?_)
                  refine WT.vldS hT 0 hw hbl9 (arr_at (by omega)) zr zr zr zr zr zr zr zr zr (fun l9 hl9 => ?_)
                  (iterate 2 refine ze hT zr zr zr zr zr ?_)
                  refine WT.vidx hT hw zr zr zr zr zr zr zr zr zr (by omega) (fun bl10 hbl10 => ?_)
                  refine WT.vldS hT 0 hw hbl10 (arr_at (by omega)) zr zr zr zr zr zr zr zr zr (fun l10 hl10 => ?_)
                  refine WT.vidx hT hw zr zr zr zr zr zr zr zr zr (by omega) (fun bl11 hbl11 => ?_)
                  refine WT.vst (y := w.d[w.i - 1]!) hT 0 hw hbl11 (List.getElem?_eq_getElem (by simp; omega)) zr zr zr zr zr hl9 rfl (fun _ => rfl) rfl (fun Bl11 hBl11 => ?_)
                  refine WT.vidx hT hBl11 zr zr zr zr zr zr zr zr zr (by omega) (fun bl12 hbl12 => ?_)
                  refine WT.vst (y := w.d[w.i]!) hT 0 hBl11 hbl12 (List.getElem?_eq_getElem (by simp; omega)) zr zr zr zr zr hl10 rfl (fun _ => rfl) rfl (fun Bl12 hBl12 => ?_)
                  rw [← swp_list] at hBl12
                  refine WT.nil ?_
                  refine ⟨(by repeat (first | exact trivial | refine recs_pair rfl rfl (by first | exact keep0 | exact keep1 (keeps_frz (by assumption)) | exact kp 0 0 me me | exact kp 1 1 me me | exact kp 2 2 me me | exact kp 3 3 me me | exact kp 4 4 me me | exact kp 5 5 me me | exact kp 6 6 me me | exact kp 0 1 me me | exact kp 1 2 me me | exact kp 2 3 me me | exact kp 3 4 me me | exact kp 4 5 me me | exact kp 5 6 me me | exact kp 6 7 me me) ?_)), ?_⟩
                  refine AW.reg ?_; refine ze hT zr zr zr zr zr ?_; refine WT.sub1 zr zr zr zr zr zr (by omega) ?_; refine ze hT zr zr zr zr zr ?_; refine WT.nil ?_
                  refine ⟨⟨w.i - 1, Go.Sort.swp w.d w.i (w.i - 1), Bl12⟩, by dsimp only; omega, SubK.of_map rfl, OwnLe.refl _, hBl12, by dsimp only; omega, ?_⟩
                  rw [← hwe, one, if_pos hlt]
              · have h3 : w.i = 0 := by simp at h3; omega
                refine AW.exit ?_
                refine ⟨⟨0, w.d, w.B⟩, SubK.of_map rfl, OwnLe.refl _, hw, ?_⟩
                rw [← hwe, h3]; rfl
            · have h2 : ¬ 2 ≤ i2 - a := by simp at h2; omega
              rw [Go.Sort.fixDown, if_neg h2]
              refine AW.skip ?_
              exact ⟨⟨0, d1, Bl6⟩, SubK.of_map rfl, OwnLe.refl _, hBl6, rfl⟩
          · obtain ⟨hs, hsd⟩ := hP3
            have hszs : m = s.d.size := hs.len
            have hF3' := hF2'.trans hF3
            rw [← hsd] at heq
            refine AW.seq ?_; refine AW.reg ?_; (iterate 2 refine ze hT zr zr zr zr zr ?_); refine WT.subN zr zr zr zr zr zr (by omega) ?_; refine ze hT zr zr zr zr zr ?_; refine WT.nil ?_
            refine AW.cond rfl (fun h2 => ?_) (fun h2 => ?_)
            · have h2 : 2 ≤ b - i2 := by simp at h2; omega
              rw [Go.Sort.fixUp, if_pos h2] at heq
              refine AW.seq ?_; refine AW.reg ?_; refine ze hT zr zr zr zr zr ?_; refine WT.add1 zr zr zr zr zr zr (by omega) ?_; refine ze hT zr zr zr zr zr ?_; refine WT.nil ?_
              refine AW.block ?_
              refine AW.loopR (S := VS Lr) (fun s => [(12, .int .i64 (s.i : Nat))]) (fun s => s.B :: own) (fun w G => Vec tLr G a0 m c w.B w.d.toList ∧ i2 + 1 ≤ w.i ∧ Go.Sort.shiftUp lt b w.i w.d = Go.Sort.shiftUp lt b (i2 + 1) s.d) (fun s => b - s.i) ⟨i2 + 1, s.d, s.B⟩ (SubK.of_map rfl) (OwnLe.refl _) ⟨hs, Nat.le_refl _, rfl⟩ ?_
              intro w G hG hP4
              obtain ⟨hw, hwi, hwe⟩ := hP4
              have hszw : m = w.d.size := hw.len
              (iterate 2 refine AW.seq ?_); refine AW.reg ?_; (iterate 3 refine ze hT zr zr zr zr zr ?_); refine WT.nil ?_
              refine AW.cond rfl (fun h3 => ?_) (fun h3 => ?_)
              · have h3 : w.i < b := by simp at h3; omega
                have one : Go.Sort.shiftUp lt b w.i w.d = if lt w.d[w.i]! w.d[w.i - 1]! = true then Go.Sort.shiftUp lt b (w.i + 1) (Go.Sort.swp w.d w.i (w.i - 1)) else w.d := by
                  conv => lhs; rw [Go.Sort.shiftUp]
                  rw [if_pos h3]
                  cases lt w.d[w.i]! w.d[w.i - 1]! <;> simp
                refine AW.skip ?_; refine AW.seq ?_
                refine AW.block ?_
                (iterate 2 refine AW.seq ?_); refine AW.draw (ps := []) zr zr ?_; (iterate 3 refine ze hT zr zr zr zr zr ?_)
                refine WT.vidx hT hw zr zr zr zr zr zr zr zr zr (by omega) (fun bl7 hbl7 => ?_)
                refine WT.vldS hT 0 hw hbl7 (arr_at (by omega)) zr zr zr zr zr zr zr zr zr (fun l7 hl7 => ?_)
                (iterate 2 refine ze hT zr zr zr zr zr ?_); refine WT.sub1 zr zr zr zr zr zr (by omega) ?_
                refine WT.vidx hT hw zr zr zr zr zr zr zr zr zr (by omega) (fun bl8 hbl8 => ?_)
                refine WT.vldS hT 0 hw hbl8 (arr_at (by omega)) zr zr zr zr zr zr zr zr zr (fun l8 hl8 => ?_)
                refine WT.callC hg hgb zr zr zr zr zr zr zr (hcmp G (hF3'.trans hG) l7 l8 _ _ hl7 hl8) (fun v hvz => ?_)
                obtain ⟨z, rfl, hz⟩ := hvz
                (iterate 2 refine ze hT zr zr zr zr zr ?_); refine WT.nil ?_; refine And.intro trivial ?_
                refine AW.cond rfl (fun hc => ?_) (fun hc => ?_)
                · have hlt : lt w.d[w.i]! w.d[w.i - 1]! = false := Bool.eq_false_iff.2 (fun hh => absurd (hz.2 hh) (by simpa using hc))
                  refine AW.exit ?_
                  refine AW.reg ?_; refine ze hT zr zr zr zr zr ?_; refine WT.add1 zr zr zr zr zr zr (by omega) ?_; refine ze hT zr zr zr zr zr ?_; refine WT.nil ?_
                  refine ⟨(u.1 + 1, ⟨i2, w.d, w.B⟩), by dsimp only; omega, SubK.of_map rfl, OwnLe.refl _, hw, by dsimp only; omega, by dsimp only; omega, j2, ?_⟩
                  rw [← heq, ← hwe, one, if_neg (by rw [hlt]; decide)]
                · have hlt := hz.1 (by simpa using hc)
                  refine AW.skip ?_
                  refine AW.draw (ps := [(4, 15)]) rfl rfl ?_
                  (iterate 4 refine ze hT zr zr zr zr zr ?_); refine WT.sub1 zr zr zr zr zr zr (by omega) ?_; (iterate 2 refine ze hT zr zr zr zr zr ?_); refine WT.sub1 zr zr zr zr zr zr (by omega) ?_
                  refine WT.vidx hT hw zr zr zr zr zr zr zr zr zr (by omega) (fun bl9 hbl9 => ?_)
                  refine WT.vldS hT 0 hw hbl9 (arr_at (by omega)) zr zr zr zr zr zr zr zr zr (fun l9 hl9 => ?_)
                  (iterate 2 refine ze hT zr zr zr zr zr ?_)
                  refine WT.vidx hT hw zr zr zr zr zr zr zr zr zr (by omega) (fun bl10 hbl10 => ?_)
                  refine WT.vldS hT 0 hw hbl10 (arr_at (by omega)) zr zr zr zr zr zr zr zr zr (fun l10 hl10 => ?_)
                  refine WT.vidx hT hw zr zr zr zr zr zr zr zr zr (by omega) (fun bl11 hbl11 => ?_)
                  refine WT.vst (y := w.d[w.i - 1]!) hT 0 hw hbl11 (List.getElem?_eq_getElem (by simp; omega)) zr zr zr zr zr hl9 rfl (fun _ => rfl) rfl (fun Bl11 hBl11 => ?_)
                  refine WT.vidx hT hBl11 zr zr zr zr zr zr zr zr zr (by omega) (fun bl12 hbl12 => ?_)
                  refine WT.vst (y := w.d[w.i]!) hT 0 hBl11 hbl12 (List.getElem?_eq_getElem (by simp; omega)) zr zr zr zr zr hl10 rfl (fun _ => rfl) rfl (fun Bl12 hBl12 => ?_)
                  rw [← swp_list] at hBl12
                  refine WT.nil ?_
                  refine ⟨(by repeat (first | exact trivial | refine recs_pair rfl rfl (by first | exact keep0 | exact keep1 (keeps_frz (by assumption)) | exact kp 0 0 me me | exact kp 1 1 me me | exact kp 2 2 me me | exact kp 3 3 me me | exact kp 4 4 me me | exact kp 5 5 me me | exact kp 6 6 me me | exact kp 0 1 me me | exact kp 1 2 me me | exact kp 2 3 me me | exact kp 3 4 me me | exact kp 4 5 me me | exact kp 5 6 me me | exact kp 6 7 me me) ?_)), ?_⟩
                  refine AW.reg ?_; refine ze hT zr zr zr zr zr ?_; refine WT.add1 zr zr zr zr zr zr (by omega) ?_; refine ze hT zr zr zr zr zr ?_; refine WT.nil ?_
                  refine ⟨⟨w.i + 1, Go.Sort.swp w.d w.i (w.i - 1), Bl12⟩, by dsimp only; omega, SubK.of_map rfl, OwnLe.refl _, hBl12, by dsimp only; omega, ?_⟩
                  rw [← hwe, one, if_pos hlt]
              · have h3 : ¬ w.i < b := by simp at h3; omega
                refine AW.exit ?_
                refine AW.reg ?_; refine ze hT zr zr zr zr zr ?_; refine WT.add1 zr zr zr zr zr zr (by omega) ?_; refine ze hT zr zr zr zr zr ?_; refine WT.nil ?_
                refine ⟨(u.1 + 1, ⟨i2, w.d, w.B⟩), by dsimp only; omega, SubK.of_map rfl, OwnLe.refl _, hw, by dsimp only; omega, by dsimp only; omega, j2, ?_⟩
                rw [← heq, ← hwe, Go.Sort.shiftUp, if_neg h3]
            · have h2 : ¬ 2 ≤ b - i2 := by simp at h2; omega
              rw [Go.Sort.fixUp, if_neg h2] at heq
              refine AW.skip ?_; refine AW.reg ?_; refine ze hT zr zr zr zr zr ?_; refine WT.add1 zr zr zr zr zr zr (by omega) ?_; refine ze hT zr zr zr zr zr ?_; refine WT.nil ?_
              exact ⟨(u.1 + 1, ⟨i2, s.d, s.B⟩), by dsimp only; omega, SubK.of_map rfl, OwnLe.refl _, hs, by dsimp only; omega, by dsimp only; omega, j2, heq⟩
  · have h : u.1 = 5 := by simp at h; omega
    refine AW.exit ?_
    refine AW.seq ?_; refine AW.reg ?_; refine ze hT zr zr zr zr zr ?_; refine WT.nil ?_
    rw [h] at heq
    refine AW.ret ⟨_, [_], ⟨_, _, rfl, rfl, rfl⟩, (by repeat (first | exact List.Sublist.refl _ | refine List.Sublist.cons _ ?_)), _, rfl, ?_, ?_⟩
    · rw [← heq]; rfl
    · rw [← heq]; exact hv1

theorem lrBreak_spec (F : Frz) {cv : Value} {a0 : Option Addr} {m c : Nat} {B : List (Nat × Blk)} {d : Array Lr} (hv : Vec tLr F a0 m c B d.toList) (a b : Nat) (hab : a + 13 ≤ b) (hb : b ≤ m) (hm : m ≤ 1000000) :
    Abs.Spec CC 170 [.slice a0 m c, .int .i64 a, .int .i64 b, cv] F [B] fun F' v o => ∃ B', o = [B'] ∧ Vec tLr F' a0 m c B' (Go.Sort.breakPatterns d a b).toList := by
  obtain ⟨l, hl⟩ : ∃ l, b - a = l := ⟨_, rfl⟩
  obtain ⟨e, he⟩ : ∃ e, l / 4 = e := ⟨_, rfl⟩
  obtain ⟨p2, hp2⟩ : ∃ p, 2 ^ Go.Sort.bitsLen l = p := ⟨_, rfl⟩
  have h1p := Go.Sort.two_pow_bitsLen_le (n := l) (by omega)
  have h2p := Go.Sort.lt_two_pow_bitsLen l
  rw [hp2] at h1p h2p
  have hbr : Go.Sort.breakPatterns d a b = (bsN a l p2 (a + e * 2 - 1) (UInt64.ofNat l, d) 3).2 := by
    unfold Go.Sort.breakPatterns
    simp only [hl]
    rw [if_pos (by omega), he, Nat.one_shiftLeft, hp2]
    rfl
  refine Abs.Spec.fn (n := 67) Tryd.func170 rfl rfl fun own => ?_
  refine AW.seq ?_; refine AW.reg ?_; (iterate 2 refine ze hT zr zr zr zr zr ?_); refine WT.subN zr zr zr zr zr zr (by omega) ?_; refine ze hT zr zr zr zr zr ?_; refine WT.nil ?_; refine AW.seq ?_; refine AW.reg ?_; (iterate 2 refine ze hT zr zr zr zr zr ?_); refine WT.nil ?_
  rw [hl]
  refine AW.cond rfl (fun _ => ?_) (fun h => (by simp at h; omega))
  refine AW.seq ?_; refine AW.reg ?_; refine ze hT zr zr zr zr zr ?_
  refine WT.conv hT (k2 := .u64) zr zr zr zr zr zr zr zr (wrapU64 (by omega)) ?_
  refine WT.allocT hT zr zr zr zr zr zr (fun i9 hi9 => ?_)
  refine zs hT 0 0 zr zr zr zr zr zr zr zr zr zr zr zr ?_; refine WT.nil ?_; refine AW.seq ?_; refine AW.reg ?_; refine ze hT zr zr zr zr zr ?_
  refine WT.callV Tryd.func178 zr zr zr zr zr zr (npow_spec _ l (by omega)) (fun v hv' => ?_)
  rw [hp2] at hv'
  subst hv'
  refine ze hT zr zr zr zr zr ?_; refine WT.nil ?_; refine AW.seq ?_; refine AW.reg ?_; (iterate 2 refine ze hT zr zr zr zr zr ?_)
  refine WT.quoL 4 zr zr zr zr zr zr (by decide) (by omega) ?_
  rw [he]
  refine WT.mulL 2 zr zr zr zr zr zr (by omega) ?_
  refine WT.addN zr zr zr zr zr zr (by omega) ?_; refine WT.sub1 zr zr zr zr zr zr (by omega) ?_; refine ze hT zr zr zr zr zr ?_; refine WT.nil ?_
  refine AW.block ?_
  refine AW.loopR (S := VS Lr) (fun s => [(11, .int .i64 ((a + e * 2 - 1 + s.i : Nat) : Int))]) (fun s => [(i9, .cells false [.int .u64 ((bsN a l p2 (a + e * 2 - 1) (UInt64.ofNat l, d) s.i).1.toNat : Nat)])] :: s.B :: own) (fun s G => Vec tLr G a0 m c s.B s.d.toList ∧ s.i ≤ 3 ∧ s.d = (bsN a l p2 (a + e * 2 - 1) (UInt64.ofNat l, d) s.i).2) (fun s => 3 - s.i) ⟨0, d, B⟩
    (SubK.of_map rfl) (OwnLe.flat (List.Perm.of_eq ?_)) ⟨hv, Nat.zero_le _, rfl⟩ ?_
  · rw [show (bsN a l p2 (a + e * 2 - 1) (UInt64.ofNat l, d) 0).1.toNat = l from by
      show (UInt64.ofNat l).toNat = l
      rw [UInt64.toNat_ofNat']
      exact Nat.mod_eq_of_lt (by have : 2 ^ 64 = 18446744073709551616 := rfl
                                 omega)]
    rfl
  intro u F2 hF2 hP2
  obtain ⟨hv2, hi, heq⟩ := hP2
  have hsz : m = u.d.size := hv2.len
  have hr64 := (bsN a l p2 (a + e * 2 - 1) (UInt64.ofNat l, d) u.i).1.toNat_lt
  rw [show (2 : Nat) ^ 64 = 18446744073709551616 from rfl] at hr64
  obtain ⟨r, hr⟩ : ∃ r, (bsN a l p2 (a + e * 2 - 1) (UInt64.ofNat l, d) u.i).1.toNat = r := ⟨_, rfl⟩
  have hnext : (bsN a l p2 (a + e * 2 - 1) (UInt64.ofNat l, d) (u.i + 1)).1.toNat = Go.Sort.xorNextN r := by
    rw [← hr, ← Go.Sort.xorNext_toNat]; rfl
  rw [hr] at hr64
  rw [hr]
  have hx64 := Go.Sort.xorNextN_lt r hr64
  obtain ⟨o0, ho0⟩ : ∃ o0, Go.Sort.xorNextN r &&& (p2 - 1) = o0 := ⟨_, rfl⟩
  have ho1 : o0 ≤ p2 - 1 := by rw [← ho0]; exact Nat.and_le_right
  have hswap : (bsN a l p2 (a + e * 2 - 1) (UInt64.ofNat l, d) (u.i + 1)).2 = Go.Sort.swp u.d (a + e * 2 - 1 + u.i) (a + (if o0 ≥ l then o0 - l else o0)) := by
    show (Go.Sort.breakStep a l p2 (bsN a l p2 (a + e * 2 - 1) (UInt64.ofNat l, d) u.i) (a + e * 2 - 1 + u.i)).2 = _
    unfold Go.Sort.breakStep
    simp only [Go.Sort.xorNext_toNat, hr, ho0, ← heq]
  have hel : e * 4 ≤ l := by rw [← he]; exact Nat.div_mul_le_self _ _
  have he3 : 3 ≤ e := by rw [← he]; omega
  (iterate 2 refine AW.seq ?_); refine AW.reg ?_; (iterate 3 refine ze hT zr zr zr zr zr ?_)
  refine WT.quoL 4 zr zr zr zr zr zr (by decide) (by omega) ?_
  rw [he]
  refine WT.mulL 2 zr zr zr zr zr zr (by omega) ?_
  refine WT.addN zr zr zr zr zr zr (by omega) ?_; refine WT.add1 zr zr zr zr zr zr (by omega) ?_; refine ze hT zr zr zr zr zr ?_; refine WT.nil ?_
  refine AW.cond rfl (fun h => ?_) (fun h => ?_)
  · have h : u.i < 3 := by simp at h; omega
    refine AW.skip ?_; refine AW.seq ?_
    refine AW.block ?_
    refine AW.seq ?_; refine AW.reg ?_
    refine WT.call1F 0 Tryd.func179 zr zr zr zr zr zr zr (fun _ => rfl) (xorn_spec _ i9 r hr64) (fun F3 v B3 hF3 hv3 => ?_)
    obtain ⟨rfl, rfl⟩ := hv3
    have hv3 := hv2.mono hF3
    refine ze hT zr zr zr zr zr ?_
    refine WT.binV zr zr zr zr zr zr (by decide) (sub64 (x := p2) (y := 1) (by omega) (by omega)) ?_
    refine WT.binV zr zr zr zr zr zr (by decide) (and64 hx64 (by omega)) ?_
    rw [ho0]
    refine WT.conv hT (k2 := .i64) zr zr zr zr zr zr zr zr (wrap64 (by omega)) ?_
    refine ze hT zr zr zr zr zr ?_; refine WT.nil ?_; (iterate 2 refine AW.seq ?_); refine AW.reg ?_; (iterate 3 refine ze hT zr zr zr zr zr ?_); refine WT.nil ?_
    refine AW.jnT (S := Unit) (fun _ => [(12, .int .i64 ((if o0 ≥ l then o0 - l else o0 : Nat) : Int))]) (fun _ => [(i9, .cells false [.int .u64 (Go.Sort.xorNextN r : Nat)])] :: u.B :: own) (fun _ _ => True) ?_ (fun _ F4 hF4 _ => ?_)
    · refine AW.cond rfl (fun h => ?_) (fun h => ?_)
      · have h : l ≤ o0 := by simp at h; omega
        refine AW.reg ?_; (iterate 2 refine ze hT zr zr zr zr zr ?_); refine WT.subN zr zr zr zr zr zr (by omega) ?_; refine ze hT zr zr zr zr zr ?_; refine WT.nil ?_
        refine ⟨(), SubK.of_map (by rw [if_pos h]; rfl), OwnLe.refl _, trivial⟩
      · have h : ¬ l ≤ o0 := by simp at h; omega
        refine AW.skip ?_
        refine ⟨(), SubK.of_map (by rw [if_neg h]; rfl), OwnLe.refl _, trivial⟩
    · obtain ⟨o1, ho2⟩ : ∃ o1, (if o0 ≥ l then o0 - l else o0) = o1 := ⟨_, rfl⟩
      have ho3 : o1 < l := by rw [← ho2]; split <;> omega
      rw [ho2] at hswap ⊢
      have hv4 := hv3.mono hF4
      skip
      refine AW.draw (ps := [(5, 17)]) rfl rfl ?_
      (iterate 5 refine ze hT zr zr zr zr zr ?_); refine WT.addN zr zr zr zr zr zr (by omega) ?_; (iterate 3 refine ze hT zr zr zr zr zr ?_); refine WT.addN zr zr zr zr zr zr (by omega) ?_
      refine WT.vidx hT hv4 zr zr zr zr zr zr zr zr zr (by omega) (fun bl3 hbl3 => ?_)
      refine WT.vldS hT 1 hv4 hbl3 (arr_at (by omega)) zr zr zr zr zr zr zr zr zr (fun l3 hl3 => ?_)
      (iterate 2 refine ze hT zr zr zr zr zr ?_)
      refine WT.vidx hT hv4 zr zr zr zr zr zr zr zr zr (by omega) (fun bl4 hbl4 => ?_)
      refine WT.vldS hT 1 hv4 hbl4 (arr_at (by omega)) zr zr zr zr zr zr zr zr zr (fun l4 hl4 => ?_)
      refine WT.vidx hT hv4 zr zr zr zr zr zr zr zr zr (by omega) (fun bl5 hbl5 => ?_)
      refine WT.vst (y := u.d[a + o1]!) hT 1 hv4 hbl5 (List.getElem?_eq_getElem (by simp; omega)) zr zr zr zr zr hl3 rfl (fun _ => rfl) rfl (fun Bl5 hBl5 => ?_)
      refine WT.vidx hT hBl5 zr zr zr zr zr zr zr zr zr (by omega) (fun bl6 hbl6 => ?_)
      refine WT.vst (y := u.d[a + e * 2 - 1 + u.i]!) hT 1 hBl5 hbl6 (List.getElem?_eq_getElem (by simp; omega)) zr zr zr zr zr hl4 rfl (fun _ => rfl) rfl (fun Bl6 hBl6 => ?_)
      rw [← swp_list] at hBl6
      refine WT.nil ?_
      refine ⟨(by repeat (first | exact trivial | refine recs_pair rfl rfl (by first | exact keep0 | exact keep1 (keeps_frz (by assumption)) | exact kp 0 0 me me | exact kp 1 1 me me | exact kp 2 2 me me | exact kp 3 3 me me | exact kp 4 4 me me | exact kp 5 5 me me | exact kp 6 6 me me | exact kp 0 1 me me | exact kp 1 2 me me | exact kp 2 3 me me | exact kp 3 4 me me | exact kp 4 5 me me | exact kp 5 6 me me | exact kp 6 7 me me) ?_)), ?_⟩
      refine AW.reg ?_; refine ze hT zr zr zr zr zr ?_; refine WT.add1 zr zr zr zr zr zr (by omega) ?_; refine ze hT zr zr zr zr zr ?_; refine WT.nil ?_
      refine ⟨⟨u.i + 1, _, Bl6⟩, by dsimp only; omega, SubK.of_map rfl, OwnLe.flat (List.Perm.of_eq (by rw [hnext])), hBl6, by dsimp only; omega, hswap.symm⟩
  · have h : u.i = 3 := by simp at h; omega
    refine AW.exit ?_
    skip
    refine ⟨_, [_], rfl, (by repeat (first | exact List.Sublist.refl _ | refine List.Sublist.cons _ ?_)), _, rfl, ?_⟩
    rw [hbr, ← h, ← heq]
    exact hv2

theorem lrPdqR_spec {lt : Lr → Lr → Bool} {g : Nat} {first capt : List Value} : ∀ (N : Nat) (F : Frz) (hc : CmpOk tLr lt F g first capt) {a0 : Option Addr} {m c : Nat} {B : List (Nat × Blk)} {d : Array Lr} (hv : Vec tLr F a0 m c B d.toList) (a b limit : Nat) (hN : b - a < N) (hab : a ≤ b) (hb : b ≤ m) (hm : m ≤ 1000000) (hlim : limit ≤ 1000000),
    Abs.Spec CC 150 [.slice a0 m c, .int .i64 a, .int .i64 b, .int .i64 limit, .func (.func g) ⟨first⟩ ⟨capt⟩] F [B] fun F' v o => ∃ B', o = [B'] ∧ Vec tLr F' a0 m c B' (Go.Sort.pdq lt d a b limit true true).toList
  | 0, _, _, _, _, _, _, _, _, _, _, _, h, _, _, _, _ => absurd h (Nat.not_lt_zero _)
  | N + 1, F, hc, a0, m, c, B, d, hv, a, b, limit, hN, hab, hb, hm, hlim => by
    obtain ⟨⟨fn, hg, hgb⟩, hcmp⟩ := id hc
    refine Abs.Spec.fn (n := 148) Tryd.func150 rfl rfl fun own => ?_
    refine AW.seq ?_; refine AW.reg ?_; refine ze hT zr zr zr zr zr ?_; refine WT.nil ?_; refine AW.seq ?_; refine AW.reg ?_; refine ze hT zr zr zr zr zr ?_; refine WT.nil ?_
    refine AW.block ?_
    refine AW.loopR (S := PS Lr) (fun s => [(1, .int .i64 (s.a : Nat)), (2, .int .i64 (s.b : Nat)), (3, .int .i64 (s.lim : Nat)), (10, .bool s.wb), (11, .bool s.wp)]) (fun s => s.B :: own)
      (fun s G => Vec tLr G a0 m c s.B s.d.toList ∧ s.a ≤ s.b ∧ s.b ≤ m ∧ s.b - s.a ≤ b - a ∧ s.lim ≤ 1000000 ∧ Go.Sort.pdq lt s.d s.a s.b s.lim s.wb s.wp = Go.Sort.pdq lt d a b limit true true) (fun s => s.b - s.a) ⟨a, b, limit, true, true, d, B⟩
      (SubK.of_map rfl) (OwnLe.refl _) ⟨hv, hab, hb, Nat.le_refl _, hlim, rfl⟩ ?_
    intro s F1 hF1 hP
    obtain ⟨hv1, hab1, hb1, hle1, hlim1, heq⟩ := hP
    have hc1 := hc.mono hF1
    refine AW.block ?_
    refine AW.seq ?_; refine AW.reg ?_; (iterate 2 refine ze hT zr zr zr zr zr ?_); refine WT.subN zr zr zr zr zr zr (by omega) ?_; refine ze hT zr zr zr zr zr ?_; refine WT.nil ?_; (iterate 2 refine AW.seq ?_); refine AW.reg ?_; (iterate 2 refine ze hT zr zr zr zr zr ?_); refine WT.nil ?_
    refine AW.cond rfl (fun h => ?_) (fun h => ?_)
    · have h : s.b - s.a ≤ 12 := by simp at h; omega
      refine AW.seq ?_; refine AW.reg ?_; (iterate 4 refine ze hT zr zr zr zr zr ?_)
      refine WT.call1F 0 Tryd.func168 zr zr zr zr zr zr zr (fun _ => rfl) (lrIns_spec _ hc1 hv1 s.a s.b (by omega) hb1 hm) (fun F2 v B2 hF2 hv2 => ?_)
      refine WT.nil ?_
      refine AW.ret ⟨_, [_], rfl, (by repeat (first | exact List.Sublist.refl _ | refine List.Sublist.cons _ ?_)), _, rfl, ?_⟩
      rw [← heq, Go.Sort.pdq_small h]; exact hv2
    · have h : ¬ s.b - s.a ≤ 12 := by simp at h; omega
      refine AW.skip ?_; (iterate 2 refine AW.seq ?_); refine AW.reg ?_; (iterate 2 refine ze hT zr zr zr zr zr ?_); refine WT.nil ?_
      refine AW.cond rfl (fun h0 => ?_) (fun h0 => ?_)
      · have h0 : s.lim = 0 := by simp at h0; omega
        refine AW.seq ?_; refine AW.reg ?_; (iterate 4 refine ze hT zr zr zr zr zr ?_)
        refine WT.call1F 0 Tryd.func169 zr zr zr zr zr zr zr (fun _ => rfl) (lrHeap_spec _ hc1 hv1 s.a s.b (by omega) hb1 hm) (fun F2 v B2 hF2 hv2 => ?_)
        refine WT.nil ?_
        refine AW.ret ⟨_, [_], rfl, (by repeat (first | exact List.Sublist.refl _ | refine List.Sublist.cons _ ?_)), _, rfl, ?_⟩
        rw [← heq, Go.Sort.pdq_heap h h0]; exact hv2
      · have h0 : ¬ s.lim = 0 := by simp at h0; omega
        obtain ⟨R, hR⟩ : ∃ R, Go.Sort.rd lt s.d s.a s.b s.lim s.wb s.wp = R := ⟨_, rfl⟩
        refine AW.skip ?_
        refine AW.jn (S := VS Lr) (fun t => [(3, .int .i64 (t.i : Nat))]) (fun t => t.B :: own) (fun t G => Vec tLr G a0 m c t.B t.d.toList ∧ t.i = R.lim ∧ t.d = R.d1) ?_ (fun t F2 hF2 hP2 => ?_)
        · refine AW.seq ?_; refine AW.reg ?_; (iterate 2 refine ze hT zr zr zr zr zr ?_); refine WT.nil ?_
          cases hwb : s.wb with
          | true =>
            refine AW.cond rfl (fun h => (by cases h)) (fun _ => ?_)
            refine AW.skip ?_
            exact ⟨⟨s.lim, s.d, s.B⟩, SubK.of_map rfl, OwnLe.refl _, hv1, by rw [← hR, hwb]; rfl, by rw [← hR, hwb]; rfl⟩
          | false =>
            refine AW.cond rfl (fun _ => ?_) (fun h => (by cases h))
            refine AW.seq ?_; refine AW.reg ?_; (iterate 4 refine ze hT zr zr zr zr zr ?_)
            refine WT.call1F 0 Tryd.func170 zr zr zr zr zr zr zr (fun _ => rfl) (lrBreak_spec _ hv1 s.a s.b (by omega) hb1 hm) (fun F2 v B2 hF2 hv2 => ?_)
            refine WT.nil ?_; refine AW.reg ?_; refine ze hT zr zr zr zr zr ?_; refine WT.sub1 zr zr zr zr zr zr (by omega) ?_; refine ze hT zr zr zr zr zr ?_; refine WT.nil ?_
            exact ⟨⟨s.lim - 1, _, B2⟩, SubK.of_map rfl, OwnLe.refl _, hv2, by rw [← hR, hwb]; rfl, by rw [← hR, hwb]; rfl⟩
        · obtain ⟨hv2, hlm, hd1⟩ := hP2
          have hc2 := hc1.mono hF2
          have hsz2 : m = t.d.size := hv2.len
          have hcc : Go.Sort.choosePivot lt t.d s.a s.b = R.c := by rw [hd1, ← hR]; rfl
          have hcr := Go.Sort.choosePivot_holds lt t.d s.a s.b (by omega)
          rw [hcc] at hcr
          have hlim2 : R.lim ≤ s.lim := by rw [← hR]; exact Go.Sort.rd_lim_le
          refine AW.seq ?_; refine AW.reg ?_; (iterate 4 refine ze hT zr zr zr zr zr ?_)
          refine WT.callLend 0 Tryd.func171 zr zr zr zr zr zr zr (fun G hG hBG => lrPivot_spec G (hc2.mono hG) (hv2.arr hG hBG) s.a s.b (by omega) hb1 hm) (fun v hv' => ?_)
          rw [hcc] at hv'
          subst hv'
          (iterate 5 (refine WT.easy hT zr zr zr zr zr ?_))
          refine WT.nil ?_
          refine AW.jn (S := Nat × Go.Sort.Hint × VS Lr) (fun u => [(13, .int .i64 (u.1 : Nat)), (14, .int .i64 (Go.Sort.hintCode u.2.1))]) (fun u => u.2.2.B :: own) (fun u G => Vec tLr G a0 m c u.2.2.B u.2.2.d.toList ∧ u.1 = R.pivot ∧ u.2.1 = R.hint ∧ u.2.2.d = R.d2 ∧ s.a ≤ u.1 ∧ u.1 < s.b) ?_ (fun u F3 hF3 hP3 => ?_)
          · refine AW.seq ?_; refine AW.reg ?_; (iterate 2 refine ze hT zr zr zr zr zr ?_); refine WT.nil ?_
            refine AW.cond rfl (fun hh => ?_) (fun hh => ?_)
            · have hdec : R.c.2 = .decreasing := by
                cases e : R.c.2 with
                | decreasing => rfl
                | increasing => rw [e] at hh; cases hh
                | unknown => rw [e] at hh; cases hh
              obtain ⟨q1, q2, q3⟩ := Go.Sort.rd_dec (lt := lt) (d := s.d) (a := s.a) (b := s.b) (limit := s.lim) (wb := s.wb) (wp := s.wp) (by rw [hR]; exact hdec)
              rw [hR] at q1 q2 q3
              refine AW.seq ?_; refine AW.reg ?_; (iterate 4 refine ze hT zr zr zr zr zr ?_)
              refine WT.call1F 0 Tryd.func172 zr zr zr zr zr zr zr (fun _ => rfl) (lrRev_spec _ hv2 s.a s.b (by omega) hb1 hm) (fun F3 v B3 hF3 hv3 => ?_)
              refine WT.nil ?_; refine AW.seq ?_; refine AW.reg ?_; refine ze hT zr zr zr zr zr ?_; refine WT.sub1 zr zr zr zr zr zr (by omega) ?_; (iterate 2 refine ze hT zr zr zr zr zr ?_); (iterate 2 refine WT.subN zr zr zr zr zr zr (by omega) ?_); refine ze hT zr zr zr zr zr ?_; refine WT.nil ?_; refine AW.reg ?_; refine ze hT zr zr zr zr zr ?_; refine WT.nil ?_
              refine ⟨(s.b - 1 - (R.c.1 - s.a), .increasing, ⟨0, _, B3⟩), SubK.of_map rfl, OwnLe.refl _, hv3, q2.symm, q3.symm, (by rw [q1, hd1]; rfl), by dsimp only; omega, by dsimp only; omega⟩
            · have hdec : R.c.2 ≠ .decreasing := by intro e; rw [e] at hh; cases hh
              obtain ⟨q1, q2, q3⟩ := Go.Sort.rd_not (lt := lt) (d := s.d) (a := s.a) (b := s.b) (limit := s.lim) (wb := s.wb) (wp := s.wp) (by rw [hR]; exact hdec)
              rw [hR] at q1 q2 q3
              refine AW.skip ?_
              exact ⟨(R.c.1, R.c.2, ⟨0, t.d, t.B⟩), SubK.of_map rfl, OwnLe.refl _, hv2, q2.symm, q3.symm, by rw [q1, hd1], hcr.1, hcr.2⟩
          · obtain ⟨hv3, hpv, hhint, hd2, hpa, hpb⟩ := hP3
            have hc3 := hc2.mono hF3
            have hno : (s.wb && s.wp && decide (R.hint = .increasing)) = false → R.pi = (R.d2, false) := fun h => by
              have := Go.Sort.rd_pi_no (lt := lt) (d := s.d) (a := s.a) (b := s.b) (limit := s.lim) (wb := s.wb) (wp := s.wp) (by rw [hR]; exact h)
              rw [hR] at this; exact this
            have hyes : (s.wb && s.wp && decide (R.hint = .increasing)) = true → R.pi = Go.Sort.partialInsertionSort lt R.d2 s.a s.b := fun h => by
              have := Go.Sort.rd_pi_yes (lt := lt) (d := s.d) (a := s.a) (b := s.b) (limit := s.lim) (wb := s.wb) (wp := s.wp) (by rw [hR]; exact h)
              rw [hR] at this; exact this
            refine AW.jn (S := VS Lr) (fun _ => []) (fun w => w.B :: own) (fun w G => Vec tLr G a0 m c w.B w.d.toList ∧ R.pi = (w.d, false)) ?_ (fun w F4 hF4 hP4 => ?_)
            · refine AW.split 10 rfl (fun hwb => ?_) (fun hwb => ?_)
              · refine AW.split 11 rfl (fun hwp => ?_) (fun hwp => ?_)
                · refine AW.seq ?_; refine AW.reg ?_; (iterate 8 refine ze hT zr zr zr zr zr ?_); refine WT.nil ?_
                  refine AW.cond rfl (fun hh => ?_) (fun hh => ?_)
                  · have hinc : R.hint = .increasing := by
                      rw [← hhint]
                      cases e : u.2.1 with
                      | increasing => rfl
                      | decreasing => rw [e] at hh; cases hh
                      | unknown => rw [e] at hh; cases hh
                    have hpi := hyes (by rw [hwb, hwp, hinc]; rfl)
                    refine AW.seq ?_; refine AW.reg ?_; (iterate 4 refine ze hT zr zr zr zr zr ?_)
                    refine WT.call1F 0 Tryd.func173 zr zr zr zr zr zr zr (fun _ => rfl) (lrPIns_spec _ hc3 hv3 s.a s.b (by omega) hb1 hm) (fun F4 v B4 hF4 hv4 => ?_)
                    obtain ⟨rfl, hv4⟩ := hv4
                    rw [hd2, ← hpi] at hv4 ⊢
                    refine WT.nil ?_
                    refine AW.cond rfl (fun hp2 => ?_) (fun hp2 => ?_)
                    · have hp2 : R.pi.2 = true := hp2
                      refine AW.ret ⟨_, [_], rfl, (by repeat (first | exact List.Sublist.refl _ | refine List.Sublist.cons _ ?_)), _, rfl, ?_⟩
                      rw [← heq, Go.Sort.pdq_done h h0 (by rw [hR]; exact hp2), hR]; exact hv4
                    · have hp2 : R.pi.2 = false := hp2
                      refine AW.skip ?_
                      exact ⟨⟨0, R.pi.1, B4⟩, SubK.of_map (by rw [hwb, hwp]; rfl), OwnLe.refl _, hv4, by rw [← hp2]⟩
                  · have hinc : R.hint ≠ .increasing := by intro e; rw [← hhint] at e; rw [e] at hh; cases hh
                    refine AW.skip ?_
                    exact ⟨⟨0, u.2.2.d, u.2.2.B⟩, SubK.of_map (by rw [hwb, hwp]; rfl), OwnLe.refl _, hv3, by rw [hno (by simp [hinc]), hd2]⟩
                · refine AW.seq ?_; refine AW.reg ?_; (iterate 5 refine ze hT zr zr zr zr zr ?_); (iterate 2 refine zx zr zr zr zr ?_); refine ze hT zr zr zr zr zr ?_; refine WT.nil ?_
                  refine AW.cond rfl (fun hh => (by cases hh)) (fun hh => ?_)
                  refine AW.skip ?_
                  exact ⟨⟨0, u.2.2.d, u.2.2.B⟩, SubK.of_map (by rw [hwb, hwp]; rfl), OwnLe.refl _, hv3, by rw [hno (by simp [hwp]), hd2]⟩
              · refine AW.seq ?_; refine AW.reg ?_; (iterate 2 refine ze hT zr zr zr zr zr ?_); refine zx zr zr zr zr ?_; (iterate 2 refine ze hT zr zr zr zr zr ?_); (iterate 2 refine zx zr zr zr zr ?_); refine ze hT zr zr zr zr zr ?_; refine WT.nil ?_
                refine AW.cond rfl (fun hh => (by cases hh)) (fun hh => ?_)
                refine AW.skip ?_
                exact ⟨⟨0, u.2.2.d, u.2.2.B⟩, SubK.of_map (by rw [hwb]; rfl), OwnLe.refl _, hv3, by rw [hno (by simp [hwb]), hd2]⟩
            · obtain ⟨hv4, hpi⟩ := hP4
              have hc4 := hc3.mono hF4
              have hsz4 : m = w.d.size := hv4.len
              have hp2 : (Go.Sort.rd lt s.d s.a s.b s.lim s.wb s.wp).pi.2 = false := by rw [hR, hpi]
              have hcm := hc4.2
              refine AW.jn (S := Unit) (fun _ => []) (fun _ => w.B :: own) (fun _ _ => (decide (s.a > 0) && !lt w.d[s.a - 1]! w.d[u.1]!) = false) ?_ (fun _ F5 hF5 hx => ?_)
              · refine AW.seq ?_; refine AW.draw (ps := []) zr zr ?_; (iterate 3 refine ze hT zr zr zr zr zr ?_)
                refine WT.split 83 rfl (fun ha0 => ?_) (fun ha0 => ?_)
                · have ha0 : 0 < s.a := by simp at ha0; omega
                  (iterate 3 refine ze hT zr zr zr zr zr ?_); refine WT.sub1 zr zr zr zr zr zr (by omega) ?_
                  refine WT.vidx hT hv4 zr zr zr zr zr zr zr zr zr (by omega) (fun bl1 hbl1 => ?_)
                  refine WT.vldS hT 0 hv4 hbl1 (arr_at (by omega)) zr zr zr zr zr zr zr zr zr (fun l1 hl1 => ?_)
                  (iterate 2 refine ze hT zr zr zr zr zr ?_)
                  refine WT.vidx hT hv4 zr zr zr zr zr zr zr zr zr (by omega) (fun bl2 hbl2 => ?_)
                  refine WT.vldS hT 0 hv4 hbl2 (arr_at (by omega)) zr zr zr zr zr zr zr zr zr (fun l2 hl2 => ?_)
                  refine WT.callC hg hgb zr zr zr zr zr zr zr (hcm F4 (Frz.le.refl F4) l1 l2 _ _ hl1 hl2) (fun v hvz => ?_)
                  obtain ⟨z, rfl, hz⟩ := hvz
                  (iterate 3 refine ze hT zr zr zr zr zr ?_); refine WT.nil ?_; refine And.intro trivial ?_
                  refine AW.cond rfl (fun hq => ?_) (fun hq => ?_)
                  · have hlt : lt w.d[s.a - 1]! w.d[u.1]! = false := Bool.eq_false_iff.2 (fun hh => absurd (hz.2 hh) (by simpa using hq))
                    have hrange := partEq_range lt w.d (a := s.a) (b := s.b) (p := u.1) hpa hpb (by omega)
                    have e := Go.Sort.pdq_eq (lt := lt) h h0 hp2 (by rw [hR, hpi, ← hpv]; simp [ha0, hlt]) (by rw [hR, hpi, ← hpv]; exact hrange)
                    rw [hR, hpi, ← hpv, ← hlm] at e
                    obtain ⟨pe, hpe⟩ : ∃ pe, Go.Sort.partitionEqual lt w.d s.a s.b u.1 = pe := ⟨_, rfl⟩
                    rw [hpe] at hrange
                    refine AW.seq ?_; refine AW.reg ?_; (iterate 5 refine ze hT zr zr zr zr zr ?_)
                    refine WT.call1F 0 Tryd.func174 zr zr zr zr zr zr zr (fun _ => rfl) (lrPartEq_spec _ hc4 hv4 s.a s.b u.1 hpa hpb hb1 hm) (fun F5 v B5 hF5 hv5 => ?_)
                    obtain ⟨rfl, hv5⟩ := hv5
                    rw [hpe] at hv5 ⊢
                    refine ze hT zr zr zr zr zr ?_; refine WT.nil ?_; refine AW.seq ?_; refine AW.reg ?_; (iterate 2 refine ze hT zr zr zr zr zr ?_); refine WT.nil ?_
                    refine AW.exit ?_
                    refine ⟨⟨pe.1, s.b, t.i, s.wb, s.wp, pe.2, B5⟩, by dsimp only; omega, SubK.of_map rfl, OwnLe.refl _, hv5, hrange.2, hb1, by dsimp only; omega, by dsimp only; omega, ?_⟩
                    rw [← heq, e, hpe]
                  · have hlt := hz.1 (by simpa using hq)
                    refine AW.skip ?_
                    exact ⟨(), SubK.of_map rfl, OwnLe.refl _, by rw [hlt]; simp⟩
                · have ha0 : ¬ 0 < s.a := by simp at ha0; omega
                  (iterate 13 refine zx zr zr zr zr ?_); refine ze hT zr zr zr zr zr ?_; refine WT.nil ?_; refine And.intro trivial ?_
                  refine AW.cond rfl (fun hq => (by cases hq)) (fun hq => ?_)
                  refine AW.skip ?_
                  exact ⟨(), SubK.of_map rfl, OwnLe.refl _, by simp [ha0]⟩
              · have hv5 := hv4.mono hF5
                have hc5 := hc4.mono hF5
                have hrange := part_range lt w.d (a := s.a) (b := s.b) (p := u.1) hpa hpb (by omega)
                have hx' : (decide (s.a > 0) && !lt (Go.Sort.rd lt s.d s.a s.b s.lim s.wb s.wp).pi.1[s.a - 1]! (Go.Sort.rd lt s.d s.a s.b s.lim s.wb s.wp).pi.1[(Go.Sort.rd lt s.d s.a s.b s.lim s.wb s.wp).pivot]!) = false := by rw [hR, hpi, ← hpv]; exact hx
                have hr' : s.a ≤ (Go.Sort.partition lt (Go.Sort.rd lt s.d s.a s.b s.lim s.wb s.wp).pi.1 s.a s.b (Go.Sort.rd lt s.d s.a s.b s.lim s.wb s.wp).pivot).1 ∧ (Go.Sort.partition lt (Go.Sort.rd lt s.d s.a s.b s.lim s.wb s.wp).pi.1 s.a s.b (Go.Sort.rd lt s.d s.a s.b s.lim s.wb s.wp).pivot).1 < s.b := by rw [hR, hpi, ← hpv]; exact hrange
                have eL := Go.Sort.pdq_left (lt := lt) h h0 hp2 hx' hr'
                have eR := Go.Sort.pdq_right (lt := lt) h h0 hp2 hx' hr'
                rw [hR, hpi, ← hpv, ← hlm] at eL eR
                obtain ⟨pp, hpp⟩ : ∃ pp, Go.Sort.partition lt w.d s.a s.b u.1 = pp := ⟨_, rfl⟩
                simp only [hpp] at hrange eL eR
                refine AW.seq ?_; refine AW.reg ?_; (iterate 5 refine ze hT zr zr zr zr zr ?_)
                refine WT.call1F 0 Tryd.func175 zr zr zr zr zr zr zr (fun _ => rfl) (lrPart_spec _ hc5 hv5 s.a s.b u.1 hpa hpb hb1 hm) (fun F6 v B6 hF6 hv6 => ?_)
                obtain ⟨rfl, hv6⟩ := hv6
                rw [hpp] at hv6 ⊢
                have hc6 := hc5.mono hF6
                (iterate 5 refine ze hT zr zr zr zr zr ?_); refine WT.nil ?_; refine AW.seq ?_; refine AW.reg ?_; (iterate 2 refine ze hT zr zr zr zr zr ?_); refine WT.nil ?_; refine AW.seq ?_; refine AW.reg ?_; (iterate 2 refine ze hT zr zr zr zr zr ?_); refine WT.subN zr zr zr zr zr zr (by omega) ?_; (iterate 2 refine ze hT zr zr zr zr zr ?_); refine WT.subN zr zr zr zr zr zr (by omega) ?_; (iterate 2 refine ze hT zr zr zr zr zr ?_); refine WT.nil ?_; refine AW.seq ?_; refine AW.reg ?_; refine ze hT zr zr zr zr zr ?_
                refine WT.quoL 8 zr zr zr zr zr zr (by decide) (by omega) ?_
                refine ze hT zr zr zr zr zr ?_; refine WT.nil ?_; refine AW.seq ?_; refine AW.reg ?_; (iterate 3 refine ze hT zr zr zr zr zr ?_); refine WT.nil ?_
                refine AW.cond rfl (fun hl => ?_) (fun hl => ?_)
                · have hl : pp.1 - s.a < s.b - pp.1 := by simp at hl; omega
                  refine AW.seq ?_; refine AW.reg ?_; (iterate 4 refine ze hT zr zr zr zr zr ?_); refine WT.nil ?_; refine AW.seq ?_; refine AW.reg ?_; (iterate 5 refine ze hT zr zr zr zr zr ?_)
                  refine WT.know (v' := .bool (decide (pp.1 - s.a ≥ (s.b - s.a) / 8))) 10 rfl (by congr 1; rw [decide_eq_decide]; omega) ?_
                  refine WT.call1F 0 Tryd.func150 zr zr zr zr zr zr zr (fun _ => rfl) (lrPdqR_spec N _ hc6 hv6 s.a pp.1 t.i (by omega) hrange.1 (by omega) hm (by omega)) (fun F7 v B7 hF7 hv7 => ?_)
                  refine WT.nil ?_; refine AW.reg ?_; refine ze hT zr zr zr zr zr ?_; refine WT.add1 zr zr zr zr zr zr (by omega) ?_; refine ze hT zr zr zr zr zr ?_; refine WT.nil ?_
                  refine ⟨⟨pp.1 + 1, s.b, t.i, decide (pp.1 - s.a ≥ (s.b - s.a) / 8), pp.2.1, _, B7⟩, by dsimp only; omega, SubK.of_map rfl, OwnLe.refl _, hv7, by dsimp only; omega, hb1, by dsimp only; omega, by dsimp only; omega, ?_⟩
                  rw [← heq, eL hl]
                · have hl : ¬ pp.1 - s.a < s.b - pp.1 := by simp at hl; omega
                  refine AW.seq ?_; refine AW.reg ?_; (iterate 4 refine ze hT zr zr zr zr zr ?_); refine WT.nil ?_; refine AW.seq ?_; refine AW.reg ?_; (iterate 2 refine ze hT zr zr zr zr zr ?_); refine WT.add1 zr zr zr zr zr zr (by omega) ?_; (iterate 3 refine ze hT zr zr zr zr zr ?_)
                  refine WT.know (v' := .bool (decide (s.b - pp.1 ≥ (s.b - s.a) / 8))) 10 rfl (by congr 1; rw [decide_eq_decide]; omega) ?_
                  refine WT.call1F 0 Tryd.func150 zr zr zr zr zr zr zr (fun _ => rfl) (lrPdqR_spec N _ hc6 hv6 (pp.1 + 1) s.b t.i (by omega) (by omega) hb1 hm (by omega)) (fun F7 v B7 hF7 hv7 => ?_)
                  refine WT.nil ?_; refine AW.reg ?_; (iterate 2 refine ze hT zr zr zr zr zr ?_); refine WT.nil ?_
                  refine ⟨⟨s.a, pp.1, t.i, decide (s.b - pp.1 ≥ (s.b - s.a) / 8), pp.2.1, _, B7⟩, by dsimp only; omega, SubK.of_map rfl, OwnLe.refl _, hv7, by dsimp only; omega, by dsimp only; omega, by dsimp only; omega, by dsimp only; omega, ?_⟩
                  rw [← heq, eR hl]

theorem lrSort_spec (F : Frz) {lt : Lr → Lr → Bool} {g : Nat} {first capt : List Value} (hc : CmpOk tLr lt F g first capt) {a0 : Option Addr} {m c : Nat} {B : List (Nat × Blk)} {xs : List Lr} (hv : Vec tLr F a0 m c B xs) (hm : m ≤ 1000000) :
    Abs.Spec CC 134 [.slice a0 m c, .func (.func g) ⟨first⟩ ⟨capt⟩] F [B] fun F' v o => ∃ B', o = [B'] ∧ Vec tLr F' a0 m c B' (Go.Sort.sort lt xs.toArray).toList := by
  have hl := hv.len
  have hb : Go.Sort.bitsLen m ≤ 20 := (Go.Sort.bitsLen_le_iff _ _).2 (by have : 2 ^ 20 = 1048576 := rfl
                                                                         omega)
  refine Abs.Spec.fn (n := 14) Tryd.func134 rfl rfl fun own => ?_
  refine AW.seq ?_; refine AW.reg ?_; (iterate 3 refine ze hT zr zr zr zr zr ?_); refine WT.nil ?_; refine AW.reg ?_; (iterate 3 refine ze hT zr zr zr zr zr ?_)
  refine WT.conv hT (k2 := .u64) zr zr zr zr zr zr zr zr (wrapU64 (by omega)) ?_
  refine WT.callV Tryd.func139 zr zr zr zr zr zr (blen_spec _ m (by omega)) (fun v hv' => ?_)
  subst hv'
  refine ze hT zr zr zr zr zr ?_
  refine WT.call1F 0 Tryd.func150 zr zr zr zr zr zr zr (fun _ => rfl) (lrPdqR_spec (m + 1) _ hc (d := xs.toArray) hv 0 m (Go.Sort.bitsLen m) (by omega) (Nat.zero_le _) (Nat.le_refl _) hm (by omega)) (fun F7 v B7 hF7 hv7 => ?_)
  refine WT.nil ?_
  refine ⟨_, [_], rfl, (by repeat (first | exact List.Sublist.refl _ | refine List.Sublist.cons _ ?_)), _, rfl, ?_⟩
  rw [Go.Sort.sort, show xs.toArray.size = m from by simp [hl]]
  exact hv7

end Go.Proofs.D

set_option linter.unusedVariables false
set_option maxRecDepth 20000
set_option maxHeartbeats 0
open Go Go.Abs Go.Proofs Go.Proofs.D
namespace Go.Proofs.D

/-! ### one of each -/
def Asc (l : List Lr) : Prop := l.Pairwise (fun x y => ltLr y x = false)
def Strict (l : List Lr) : Prop := l.Pairwise (fun x y => ltLr x y = true)

theorem asc_step {xs : List Lr} (h : Asc xs) {j : Nat} {x p z : Lr} (hx : xs[j]? = some x) (hp : xs[j - 1]? = some p) (hj : 0 < j) (hne : x ≠ p) (hz : z ∈ xs.take j) : ltLr z x = true := by
  unfold Asc at h
  rw [List.pairwise_iff_getElem] at h
  obtain ⟨hjl, hx⟩ := List.getElem?_eq_some_iff.1 hx
  obtain ⟨hpl, hp⟩ := List.getElem?_eq_some_iff.1 hp
  have h1 := h (j - 1) j hpl hjl (by omega)
  rw [hx, hp] at h1
  have h2 : ltLr p x = true := by
    cases e : ltLr p x with
    | true => rfl
    | false => exact absurd (ltLr_anti _ _ h1 e) hne
  obtain ⟨i, hi, rfl⟩ := List.getElem_of_mem hz
  rw [List.length_take] at hi
  rw [List.getElem_take]
  have hil : i < xs.length := by omega
  rcases Nat.lt_or_ge i (j - 1) with h3 | h3
  · have h4 := h i (j - 1) hil hpl h3
    rw [hp] at h4
    rw [ltLr_not] at h4
    rw [ltLr_iff] at h2 ⊢
    omega
  · obtain rfl : i = j - 1 := by omega
    rw [hp]; exact h2

theorem take_more {xs : List Lr} {j : Nat} {x : Lr} (hx : xs[j]? = some x) : xs.take (j + 1) = xs.take j ++ [x] := by rw [List.take_add_one, hx]; rfl

theorem mem_prev {xs : List Lr} {j : Nat} {p : Lr} (hp : xs[j - 1]? = some p) (hj : 0 < j) : p ∈ xs.take j := by
  refine List.mem_of_getElem? (i := j - 1) ?_
  rw [List.getElem?_take, if_pos (by omega), hp]

structure LCt where
  i : Nat
  q : Nat
  ys : List Lr
  B : List (Nat × Blk)

theorem lrCompact_spec (F : Frz) {a : Option Addr} {m c : Nat} {B : List (Nat × Blk)} {xs : List Lr} (hv : Vec tLr F a m c B xs) (hm : m ≤ 1000000) (hs : Asc xs) :
    Abs.Spec CC 136 [.slice a m c] F [B] fun F' v o => o = [] ∧ ∃ a' m' c' zs, v = .slice a' m' c' ∧ Arr tLr F' a' m' c' zs ∧ m' ≤ m ∧ Strict zs ∧ ∀ z, z ∈ zs ↔ z ∈ xs := by
  have hl := hv.len
  refine Abs.Spec.fn (n := 61) Tryd.func136 rfl rfl fun own => ?_
  refine AW.seq ?_; refine AW.reg ?_; refine ze hT zr zr zr zr zr ?_; refine WT.nil ?_; (iterate 2 refine AW.seq ?_); refine AW.reg ?_; (iterate 3 refine ze hT zr zr zr zr zr ?_); refine WT.nil ?_
  refine AW.cond rfl (fun h => ?_) (fun h => ?_)
  · have h : m < 2 := by simp at h; omega
    refine AW.freezeAll 0 rfl rfl (fun F1 hF1 hB1 => ?_)
    refine AW.seq ?_; refine AW.reg ?_; (iterate 2 refine ze hT zr zr zr zr zr ?_); refine WT.nil ?_
    refine AW.ret ⟨_, [], ⟨_, _, rfl, rfl, rfl⟩, (by repeat (first | exact List.Sublist.refl _ | refine List.Sublist.cons _ ?_)), rfl, a, m, c, xs, rfl, hv.arr hF1 hB1, Nat.le_refl _, ?_, fun _ => Iff.rfl⟩
    match xs, hl with
    | [], _ => exact List.Pairwise.nil
    | [x], _ => exact List.pairwise_singleton _ _
    | _ :: _ :: _, hl => simp at hl; omega
  have h : 2 ≤ m := by simp at h; omega
  obtain ⟨x0, hx0⟩ : ∃ x, xs[0]? = some x := ⟨_, List.getElem?_eq_getElem (by omega)⟩
  obtain ⟨ib, cs0, rfl, rfl, hcs0, _⟩ := hv.at_ hx0
  obtain rfl : c = 2 := by
    rcases hv.cap with h5 | h5
    · have := hv.zero h5; omega
    · exact h5
  refine AW.skip ?_; (iterate 2 refine AW.seq ?_); refine AW.reg ?_; refine ze hT zr zr zr zr zr ?_; refine WT.nil ?_
  refine AW.block ?_
  refine AW.loopR (S := Nat) (fun i => [(3, .int .i64 (i : Nat))]) (fun _ => _) (fun i G => 1 ≤ i ∧ i ≤ m ∧ Strict (xs.take i)) (fun i => m - i) 1
    (SubK.of_map rfl) (OwnLe.refl _) ⟨Nat.le_refl _, by omega, ?_⟩ ?_
  · rw [take_more (j := 0) hx0]; exact List.pairwise_singleton _ _
  intro i F1 hF1 hP
  obtain ⟨hi1, him, hst⟩ := hP
  have hv1 := hv.mono hF1
  (iterate 2 refine AW.seq ?_); refine AW.reg ?_; (iterate 4 refine ze hT zr zr zr zr zr ?_); refine WT.nil ?_
  refine AW.cond rfl (fun h2 => ?_) (fun h2 => ?_)
  · have h2 : i < m := by simpa using h2
    obtain ⟨x, hx⟩ : ∃ x, xs[i]? = some x := ⟨_, List.getElem?_eq_getElem (by omega)⟩
    obtain ⟨p, hp⟩ : ∃ x, xs[i - 1]? = some x := ⟨_, List.getElem?_eq_getElem (by omega)⟩
    refine AW.skip ?_; refine AW.seq ?_
    refine AW.block ?_
    refine AW.seq ?_; refine AW.draw (ps := []) zr zr ?_; (iterate 2 refine ze hT zr zr zr zr zr ?_)
    refine WT.vidx hT hv1 zr zr zr zr zr zr zr zr zr h2 (fun b5 hb5 => ?_)
    refine WT.vldS hT 0 hv1 hb5 hx zr zr zr zr zr zr zr zr zr (fun l hl => ?_)
    obtain rfl : l = _ := hl
    (iterate 2 refine ze hT zr zr zr zr zr ?_); refine WT.sub1 zr zr zr zr zr zr (by omega) ?_
    refine WT.vidx hT hv1 zr zr zr zr zr zr zr zr zr (by omega) (fun b6 hb6 => ?_)
    refine WT.vldS hT 0 hv1 hb6 hp zr zr zr zr zr zr zr zr zr (fun l hl => ?_)
    obtain rfl : l = _ := hl
    refine zq hT zr zr zr zr zr zr zr ?_; refine WT.nil ?_; refine And.intro trivial ?_
    refine AW.cond rfl (fun h3 => ?_) (fun h3 => ?_)
    · have e : x = p := by
        simp at h3
        cases x; cases p
        simp only [Lr.mk.injEq] at *
        omega
      subst e
      refine AW.seq ?_; refine AW.reg ?_; (iterate 2 refine ze hT zr zr zr zr zr ?_)
      refine WT.slice zr zr zr zr zr zr zr zr (fun h0 => sliceA_some (lo := i) (hi := m) hT zr zr zr zr zr (by omega) (Nat.le_refl _) (.inr rfl) h0) ?_
      refine ze hT zr zr zr zr zr ?_; refine WT.nil ?_; (iterate 2 refine AW.seq ?_); refine AW.reg ?_; refine ze hT zr zr zr zr zr ?_; refine WT.nil ?_
      refine AW.block ?_
      refine AW.loopR (S := LCt) (fun s => [(3, .int .i64 (s.i : Nat)), (5, .int .i64 (s.q : Nat))]) (fun s => s.B :: own)
        (fun s G => Vec tLr G (some ⟨ib, 0, none⟩) m 2 s.B s.ys ∧ 1 ≤ s.q ∧ i + s.q ≤ m ∧ s.i + 1 ≤ i + s.q ∧ s.ys.drop (i + s.q - 1) = xs.drop (i + s.q - 1) ∧ Strict (s.ys.take s.i) ∧ ∀ z, z ∈ s.ys.take s.i ↔ z ∈ xs.take (i + s.q)) (fun s => m - s.q) ⟨i, 1, xs, _⟩
        (SubK.of_map rfl) (OwnLe.refl _) ⟨hv1, Nat.le_refl _, by dsimp only; omega, Nat.le_refl _, rfl, hst, fun z => ?_⟩ ?_
      · show z ∈ xs.take i ↔ z ∈ xs.take (i + 1)
        rw [take_more hx, List.mem_append]
        exact ⟨.inl, fun hz => hz.elim id fun hz => by
          have e : z = x := by simpa using hz
          subst e
          exact mem_prev hp (by omega)⟩
      intro s F2 hF2 hP
      obtain ⟨hv2, hq1, hqm, hsi, hdr, hstr, hmem⟩ := hP
      have hv2l := hv2.len
      (iterate 2 refine AW.seq ?_); refine AW.reg ?_; (iterate 4 refine ze hT zr zr zr zr zr ?_); refine WT.nil ?_
      refine AW.cond rfl (fun h4 => ?_) (fun h4 => ?_)
      · have h4 : i + s.q < m := by simp at h4; omega
        refine AW.skip ?_; refine AW.seq ?_
        refine AW.block ?_
        refine AW.seq ?_; refine AW.draw (ps := []) zr zr ?_; (iterate 2 refine ze hT zr zr zr zr zr ?_)
        obtain ⟨y, hy⟩ : ∃ y, xs[i + s.q]? = some y := ⟨_, List.getElem?_eq_getElem (by omega)⟩
        obtain ⟨p2, hp2⟩ : ∃ y, xs[i + s.q - 1]? = some y := ⟨_, List.getElem?_eq_getElem (by omega)⟩
        have up : ∀ d, s.ys[i + s.q - 1 + d]? = xs[i + s.q - 1 + d]? := fun d => by
          rw [← List.getElem?_drop, hdr, List.getElem?_drop]
        have hy2 : s.ys[i + s.q]? = some y := by
          have := up 1
          rw [show i + s.q - 1 + 1 = i + s.q by omega] at this
          rw [this, hy]
        have hp3 : s.ys[i + s.q - 1]? = some p2 := by
          have := up 0
          rw [Nat.add_zero] at this
          rw [this, hp2]
        have hdr2 : s.ys.drop (i + s.q) = xs.drop (i + s.q) := by
          have := congrArg (List.drop 1) hdr
          rw [List.drop_drop, List.drop_drop, show i + s.q - 1 + 1 = i + s.q by omega] at this; exact this
        refine WT.idxA hT zr zr zr zr zr zr zr zr zr (by omega) ?_
        rw [show 0 + i * 2 + s.q * 2 = (i + s.q) * 2 by omega]
        refine WT.vldS hT 0 hv2 rfl hy2 zr zr zr zr zr zr zr zr zr (fun l hl => ?_)
        obtain rfl : l = _ := hl
        (iterate 2 refine ze hT zr zr zr zr zr ?_); refine WT.sub1 zr zr zr zr zr zr (by omega) ?_
        refine WT.idxA hT zr zr zr zr zr zr zr zr zr (by omega) ?_
        rw [show 0 + i * 2 + (s.q - 1) * 2 = (i + s.q - 1) * 2 by omega]
        refine WT.vldS hT 0 hv2 rfl hp3 zr zr zr zr zr zr zr zr zr (fun l hl => ?_)
        obtain rfl : l = _ := hl
        refine zp hT zr zr zr zr zr zr zr ?_; refine WT.nil ?_; refine And.intro trivial ?_
        refine AW.cond rfl (fun h5 => ?_) (fun h5 => ?_)
        · have hne : y ≠ p2 := by
            rintro rfl
            simp at h5
          refine AW.seq ?_; refine AW.reg ?_; (iterate 4 refine ze hT zr zr zr zr zr ?_)
          refine WT.idxA hT zr zr zr zr zr zr zr zr zr (by omega) ?_
          rw [show 0 + i * 2 + s.q * 2 = (i + s.q) * 2 by omega]
          refine WT.vldS hT 0 hv2 rfl hy2 zr zr zr zr zr zr zr zr zr (fun l hl => ?_)
          obtain rfl : l = _ := hl
          skip
          refine WT.vidx hT hv2 zr zr zr zr zr zr zr zr zr (by omega) (fun b6 hb6 => ?_)
          obtain ⟨z, hz⟩ : ∃ z, s.ys[s.i]? = some z := ⟨_, List.getElem?_eq_getElem (by omega)⟩
          have hil : s.i < s.ys.length := by omega
          refine WT.vst (y := y) hT 0 hv2 hb6 hz zr zr zr zr zr zr zr (fun _ => rfl) rfl (fun B6 hB6 => ?_)
          refine WT.nil ?_; refine AW.reg ?_; refine ze hT zr zr zr zr zr ?_; refine WT.add1 zr zr zr zr zr zr (by omega) ?_; refine ze hT zr zr zr zr zr ?_; refine WT.nil ?_; refine AW.reg ?_; refine ze hT zr zr zr zr zr ?_; refine WT.add1 zr zr zr zr zr zr (by omega) ?_; refine ze hT zr zr zr zr zr ?_; refine WT.nil ?_
          have ht : (s.ys.set s.i y).take (s.i + 1) = s.ys.take s.i ++ [y] := by
            rw [List.take_add_one, List.getElem?_set_self hil, List.take_set_of_le (Nat.le_refl _)]; rfl
          refine ⟨⟨s.i + 1, s.q + 1, s.ys.set s.i y, B6⟩, by dsimp only; omega, SubK.of_map rfl, (by repeat (first | exact OwnLe.refl _ | refine OwnLe.skip _ ?_)), hB6, by dsimp only; omega, by dsimp only; omega, by dsimp only; omega, ?_, ?_, fun w => ?_⟩
          · show (s.ys.set s.i y).drop (i + (s.q + 1) - 1) = xs.drop (i + (s.q + 1) - 1)
            rw [show i + (s.q + 1) - 1 = i + s.q by omega, List.drop_set_of_lt (by omega), hdr2]
          · show Strict ((s.ys.set s.i y).take (s.i + 1))
            rw [ht]
            refine List.pairwise_append.2 ⟨hstr, List.pairwise_singleton _ _, fun w hw w2 hw2 => ?_⟩
            obtain rfl : w2 = y := by simpa using hw2
            exact asc_step hs hy hp2 (by omega) hne ((hmem w).1 hw)
          · show w ∈ (s.ys.set s.i y).take (s.i + 1) ↔ w ∈ xs.take (i + (s.q + 1))
            rw [ht, ← Nat.add_assoc, take_more hy, List.mem_append, List.mem_append, hmem]
        · have e : y = p2 := by
            simp at h5
            cases y; cases p2
            simp only [Lr.mk.injEq] at *
            omega
          subst e
          refine AW.skip ?_; refine AW.reg ?_; refine ze hT zr zr zr zr zr ?_; refine WT.add1 zr zr zr zr zr zr (by omega) ?_; refine ze hT zr zr zr zr zr ?_; refine WT.nil ?_
          refine ⟨⟨s.i, s.q + 1, s.ys, s.B⟩, by dsimp only; omega, SubK.of_map rfl, (by repeat (first | exact OwnLe.refl _ | refine OwnLe.skip _ ?_)), hv2, by dsimp only; omega, by dsimp only; omega, by dsimp only; omega, ?_, hstr, fun w => ?_⟩
          · show s.ys.drop (i + (s.q + 1) - 1) = xs.drop (i + (s.q + 1) - 1)
            rw [show i + (s.q + 1) - 1 = i + s.q by omega, hdr2]
          · show w ∈ s.ys.take s.i ↔ w ∈ xs.take (i + (s.q + 1))
            rw [hmem, ← Nat.add_assoc, take_more hy, List.mem_append]
            exact ⟨.inl, fun hz => hz.elim id fun hz => by
              have e : w = y := by simpa using hz
              subst e
              exact mem_prev hp2 (by omega)⟩
      · have h4 : i + s.q = m := by simp at h4; omega
        skip
        refine AW.exit ?_
        refine AW.seq ?_; refine AW.reg ?_; (iterate 2 refine ze hT zr zr zr zr zr ?_)
        refine WT.slice zr zr zr zr zr zr zr zr (fun h0 => sliceA_some (lo := s.i) (hi := m) hT zr zr zr zr zr (by omega) (Nat.le_refl _) (.inr rfl) h0) ?_
        refine WT.vclear (x0 := (⟨0, 0⟩ : Lr)) (i := s.i) (l := m - s.i) hT 0 hv2 zr zr zr zr zr zr zr zr zr (by omega) (by omega) rfl (fun _ => rfl) (fun B6 hB6 => ?_)
        refine WT.freezeAll 0 rfl rfl (fun F6 hF6 hB6' => ?_)
        have harr := hB6.arr hF6 hB6'
        obtain ⟨sa, sc, hss, hsl⟩ := harr.slice (C := CC) (lo := 0) (hi := s.i) (Nat.zero_le _) (by omega) hT (t := 73) zr zr zr none (some (.int .i64 (s.i : Nat))) rfl rfl
        refine WT.nil ?_; refine AW.seq ?_; refine AW.reg ?_; (iterate 2 refine ze hT zr zr zr zr zr ?_)
        refine WT.slice zr zr zr zr zr zr zr zr hss ?_
        refine ze hT zr zr zr zr zr ?_; refine WT.nil ?_
        have e : (List.take s.i (List.take s.i s.ys ++ List.replicate (m - s.i) ⟨0, 0⟩)).drop 0 = s.ys.take s.i := by
          rw [List.drop_zero, List.take_left' (by rw [List.length_take]; omega)]
        rw [e] at hsl
        refine AW.ret ⟨_, [], ⟨_, _, rfl, rfl, rfl⟩, (by repeat (first | exact List.Sublist.refl _ | refine List.Sublist.cons _ ?_)), rfl, sa, _, sc, _, rfl, hsl, by omega, hstr, fun w => ?_⟩
        rw [hmem, h4, List.take_of_length_le (by omega)]
    · have hne : x ≠ p := by
        rintro rfl
        simp at h3
      refine AW.skip ?_; refine AW.reg ?_; refine ze hT zr zr zr zr zr ?_; refine WT.add1 zr zr zr zr zr zr (by omega) ?_; refine ze hT zr zr zr zr zr ?_; refine WT.nil ?_
      refine ⟨i + 1, by omega, SubK.of_map rfl, (by repeat (first | exact OwnLe.refl _ | refine OwnLe.skip _ ?_)), by omega, by omega, ?_⟩
      rw [take_more hx]
      refine List.pairwise_append.2 ⟨hst, List.pairwise_singleton _ _, fun w hw w2 hw2 => ?_⟩
      obtain rfl : w2 = x := by simpa using hw2
      exact asc_step hs hx hp (by omega) hne hw
  · have h2 : i = m := by simp at h2; omega
    skip
    refine AW.exit ?_
    refine AW.freezeAll 0 rfl rfl (fun F2 hF2 hB2 => ?_)
    refine AW.seq ?_; refine AW.reg ?_; (iterate 2 refine ze hT zr zr zr zr zr ?_); refine WT.nil ?_
    refine AW.ret ⟨_, [], ⟨_, _, rfl, rfl, rfl⟩, (by repeat (first | exact List.Sublist.refl _ | refine List.Sublist.cons _ ?_)), rfl, _, m, _, xs, rfl, hv1.arr hF2 hB2, Nat.le_refl _, ?_, fun _ => Iff.rfl⟩
    rw [List.take_of_length_le (by omega)] at hst
    exact hst
end Go.Proofs.D

set_option linter.unusedVariables false
set_option maxRecDepth 20000
set_option maxHeartbeats 0
open Go Go.Abs Go.Proofs Go.Proofs.D
namespace Go.Proofs.D

/-- The symbol after the dot. -/
def afterL (g : Gram) (x : Lr) : Option Sym :=
  if x.rule = g.rules.length then (if x.dot = 0 then some ⟨false, g.start⟩ else none) else match g.rules[x.rule]? with
    | some r => r.right[x.dot]?
    | none => none

theorem lrAfter_spec (F : Frz) (g : Gram) (hg4 : ∀ r ∈ g.rules, r.right.length ≤ 100) {a : Option Addr} {m c : Nat} (hr : Arr tRule F a m c g.rules) (hm : m ≤ 1000000) (x : Lr) (hx : x.rule ≤ m) :
    Abs.Spec CC 95 [.agg ⟨gramCells g a m c⟩, .agg ⟨[.int .i64 x.rule, .int .i64 x.dot]⟩] F [] fun _ v o => o = [] ∧ ∃ (y : Sym) (b : Bool), v = .tuple ⟨[.agg ⟨[.bool y.term, .int .i64 y.n]⟩, .bool b]⟩ ∧ (b = true → afterL g x = some y) ∧ (b = false → afterL g x = none) := by
  have hml := hr.len
  unfold gramCells
  refine Abs.Spec.fn (n := 37) Tryd.func95 rfl rfl fun own => ?_
  refine AW.seq (AW.reg ?_)
  refine WT.boxT zr zr zr zr zr zr (fun i2 hi2 => ?_)
  refine WT.boxT zr zr zr zr zr zr (fun i3 hi3 => ?_)
  refine WT.allocT hT zr zr zr zr zr zr (fun i4 hi4 => ?_)
  refine ze hT zr zr zr zr zr ?_; refine WT.nil ?_; (iterate 2 refine AW.seq ?_); refine AW.reg ?_; refine ze hT zr zr zr zr zr ?_; refine zl hT 1 zr zr zr zr zr zr me zr ?_; refine ze hT zr zr zr zr zr ?_; refine zl hT 2 zr zr zr zr zr zr me zr ?_; (iterate 2 refine ze hT zr zr zr zr zr ?_); refine WT.nil ?_
  refine AW.cond rfl (fun h => ?_) (fun h => ?_)
  · have h : x.rule = g.rules.length := by simp at h; omega
    refine AW.seq ?_
    refine AW.draw (ps := [(4, 2), (4, 6), (5, 2), (5, 6)]) rfl rfl ?_
    refine ze hT zr zr zr zr zr ?_; refine zl hT 2 zr zr zr zr zr zr me zr ?_
    refine WT.callV Tryd.func87 zr zr zr zr zr zr (gN_spec _ _) (fun v hv => ?_)
    subst hv
    refine ze hT zr zr zr zr zr ?_; refine zl hT 1 zr zr zr zr zr zr me zr ?_; refine ze hT zr zr zr zr zr ?_; refine zs hT 0 0 zr zr zr zr zr zr zr zr zr zr zr zr ?_; refine ze hT zr zr zr zr zr ?_; refine WT.nil ?_
    refine ⟨(by repeat (first | exact trivial | refine recs_pair rfl rfl (by first | exact keep0 | exact keep1 (keeps_frz (by assumption)) | exact kp 0 0 me me | exact kp 1 1 me me | exact kp 2 2 me me | exact kp 3 3 me me | exact kp 4 4 me me | exact kp 5 5 me me | exact kp 6 6 me me | exact kp 0 1 me me | exact kp 1 2 me me | exact kp 2 3 me me | exact kp 3 4 me me | exact kp 4 5 me me | exact kp 5 6 me me | exact kp 6 7 me me) ?_)), ?_⟩
    refine AW.ret ⟨_, [], ⟨_, _, ⟨_, rfl, fun G h0 s0 => loadA_cells (s0.has (p := 0) rfl (List.mem_cons_self ..)) (readT_ok hT rfl)⟩, ⟨_, _, rfl, rfl, rfl⟩, rfl⟩, (by repeat (first | exact List.Sublist.refl _ | refine List.Sublist.cons _ ?_)), rfl, ⟨false, g.start⟩, _, rfl, fun hb => ?_, fun hb => ?_⟩
    · unfold afterL
      rw [if_pos h, if_pos (by simpa using hb)]
    · unfold afterL
      rw [if_pos h, if_neg (by simpa using hb)]
  · have h : x.rule < g.rules.length := by simp at h; omega
    refine AW.skip ?_; (iterate 2 refine AW.seq ?_); refine AW.reg ?_; refine ze hT zr zr zr zr zr ?_; refine zl hT 2 zr zr zr zr zr zr me zr ?_; refine ze hT zr zr zr zr zr ?_; refine zl hT 1 zr zr zr zr zr zr me zr ?_
    refine WT.idxL hT hr zr zr zr zr zr zr zr zr zr (by omega) (fun r hrx b5 off5 ro5 cs5 lx5 hb5 hp5 hrel5 => ?_)
    obtain ⟨ra, rn, rc, rfl, hra⟩ := hrel5
    have hral := hra.len
    have hr4 := hg4 r (List.mem_of_getElem? hrx)
    have ha : afterL g x = r.right[x.dot]? := by
      unfold afterL
      rw [if_neg (by omega), hrx]
    refine ze hT zr zr zr zr zr ?_; refine zi hT (by assumption) (by assumption) zr zr zr zr zr zr ?_; refine ze hT zr zr zr zr zr ?_; refine WT.nil ?_; refine AW.seq ?_; refine AW.reg ?_; refine ze hT zr zr zr zr zr ?_; refine zl hT 1 zr zr zr zr zr zr me zr ?_; (iterate 3 refine ze hT zr zr zr zr zr ?_); refine WT.nil ?_
    refine AW.cond rfl (fun h2 => ?_) (fun h2 => ?_)
    · have h2 : x.dot < rn := by simp at h2; omega
      refine AW.seq ?_; refine AW.reg ?_; (iterate 2 refine ze hT zr zr zr zr zr ?_); refine zl hT 1 zr zr zr zr zr zr me zr ?_
      refine WT.idxL hT hra zr zr zr zr zr zr zr zr zr (by omega) (fun y hy b6 off6 ro6 cs6 lx6 hb6 hp6 hrel6 => ?_)
      obtain rfl : lx6 = _ := hrel6
      refine zi (fo := 0) hT (by assumption) (by assumption) zr zr zr zr zr zr ?_; refine zs hT 0 0 zr zr zr zr zr zr zr zr zr zr zr zr ?_; refine ze hT zr zr zr zr zr ?_; refine WT.nil ?_
      refine AW.ret ⟨_, [], ⟨_, _, ⟨_, rfl, fun G h0 s0 => loadA_cells (s0.has (p := 0) rfl (List.mem_cons_self ..)) (readT_ok hT rfl)⟩, ⟨_, _, rfl, rfl, rfl⟩, rfl⟩, (by repeat (first | exact List.Sublist.refl _ | refine List.Sublist.cons _ ?_)), rfl, y, true, rfl, fun _ => ?_, fun hb => by cases hb⟩
      rw [ha, hy]
    · have h2 : rn ≤ x.dot := by simp at h2; omega
      refine AW.skip ?_; refine AW.seq ?_; refine AW.reg ?_; refine ze hT zr zr zr zr zr ?_; refine zs hT 0 0 zr zr zr zr zr zr zr zr zr zr zr zr ?_; refine ze hT zr zr zr zr zr ?_; refine WT.nil ?_
      refine AW.ret ⟨_, [], ⟨_, _, ⟨_, rfl, fun G h0 s0 => loadA_cells (s0.has (p := 0) rfl (List.mem_cons_self ..)) (readT_ok hT rfl)⟩, ⟨_, _, rfl, rfl, rfl⟩, rfl⟩, (by repeat (first | exact List.Sublist.refl _ | refine List.Sublist.cons _ ?_)), rfl, ⟨false, 0⟩, false, rfl, fun hb => (by cases hb), fun _ => ?_⟩
      rw [ha, List.getElem?_eq_none_iff]
      omega

theorem lrRight_spec (F : Frz) (g : Gram) (hg4 : ∀ r ∈ g.rules, r.right.length ≤ 100) {a : Option Addr} {m c : Nat} (hr : Arr tRule F a m c g.rules) (hm : m ≤ 1000000) (x : Nat) (hx : x ≤ m) :
    Abs.Spec CC 39 [.agg ⟨gramCells g a m c⟩, .int .i64 x] F [] fun _ v o => o = [] ∧ ∃ b n d, v = .slice b n d ∧ n = (if x = m then 1 else ((g.rules[x]?).map (·.right.length)).getD 0) := by
  have hml := hr.len
  unfold gramCells
  refine Abs.Spec.fn (n := 32) Tryd.func39 rfl rfl fun own => ?_
  refine AW.seq (AW.reg ?_)
  refine WT.boxT zr zr zr zr zr zr (fun i2 hi2 => ?_)
  refine ze hT zr zr zr zr zr ?_; refine WT.nil ?_; refine AW.seq ?_
  refine AW.block ?_
  refine AW.seq ?_; refine AW.reg ?_; (iterate 2 refine ze hT zr zr zr zr zr ?_); refine zl hT 0 zr zr zr zr zr zr me zr ?_; (iterate 3 refine ze hT zr zr zr zr zr ?_); refine WT.nil ?_
  refine AW.cond rfl (fun h => ?_) (fun h => ?_)
  · have h : x = m := by simp at h; omega
    refine AW.seq ?_; refine AW.reg ?_; refine ze hT zr zr zr zr zr ?_; refine zl hT 0 zr zr zr zr zr zr me zr ?_
    refine WT.callV Tryd.func87 zr zr zr zr zr zr (gN_spec _ _) (fun v hv => ?_)
    subst hv
    skip
    refine WT.buildT hT zr zr zr zr zr zr zr zr zr zr zr zr zr zr (fun i5 hi5 => ?_)
    refine ze hT zr zr zr zr zr ?_; refine WT.nil ?_
    refine AW.ret ⟨_, [], ⟨_, _, rfl, rfl, rfl⟩, (by repeat (first | exact List.Sublist.refl _ | refine List.Sublist.cons _ ?_)), rfl, _, _, _, rfl, ?_⟩
    rw [if_pos h]
  · have h : x < m := by simp at h; omega
    refine AW.seq ?_; refine AW.reg ?_; (iterate 5 refine ze hT zr zr zr zr zr ?_); refine zl hT 0 zr zr zr zr zr zr me zr ?_; (iterate 4 refine ze hT zr zr zr zr zr ?_); refine WT.nil ?_
    refine AW.cond rfl (fun h => (by simp at h; omega)) (fun _ => ?_)
    refine AW.skip ?_; refine AW.seq ?_; refine AW.reg ?_; refine ze hT zr zr zr zr zr ?_; refine zl hT 0 zr zr zr zr zr zr me zr ?_; refine ze hT zr zr zr zr zr ?_
    refine WT.idxL hT hr zr zr zr zr zr zr zr zr zr (by omega) (fun r hrx b5 off5 ro5 cs5 lx5 hb5 hp5 hrel5 => ?_)
    obtain ⟨ra, rn, rc, rfl, hra⟩ := hrel5
    have hral := hra.len
    have hr4 := hg4 r (List.mem_of_getElem? hrx)
    refine ze hT zr zr zr zr zr ?_; refine zi hT (by assumption) (by assumption) zr zr zr zr zr zr ?_
    refine WT.callN Tryd.func49 zr zr zr zr zr zr (symClone_spec _ hra (by omega)) (fun F2 v B2 hF2 hv => ?_)
    obtain ⟨ca, cc, rfl, _⟩ := hv
    refine ze hT zr zr zr zr zr ?_; refine WT.nil ?_
    refine AW.ret ⟨_, [], ⟨_, _, rfl, rfl, rfl⟩, (by repeat (first | exact List.Sublist.refl _ | refine List.Sublist.cons _ ?_)), rfl, _, _, _, rfl, ?_⟩
    rw [if_neg (by omega), hrx]
    exact hral
end Go.Proofs.D

set_option linter.unusedVariables false
set_option maxRecDepth 20000
set_option maxHeartbeats 0
open Go Go.Abs Go.Proofs Go.Proofs.D
namespace Go.Proofs.D

/-- The closure of items. -/
inductive Clos (g : Gram) (l : List Lr) : Lr → Prop
  | base {x : Lr} : x ∈ l → Clos g l x
  | more {x : Lr} {n k : Nat} {r : Rule} : Clos g l x → afterL g x = some ⟨false, n⟩ → g.rules[k]? = some r → r.left = n → Clos g l ⟨k, 0⟩

structure CInv (g : Gram) (l xs : List Lr) : Prop where
  ad : ∃ ad : List Nat, xs = l ++ ad.map (fun k => ⟨k, 0⟩) ∧ ad.Nodup ∧ ∀ k ∈ ad, k < g.rules.length
  clos : ∀ x ∈ xs, Clos g l x

def Fed (g : Gram) (xs : List Lr) (x : Lr) : Prop := ∀ n k r, afterL g x = some ⟨false, n⟩ → g.rules[k]? = some r → r.left = n → (⟨k, 0⟩ : Lr) ∈ xs

theorem CInv.few {g : Gram} {l xs : List Lr} (h : CInv g l xs) : xs.length ≤ l.length + g.rules.length := by
  obtain ⟨ad, rfl, hn, hk⟩ := h.ad
  have := nodup_lt _ ad hn hk
  rw [List.length_append, List.length_map]; omega

theorem CInv.rule {g : Gram} {l xs : List Lr} (h : CInv g l xs) (hl : ∀ x ∈ l, x.rule ≤ g.rules.length) : ∀ x ∈ xs, x.rule ≤ g.rules.length := by
  obtain ⟨ad, rfl, hn, hk⟩ := h.ad
  intro x hx
  rcases List.mem_append.1 hx with h1 | h1
  · exact hl x h1
  · obtain ⟨k, h2, rfl⟩ := List.mem_map.1 h1
    exact Nat.le_of_lt (hk k h2)

theorem CInv.add {g : Gram} {l xs : List Lr} (h : CInv g l xs) {x : Lr} (hx : x ∈ xs) {n k : Nat} {r : Rule} (h1 : afterL g x = some ⟨false, n⟩) (h2 : g.rules[k]? = some r) (h3 : r.left = n) (hno : (⟨k, 0⟩ : Lr) ∉ xs) : CInv g l (xs ++ [⟨k, 0⟩]) := by
  obtain ⟨ad, e, hn, hk⟩ := h.ad
  refine ⟨⟨ad ++ [k], by rw [e]; simp, ?_, ?_⟩, ?_⟩
  · rw [List.nodup_append]
    refine ⟨hn, by simp, fun a ha b hb => ?_⟩
    obtain rfl : b = k := by simpa using hb
    rintro rfl
    exact hno (by rw [e]; exact List.mem_append_right _ (List.mem_map.2 ⟨_, ha, rfl⟩))
  · intro a ha
    rcases List.mem_append.1 ha with ha | ha
    · exact hk a ha
    · obtain rfl : a = k := by simpa using ha
      exact (List.getElem?_eq_some_iff.1 h2).1
  · intro y hy
    rcases List.mem_append.1 hy with hy | hy
    · exact h.clos y hy
    · obtain rfl : y = ⟨k, 0⟩ := by simpa using hy
      exact .more (h.clos x hx) h1 h2 h3

theorem CInv.full {g : Gram} {l xs : List Lr} (h : CInv g l xs) (hf : ∀ x ∈ xs, Fed g xs x) (x : Lr) : x ∈ xs ↔ Clos g l x := by
  refine ⟨h.clos x, fun hc => ?_⟩
  induction hc with
  | base h1 => obtain ⟨ad, rfl, _⟩ := h.ad; exact List.mem_append_left _ h1
  | more _ h2 h3 h4 ih => exact hf _ ih _ _ _ h2 h3 h4

theorem Fed.more {g : Gram} {xs : List Lr} {x y : Lr} (h : Fed g xs x) : Fed g (xs ++ [y]) x := fun n k r h1 h2 h3 => List.mem_append_left _ (h n k r h1 h2 h3)

structure KSt where
  i : Nat
  xs : List Lr
  a : Option Addr
  c : Nat
  B : List (Nat × Blk)

theorem closure_spec (F : Frz) (g : Gram) (hg4 : ∀ r ∈ g.rules, r.right.length ≤ 100) {a : Option Addr} {m c : Nat} (hr : Arr tRule F a m c g.rules) (hm : m ≤ 100) {b : Option Addr} {n d : Nat} {l : List Lr} (hl : Arr tLr F b n d l) (hn : n ≤ 1000) (hok : ∀ x ∈ l, x.rule ≤ g.rules.length) :
    Abs.Spec CC 92 [.agg ⟨gramCells g a m c⟩, .slice b n d] F [] fun F' v o => o = [] ∧ ∃ a' m' c' zs, v = .slice a' m' c' ∧ Arr tLr F' a' m' c' zs ∧ m' ≤ n + m ∧ Strict zs ∧ ∀ z, z ∈ zs ↔ Clos g l z := by
  have hml := hr.len
  have hll := hl.len
  unfold gramCells
  refine Abs.Spec.fn (n := 65) Tryd.func92 rfl rfl fun own => ?_
  refine AW.seq (AW.reg ?_)
  refine WT.boxT zr zr zr zr zr zr (fun i2 hi2 => ?_)
  refine ze hT zr zr zr zr zr ?_; refine WT.nil ?_; refine AW.seq ?_; refine AW.reg ?_; refine ze hT zr zr zr zr zr ?_
  refine WT.callN Tryd.func133 zr zr zr zr zr zr (lrClone_spec _ hl (by omega)) (fun F1 v B1 hF1 hv => ?_)
  obtain ⟨ca, cc, rfl, hv⟩ := hv
  have hr1 := hr.mono hF1
  rw [hll] at hv
  rw [hll]
  refine ze hT zr zr zr zr zr ?_; refine WT.nil ?_; (iterate 2 refine AW.seq ?_); refine AW.reg ?_; refine ze hT zr zr zr zr zr ?_; refine WT.nil ?_
  refine AW.block ?_
  refine AW.loopR (S := KSt) (fun s => [(6, .int .i64 (s.i : Nat)), (5, .slice s.a s.xs.length s.c)]) (fun s => s.B :: [(i2, .cells false [.int .i64 g.terms, .int .i64 g.nons, .int .i64 g.start, .slice a m c])] :: own)
    (fun s G => Vec tLr G s.a s.xs.length s.c s.B s.xs ∧ CInv g l s.xs ∧ s.i ≤ s.xs.length ∧ ∀ x ∈ s.xs.take s.i, Fed g s.xs x) (fun s => n + m - s.i) ⟨0, l, ca, cc, B1⟩
    (SubK.of_map rfl) (OwnLe.refl _) ⟨hv, ⟨⟨[], by simp, List.nodup_nil, by simp⟩, fun x hx => .base hx⟩, Nat.zero_le _, by simp⟩ ?_
  intro s F2 hF2 hP
  obtain ⟨hv2, hci, hil, hfed⟩ := hP
  have hr2 := hr1.mono hF2
  have hfew := hci.few
  have hrule := hci.rule hok
  (iterate 2 refine AW.seq ?_); refine AW.reg ?_; (iterate 4 refine ze hT zr zr zr zr zr ?_); refine WT.nil ?_
  refine AW.cond rfl (fun h => ?_) (fun h => ?_)
  · have h : s.i < s.xs.length := by simpa using h
    obtain ⟨x, hx⟩ : ∃ x, s.xs[s.i]? = some x := ⟨_, List.getElem?_eq_getElem h⟩
    have hxm := List.mem_of_getElem? hx
    have hxr := hrule x hxm
    refine AW.skip ?_; refine AW.seq ?_
    refine AW.block ?_
    refine AW.seq ?_
    refine AW.draw (ps := [(0, 9), (4, 9)]) rfl rfl ?_
    refine zl hT 1 zr zr zr zr zr zr me zr ?_; (iterate 2 refine ze hT zr zr zr zr zr ?_)
    refine WT.vidx hT hv2 zr zr zr zr zr zr zr zr zr h (fun b5 hb5 => ?_)
    refine WT.vldS hT 0 hv2 hb5 hx zr zr zr zr zr zr zr zr zr (fun l hl => ?_)
    obtain rfl : l = _ := hl
    skip
    refine WT.callV Tryd.func95 zr zr zr zr zr zr (lrAfter_spec _ g hg4 hr2 (by omega) x (by omega)) (fun v hv => ?_)
    obtain ⟨y, bo, rfl, hay, han⟩ := hv
    (iterate 3 refine ze hT zr zr zr zr zr ?_)
    refine WT.allocT hT zr zr zr zr zr zr (fun i7 hi7 => ?_)
    refine zs hT 0 0 zr zr zr zr zr zr zr zr zr zr zr zr ?_; refine ze hT zr zr zr zr zr ?_; refine WT.nil ?_
    obtain ⟨jb, jcs, hja, hjB, _, _⟩ := hv2.at_ hx
    have hmb : (b5, Blk.cells false jcs) ∈ s.B := by
      rw [hjB]
      rw [hb5] at hja
      cases hja
      exact List.mem_cons_self ..
    refine ⟨(by repeat (first | exact trivial | refine recs_pair rfl rfl (by first | exact keep0 | exact keep1 (keeps_frz (by assumption)) | exact kp 0 0 me me | exact kp 1 1 me me | exact kp 2 2 me me | exact kp 3 3 me me | exact kp 4 4 me me | exact kp 5 5 me me | exact kp 6 6 me me | exact kp 0 1 me me | exact kp 1 2 me me | exact kp 2 3 me me | exact kp 3 4 me me | exact kp 4 5 me me | exact kp 5 6 me me | exact kp 6 7 me me | exact kp 0 0 (by assumption) (by assumption) | exact kp 1 1 (by assumption) (by assumption) | exact kp 2 2 (by assumption) (by assumption) | exact kp 3 3 (by assumption) (by assumption) | exact kp 4 4 (by assumption) (by assumption) | exact kp 5 5 (by assumption) (by assumption) | exact kp 6 6 (by assumption) (by assumption) | exact kp 0 1 (by assumption) (by assumption) | exact kp 1 2 (by assumption) (by assumption) | exact kp 2 3 (by assumption) (by assumption) | exact kp 3 4 (by assumption) (by assumption) | exact kp 4 5 (by assumption) (by assumption) | exact kp 5 6 (by assumption) (by assumption) | exact kp 6 7 (by assumption) (by assumption)) ?_)), ?_⟩
    (iterate 2 refine AW.seq ?_); refine AW.reg ?_; (iterate 3 refine ze hT zr zr zr zr zr ?_)
    have hnext : ∀ xs', s.xs.length ≤ xs'.length → xs'.take s.i = s.xs.take s.i → xs'[s.i]? = some x → (∀ z ∈ s.xs.take s.i, Fed g xs' z) → Fed g xs' x → ∀ z ∈ xs'.take (s.i + 1), Fed g xs' z := fun xs' _ e1 e2 h1 h2 z hz => by
      rw [List.take_add_one, e1, e2] at hz
      rcases List.mem_append.1 hz with hz | hz
      · exact h1 z hz
      · obtain rfl : z = x := by simpa using hz
        exact h2
    have hskip : Fed g s.xs x → ∀ z ∈ s.xs.take (s.i + 1), Fed g s.xs z := fun h => hnext s.xs (Nat.le_refl _) rfl hx hfed h
    cases bo
    · have han := han rfl
      (iterate 2 refine zx zr zr zr zr ?_); refine ze hT zr zr zr zr zr ?_; refine WT.nil ?_
      refine AW.cond rfl (fun _ => ?_) (fun h => (by cases h))
      refine AW.exit ?_
      refine AW.reg ?_; refine ze hT zr zr zr zr zr ?_; refine WT.add1 zr zr zr zr zr zr (by omega) ?_; refine ze hT zr zr zr zr zr ?_; refine WT.nil ?_
      exact ⟨⟨s.i + 1, s.xs, s.a, s.c, s.B⟩, by dsimp only; omega, SubK.of_map rfl, (by repeat (first | exact OwnLe.refl _ | refine OwnLe.skip _ ?_)), hv2, hci, h, hskip (fun n k r h1 _ _ => by rw [han] at h1; cases h1)⟩
    have hay := hay rfl
    refine ze hT zr zr zr zr zr ?_; refine zl hT 0 zr zr zr zr zr zr me zr ?_; refine ze hT zr zr zr zr zr ?_; refine WT.nil ?_
    refine AW.cond rfl (fun h3 => ?_) (fun h3 => ?_)
    · have h3 : y.term = true := by simpa using h3
      refine AW.exit ?_
      refine AW.reg ?_; refine ze hT zr zr zr zr zr ?_; refine WT.add1 zr zr zr zr zr zr (by omega) ?_; refine ze hT zr zr zr zr zr ?_; refine WT.nil ?_
      exact ⟨⟨s.i + 1, s.xs, s.a, s.c, s.B⟩, by dsimp only; omega, SubK.of_map rfl, (by repeat (first | exact OwnLe.refl _ | refine OwnLe.skip _ ?_)), hv2, hci, h, hskip (fun n k r h1 _ _ => by rw [hay] at h1; injection h1 with h1; rw [h1] at h3; cases h3)⟩
    have h3 : y.term = false := by simpa using h3
    have hay2 : afterL g x = some ⟨false, y.n⟩ := by rw [hay, ← h3]
    refine AW.skip ?_; refine AW.seq ?_; refine AW.reg ?_; refine ze hT zr zr zr zr zr ?_; refine zl hT 2 zr zr zr zr zr zr me zr ?_; (iterate 2 refine ze hT zr zr zr zr zr ?_); refine WT.nil ?_
    refine AW.range (S := KSt) (fun u => [(5, .slice u.a u.xs.length u.c)]) (fun u => [(i7, .cells false [.bool y.term, .int .i64 y.n])] :: u.B :: [(i2, .cells false [.int .i64 g.terms, .int .i64 g.nons, .int .i64 g.start, .slice a m c])] :: own)
      (fun k u G => Vec tLr G u.a u.xs.length u.c u.B u.xs ∧ CInv g l u.xs ∧ s.xs.length ≤ u.xs.length ∧ u.xs.take s.i = s.xs.take s.i ∧ u.xs[s.i]? = some x ∧ (∀ z ∈ s.xs.take s.i, Fed g u.xs z) ∧ ∀ k' r, k' < k → g.rules[k']? = some r → r.left = y.n → (⟨k', 0⟩ : Lr) ∈ u.xs) m ⟨0, s.xs, s.a, s.c, s.B⟩
      zr zr zr zr zr zr zr zr zr (by omega) rfl rfl (fun _ => rfl) (fun _ => rfl) (SubK.of_map rfl) (OwnLe.refl _) ⟨hv2, hci, Nat.le_refl _, rfl, hx, hfed, fun k' r h => absurd h (Nat.not_lt_zero _)⟩ ?_ ?_
    · intro j u F3 hF3 hj hP
      obtain ⟨hvu, hcu, hlu, htu, hxu, hfu, hku⟩ := hP
      have hr3 := hr2.mono hF3
      have hfewu := hcu.few
      have hxum := List.mem_of_getElem? hxu
      refine AW.seq ?_; refine AW.reg ?_; refine ze hT zr zr zr zr zr ?_
      refine WT.idxL hT hr3 zr zr zr zr zr zr zr zr zr (by omega) (fun r hrj b8 off8 ro8 cs8 lx8 hb8 hp8 hrel8 => ?_)
      obtain ⟨ra, rn, rc, rfl, hra⟩ := hrel8
      refine zi (fo := 0) hT (by assumption) (by assumption) zr zr zr zr zr zr ?_
      refine WT.allocT hT zr zr zr zr zr zr (fun i10 hi10 => ?_)
      refine ze hT zr zr zr zr zr ?_; refine zs hT 0 0 zr zr zr zr zr zr zr zr zr zr zr zr ?_; refine WT.nil ?_; refine AW.seq ?_; refine AW.reg ?_; (iterate 2 refine ze hT zr zr zr zr zr ?_)
      refine WT.allocT hT zr zr zr zr zr zr (fun i11 hi11 => ?_)
      refine zs hT 0 0 zr zr zr zr zr zr zr zr zr zr zr zr ?_; refine WT.nil ?_; refine AW.seq ?_; refine AW.reg ?_; refine ze hT zr zr zr zr zr ?_; refine zl hT 1 zr zr zr zr zr zr me zr ?_; refine ze hT zr zr zr zr zr ?_; refine zl hT 2 zr zr zr zr zr zr me zr ?_; (iterate 2 refine ze hT zr zr zr zr zr ?_)
      refine WT.split 50 rfl (fun h4 => ?_) (fun h4 => ?_)
      · have h4 : r.left = y.n := by simp at h4; omega
        refine ze hT zr zr zr zr zr ?_; refine zl hT 0 zr zr zr zr zr zr me zr ?_
        refine WT.callLend 3 Tryd.func43 zr zr zr zr zr zr zr (fun G hG hBG => lrContains_spec G (hvu.arr hG hBG) (by omega) ⟨j, 0⟩) (fun v hv => ?_)
        subst hv
        (iterate 2 refine ze hT zr zr zr zr zr ?_); refine WT.nil ?_
        refine AW.cond rfl (fun h5 => ?_) (fun h5 => ?_)
        · have h5 : (⟨j, 0⟩ : Lr) ∉ u.xs := by simpa using h5
          refine AW.reg ?_; refine ze hT zr zr zr zr zr ?_; refine zl hT 0 zr zr zr zr zr zr me zr ?_
          have hbu := hvu.bld (fun e => by rw [e] at hxum; cases hxum)
          refine WT.buildT hT zr zr zr zr zr zr zr zr zr zr zr zr zr zr (fun i12 hi12 => ?_)
          refine WT.appendT (ys := [(⟨j, 0⟩ : Lr)]) hT 4 hbu rfl (fun _ => rfl) zr zr zr zr zr zr zr zr zr zr zr (fun h0 s0 => news_own hT s0 0 zr zr zr zr) (Cells.single (R := tLr) (x := (⟨j, 0⟩ : Lr)) rfl) rfl (by decide) (by first | omega | (dsimp only at *; omega)) (fun a3 c3 B3 hB3 => ?_)
          have hl2 : u.xs.length + 1 = (u.xs ++ [(⟨j, 0⟩ : Lr)]).length := by simp
          rw [hl2] at hB3 ⊢
          refine ze hT zr zr zr zr zr ?_; refine WT.nil ?_
          have hil2 : s.i < u.xs.length := by omega
          refine ⟨⟨0, u.xs ++ [⟨j, 0⟩], a3, c3, B3⟩, SubK.of_map rfl, (by repeat (first | exact OwnLe.refl _ | refine OwnLe.skip _ ?_)), hB3.vec, hcu.add hxum hay2 hrj h4 h5, by simp; omega, ?_, ?_, fun z hz => (hfu z hz).more, fun k' r' h1 h2 h3 => ?_⟩
          · show (u.xs ++ [_]).take s.i = _
            rw [List.take_append_of_le_length (by omega), htu]
          · show (u.xs ++ [_])[s.i]? = _
            rw [List.getElem?_append_left hil2, hxu]
          · rcases Nat.lt_or_ge k' j with h6 | h6
            · exact List.mem_append_left _ (hku k' r' h6 h2 h3)
            · obtain rfl : k' = j := by omega
              exact List.mem_append_right _ (List.mem_cons_self ..)
        · have h5 : (⟨j, 0⟩ : Lr) ∈ u.xs := by simpa using h5
          refine AW.skip ?_
          refine ⟨u, SubK.of_map rfl, (by repeat (first | exact OwnLe.refl _ | refine OwnLe.skip _ ?_)), hvu, hcu, hlu, htu, hxu, hfu, fun k' r' h1 h2 h3 => ?_⟩
          rcases Nat.lt_or_ge k' j with h6 | h6
          · exact hku k' r' h6 h2 h3
          · obtain rfl : k' = j := by omega
            exact h5
      · have h4 : r.left ≠ y.n := by simp at h4; omega
        (iterate 4 refine zx zr zr zr zr ?_); refine ze hT zr zr zr zr zr ?_; refine WT.nil ?_
        refine AW.cond rfl (fun h => (by cases h)) (fun _ => ?_)
        refine AW.skip ?_
        refine ⟨u, SubK.of_map rfl, (by repeat (first | exact OwnLe.refl _ | refine OwnLe.skip _ ?_)), hvu, hcu, hlu, htu, hxu, hfu, fun k' r' h1 h2 h3 => ?_⟩
        rcases Nat.lt_or_ge k' j with h6 | h6
        · exact hku k' r' h6 h2 h3
        · obtain rfl : k' = j := by omega
          rw [hrj] at h2
          cases h2
          exact absurd h3 h4
    · intro u F3 hF3 hP
      obtain ⟨hvu, hcu, hlu, htu, hxu, hfu, hku⟩ := hP
      have hfewu := hcu.few
      refine AW.reg ?_; refine ze hT zr zr zr zr zr ?_; refine WT.add1 zr zr zr zr zr zr (by omega) ?_; refine ze hT zr zr zr zr zr ?_; refine WT.nil ?_
      refine ⟨⟨s.i + 1, u.xs, u.a, u.c, u.B⟩, by dsimp only; omega, SubK.of_map rfl, (by repeat (first | exact OwnLe.refl _ | refine OwnLe.skip _ ?_)), hvu, hcu, by dsimp only; omega, hnext u.xs hlu htu hxu hfu (fun n k r h1 h2 h3 => ?_)⟩
      rw [hay2] at h1
      cases h1
      have := (List.getElem?_eq_some_iff.1 h2).1
      exact hku k r (by omega) h2 h3
  · have h : s.i = s.xs.length := by simp at h; omega
    rw [h, List.take_length] at hfed
    have hfull := hci.full hfed
    skip
    refine AW.exit ?_
    refine AW.seq ?_; refine AW.reg ?_; refine ze hT zr zr zr zr zr ?_
    obtain ⟨hp, hs⟩ := sort_facts ltLr_swo s.xs
    have hsl := hp.length_eq
    refine WT.call1F 0 Tryd.func134 zr zr zr zr zr zr zr (fun _ => rfl) (lrSort_spec _ (lrOrder_cmp _) hv2 (by omega)) (fun F7 v B7 hF7 hv7 => ?_)
    refine WT.nil ?_; refine AW.seq ?_; refine AW.reg ?_; refine ze hT zr zr zr zr zr ?_
    refine WT.callF (oin := [B7]) Tryd.func136 zr zr zr zr zr zr (lrCompact_spec F7 hv7 (by omega) hs) (List.Perm.refl _) (fun F8 v oout hF8 hv8 => ?_)
    obtain ⟨rfl, a8, m8, c8, zs, rfl, hz, hzm, hst, hmem⟩ := hv8
    refine ze hT zr zr zr zr zr ?_; refine WT.nil ?_
    refine AW.ret ⟨_, [], ⟨_, _, rfl, rfl, rfl⟩, (by repeat (first | exact List.Sublist.refl _ | refine List.Sublist.cons _ ?_)), rfl, a8, m8, c8, zs, rfl, hz, by omega, hst, fun z => ?_⟩
    rw [hmem, hp.mem_iff, hfull]
end Go.Proofs.D

set_option linter.unusedVariables false
set_option maxRecDepth 20000
set_option maxHeartbeats 0
open Go Go.Abs Go.Proofs Go.Proofs.D
namespace Go.Proofs.D

def LrOk (g : Gram) (x : Lr) : Prop := x.rule ≤ g.rules.length ∧ x.dot ≤ (if x.rule = g.rules.length then 1 else ((g.rules[x.rule]?).map (·.right.length)).getD 0)

theorem Clos.ok {g : Gram} {l : List Lr} (hl : ∀ x ∈ l, LrOk g x) {x : Lr} (h : Clos g l x) : LrOk g x := by
  induction h with
  | base h => exact hl _ h
  | more _ _ h _ _ => exact ⟨Nat.le_of_lt (List.getElem?_eq_some_iff.1 h).1, Nat.zero_le _⟩

theorem lrClose_spec (F : Frz) (g : Gram) (hg : Valid g) {a : Option Addr} {m c : Nat} (hr : Arr tRule F a m c g.rules) {b : Option Addr} {n d : Nat} {l : List Lr} (hl : Arr tLr F b n d l) (hn : n ≤ 1000) (hok : ∀ x ∈ l, LrOk g x) :
    Abs.Spec CC 37 [.agg ⟨gramCells g a m c⟩, .slice b n d] F [] fun F' v o => o = [] ∧ ∃ a' m' c' zs, v = .tuple ⟨[.slice a' m' c', .int .i64 0]⟩ ∧ Arr tLr F' a' m' c' zs ∧ m' ≤ n + m ∧ Strict zs ∧ ∀ z, z ∈ zs ↔ Clos g l z := by
  have hml := hr.len
  have hll := hl.len
  have hgl := hg.range.rules
  have hg4 : ∀ r ∈ g.rules, r.right.length ≤ 100 := fun r h => by have := (hg.right r h).2.1; omega
  unfold gramCells
  refine Abs.Spec.fn (n := 50) Tryd.func37 rfl rfl fun own => ?_
  refine AW.seq (AW.reg ?_)
  refine WT.boxT zr zr zr zr zr zr (fun i2 hi2 => ?_)
  (iterate 2 refine ze hT zr zr zr zr zr ?_); refine WT.nil ?_; (iterate 2 refine AW.seq ?_); refine AW.reg ?_; refine zl hT 0 zr zr zr zr zr zr me zr ?_
  refine WT.callV Tryd.func69 zr zr zr zr zr zr (check_spec _ g hg.range hr) (fun v hv => ?_)
  rw [hg.no_err] at hv
  subst hv
  refine ze hT zr zr zr zr zr ?_; refine WT.nil ?_; refine AW.seq ?_; refine AW.reg ?_; (iterate 2 refine ze hT zr zr zr zr zr ?_); refine WT.nil ?_
  refine AW.cond rfl (fun h => (by cases h)) (fun _ => ?_)
  refine AW.skip ?_; (iterate 2 refine AW.seq ?_); refine AW.reg ?_; (iterate 3 refine ze hT zr zr zr zr zr ?_); refine WT.nil ?_
  refine AW.range (S := Unit) (fun _ => []) (fun _ => _) (fun j _ G => True) n () zr zr zr zr zr zr zr zr zr (by omega) rfl rfl (fun _ => rfl) (fun _ => rfl) (SubK.of_map rfl) (OwnLe.refl _) trivial ?_ ?_
  · intro j _ F1 hF1 hj _
    have hr1 := hr.mono hF1
    have hl1 := hl.mono hF1
    refine AW.seq ?_; refine AW.reg ?_
    refine WT.idxL hT hl1 zr zr zr zr zr zr zr zr zr (by omega) (fun x hxj b1 off ro cs lx hb hp1 hrel => ?_)
    obtain rfl : lx = _ := hrel
    obtain ⟨hx1, hx2⟩ := hok x (List.mem_of_getElem? hxj)
    refine zi (fo := 0) hT (by assumption) (by assumption) zr zr zr zr zr zr ?_
    refine WT.allocT hT zr zr zr zr zr zr (fun i8 hi8 => ?_)
    refine zs hT 0 0 zr zr zr zr zr zr zr zr zr zr zr zr ?_; refine WT.nil ?_; refine AW.seq ?_
    refine AW.draw (ps := [(18, 22)]) rfl rfl ?_
    refine ze hT zr zr zr zr zr ?_; refine zl hT 0 zr zr zr zr zr zr me zr ?_; (iterate 3 refine ze hT zr zr zr zr zr ?_); refine zl hT 0 zr zr zr zr zr zr me zr ?_; refine ze hT zr zr zr zr zr ?_; refine zl hT 1 zr zr zr zr zr zr me zr ?_; (iterate 4 refine ze hT zr zr zr zr zr ?_)
    refine WT.split 23 rfl (fun h => (by simp at h; omega)) (fun _ => ?_)
    skip
    refine WT.split 31 rfl (fun h => (by simp at h; omega)) (fun _ => ?_)
    refine ze hT zr zr zr zr zr ?_; refine zl hT 0 zr zr zr zr zr zr me zr ?_; (iterate 4 refine ze hT zr zr zr zr zr ?_); refine zl hT 0 zr zr zr zr zr zr me zr ?_; refine zl hT 1 zr zr zr zr zr zr me zr ?_; refine ze hT zr zr zr zr zr ?_; refine zl hT 0 zr zr zr zr zr zr me zr ?_
    refine WT.split 36 rfl (fun h => (by simp at h; omega)) (fun _ => ?_)
    skip
    refine WT.callV Tryd.func39 zr zr zr zr zr zr (lrRight_spec _ g hg4 hr1 (by omega) x.rule (by omega)) (fun v hv => ?_)
    obtain ⟨rb, rn, rd, rfl, hrn⟩ := hv
    rw [← hml] at hx2
    rw [← hrn] at hx2
    (iterate 3 refine ze hT zr zr zr zr zr ?_); refine WT.nil ?_
    refine ⟨(by repeat (first | exact trivial | refine recs_pair rfl rfl (by first | exact keep0 | exact keep1 (keeps_frz (by assumption)) | exact kp 0 0 me me | exact kp 1 1 me me | exact kp 2 2 me me | exact kp 3 3 me me | exact kp 4 4 me me | exact kp 5 5 me me | exact kp 6 6 me me | exact kp 0 1 me me | exact kp 1 2 me me | exact kp 2 3 me me | exact kp 3 4 me me | exact kp 4 5 me me | exact kp 5 6 me me | exact kp 6 7 me me) ?_)), ?_⟩
    refine AW.cond rfl (fun h => (by simp at h; omega)) (fun _ => ?_)
    refine AW.skip ?_
    exact ⟨(), SubK.of_map rfl, (by repeat (first | exact OwnLe.refl _ | refine OwnLe.skip _ ?_)), trivial⟩
  · intro _ F1 hF1 _
    have hr1 := hr.mono hF1
    have hl1 := hl.mono hF1
    refine AW.seq ?_; refine AW.reg ?_; refine zl hT 0 zr zr zr zr zr zr me zr ?_; refine ze hT zr zr zr zr zr ?_
    refine WT.callF0 Tryd.func92 zr zr zr zr zr zr (closure_spec _ g hg4 hr1 (by omega) hl1 hn (fun x hx => (hok x hx).1)) (fun F2 v hF2 hv => ?_)
    obtain ⟨a8, m8, c8, zs, rfl, hz, hzm, hst, hmem⟩ := hv
    (iterate 2 refine ze hT zr zr zr zr zr ?_); refine WT.nil ?_
    exact AW.ret ⟨_, [], ⟨_, _, rfl, ⟨_, _, rfl, rfl, rfl⟩, rfl⟩, (by repeat (first | exact List.Sublist.refl _ | refine List.Sublist.cons _ ?_)), rfl, a8, m8, c8, zs, rfl, hz, hzm, hst, hmem⟩

def mostOf (g : Gram) (r : Nat) : Nat := if r = g.rules.length then 1 else ((g.rules[r]?).map (·.right.length)).getD 0
/-- The item that a number names. -/
def lrOf (g : Gram) (x : Int) : Lr := ⟨below x (g.rules.length + 1), below (IntKind.i64.wrap (x.tdiv 64)) (mostOf g (below x (g.rules.length + 1)) + 1)⟩

structure ISt where
  xs : List Lr
  a : Option Addr
  c : Nat
  B : List (Nat × Blk)

theorem itemsOf_spec (F : Frz) (g : Gram) (hg : Valid g) {a : Option Addr} {m c : Nat} (hr : Arr tRule F a m c g.rules) {b : Option Addr} {n d : Nat} {l : List Int} (hl : Arr tInt F b n d l) (hn : n ≤ 9223372036854775807) :
    Abs.Spec CC 41 [.agg ⟨gramCells g a m c⟩, .slice b n d] F [] fun F' v o => o = [] ∧ ∃ a' m' c' xs, v = .slice a' m' c' ∧ Arr tLr F' a' m' c' xs ∧ m' ≤ 6 ∧ (∀ x ∈ xs, LrOk g x) ∧ xs = (l.take 6).map (lrOf g) := by
  have hml := hr.len
  have hgl := hg.range.rules
  unfold gramCells
  refine Abs.Spec.fn (n := 50) Tryd.func41 rfl rfl fun own => ?_
  refine AW.seq (AW.reg ?_)
  refine WT.boxT zr zr zr zr zr zr (fun i2 hi2 => ?_)
  refine ze hT zr zr zr zr zr ?_; refine WT.nil ?_; refine AW.seq ?_; refine AW.reg ?_; refine ze hT zr zr zr zr zr ?_; refine WT.nil ?_; (iterate 2 refine AW.seq ?_); refine AW.reg ?_; (iterate 3 refine ze hT zr zr zr zr zr ?_)
  refine WT.minT zr zr zr zr zr zr ?_
  skip
  have hmin : Nat.min n 6 ≤ n ∧ Nat.min n 6 ≤ 6 := ⟨Nat.min_le_left _ _, Nat.min_le_right _ _⟩
  have hq6 : l.take (Nat.min n 6) = l.take 6 := by
    have e : Nat.min n 6 = min n 6 := rfl
    rw [e, hl.len]
    rcases Nat.le_total l.length 6 with h | h
    · rw [Nat.min_eq_left h, List.take_length, List.take_of_length_le h]
    · rw [Nat.min_eq_right h]
  generalize Nat.min n 6 = q at hmin hq6 ⊢
  obtain ⟨ya, yc, hys, hya⟩ := hl.slice (C := CC) (lo := 0) (hi := q) (Nat.zero_le _) hmin.1 hT (t := 22) zr zr zr none (some (.int .i64 (q : Nat))) rfl rfl
  refine WT.slice zr zr zr zr zr zr zr zr hys ?_
  rw [Nat.sub_zero] at hya ⊢
  rw [List.drop_zero, hq6] at hya
  generalize l.take 6 = l2 at hya ⊢
  have hql := hya.len
  (iterate 2 refine ze hT zr zr zr zr zr ?_); refine WT.nil ?_
  refine AW.range (S := ISt) (fun u => [(5, .slice u.a u.xs.length u.c)]) (fun u => u.B :: [(i2, .cells false [.int .i64 g.terms, .int .i64 g.nons, .int .i64 g.start, .slice a m c])] :: own)
    (fun j u G => Bld tLr G u.a u.xs.length u.c u.B u.xs ∧ u.xs.length = j ∧ (∀ x ∈ u.xs, LrOk g x) ∧ u.xs = (l2.take j).map (lrOf g)) q ⟨[], none, 0, []⟩
    zr zr zr zr zr zr zr zr zr (by omega) rfl rfl (fun _ => rfl) (fun _ => rfl) (SubK.of_map rfl) (OwnLe.flat (List.Perm.refl _)) ⟨Bld.nil_ _ _, rfl, by simp, by simp⟩ ?_ ?_
  · intro j u F1 hF1 hj hP
    obtain ⟨hb, hul, huo, hux⟩ := hP
    have hr1 := hr.mono hF1
    have hl1 := hya.mono hF1
    refine AW.seq ?_; refine AW.reg ?_
    refine WT.idxL hT hl1 zr zr zr zr zr zr zr zr zr (by omega) (fun x hxj b1 off ro cs lx hb1 hp1 hrel => ?_)
    obtain rfl : lx = _ := hrel
    refine zi (fo := 0) hT (by assumption) (by assumption) zr zr zr zr zr zr ?_; refine ze hT zr zr zr zr zr ?_; refine WT.nil ?_; refine AW.seq ?_; refine AW.reg ?_; (iterate 2 refine ze hT zr zr zr zr zr ?_); refine zl hT 1 zr zr zr zr zr zr me zr ?_; refine ze hT zr zr zr zr zr ?_; refine WT.add1 zr zr zr zr zr zr (by omega) ?_
    refine WT.callV Tryd.func30 zr zr zr zr zr zr (below_spec _ x (m + 1) (by omega) (by omega)) (fun v hv => ?_)
    subst hv
    have hrr := below_lt x (show 0 < m + 1 by omega)
    generalize hrr' : below x (m + 1) = rr at hrr ⊢
    have hmo : lrOf g x = ⟨rr, below (IntKind.i64.wrap (x.tdiv 64)) (mostOf g rr + 1)⟩ := by unfold lrOf; rw [← hml, hrr']
    refine ze hT zr zr zr zr zr ?_; refine WT.nil ?_; refine AW.seq ?_; refine AW.reg ?_; refine ze hT zr zr zr zr zr ?_; refine WT.nil ?_; (iterate 2 refine AW.seq ?_); refine AW.reg ?_; (iterate 2 refine ze hT zr zr zr zr zr ?_); refine zl hT 1 zr zr zr zr zr zr me zr ?_; (iterate 2 refine ze hT zr zr zr zr zr ?_); refine WT.nil ?_
    refine AW.cond rfl (fun h => ?_) (fun h => ?_)
    · have h : rr < m := by simpa using h
      refine AW.reg ?_; refine ze hT zr zr zr zr zr ?_; refine zl hT 1 zr zr zr zr zr zr me zr ?_; refine ze hT zr zr zr zr zr ?_
      refine WT.idxL hT hr1 zr zr zr zr zr zr zr zr zr (by omega) (fun r hrx b5 off5 ro5 cs5 lx5 hb5 hp5 hrel5 => ?_)
      obtain ⟨ra, rn, rc, rfl, hra⟩ := hrel5
      have hral := hra.len
      have hr4 := (hg.right r (List.mem_of_getElem? hrx)).2.1
      refine ze hT zr zr zr zr zr ?_; refine zi hT (by assumption) (by assumption) zr zr zr zr zr zr ?_; (iterate 2 refine ze hT zr zr zr zr zr ?_); refine WT.nil ?_; refine AW.reg ?_; (iterate 3 refine ze hT zr zr zr zr zr ?_)
      refine WT.binV (v := .int .i64 (IntKind.i64.wrap (x.tdiv 64))) zr zr zr zr zr zr ⟨by decide, by decide⟩ rfl ?_
      refine ze hT zr zr zr zr zr ?_; refine WT.add1 zr zr zr zr zr zr (by omega) ?_
      refine WT.callV Tryd.func30 zr zr zr zr zr zr (below_spec _ _ (rn + 1) (by omega) (by omega)) (fun v hv => ?_)
      subst hv
      have hz := below_lt (IntKind.i64.wrap (x.tdiv 64)) (show 0 < rn + 1 by omega)
      have hmz : mostOf g rr = rn := by
        unfold mostOf
        rw [if_neg (by omega), hrx]; exact hral.symm
      rw [hmz] at hmo
      generalize below (IntKind.i64.wrap (x.tdiv 64)) (rn + 1) = z at hz hmo ⊢
      refine ze hT zr zr zr zr zr ?_
      refine WT.buildT hT zr zr zr zr zr zr zr zr zr zr zr zr zr zr (fun i12 hi12 => ?_)
      refine WT.appendT (ys := [(⟨rr, z⟩ : Lr)]) hT 1 hb rfl (fun _ => rfl) zr zr zr zr zr zr zr zr zr zr zr (fun h0 s0 => news_own hT s0 0 zr zr zr zr) (Cells.single (R := tLr) (x := (⟨rr, z⟩ : Lr)) rfl) rfl (by decide) (by first | omega | (dsimp only at *; omega)) (fun a3 c3 B3 hB3 => ?_)
      have hl2 : u.xs.length + 1 = (u.xs ++ [(⟨rr, z⟩ : Lr)]).length := by simp
      rw [hl2] at hB3 ⊢
      refine ze hT zr zr zr zr zr ?_; refine WT.nil ?_
      refine ⟨⟨u.xs ++ [⟨rr, z⟩], a3, c3, B3⟩, SubK.of_map rfl, (by repeat (first | exact OwnLe.refl _ | refine OwnLe.skip _ ?_)), hB3, by simp; omega, fun y hy => ?_, by rw [hux, List.take_add_one, hxj, List.map_append]; simp [hmo]⟩
      rcases List.mem_append.1 hy with hy | hy
      · exact huo y hy
      · obtain rfl : y = ⟨rr, z⟩ := by simpa using hy
        refine ⟨by dsimp only; omega, ?_⟩
        dsimp only
        rw [if_neg (by omega), hrx]
        show z ≤ r.right.length
        omega
    · have h : rr = m := by simp at h; omega
      refine AW.skip ?_; refine AW.reg ?_; (iterate 3 refine ze hT zr zr zr zr zr ?_)
      refine WT.binV (v := .int .i64 (IntKind.i64.wrap (x.tdiv 64))) zr zr zr zr zr zr ⟨by decide, by decide⟩ rfl ?_
      refine ze hT zr zr zr zr zr ?_; refine za zr zr zr zr zr zr (by omega) ?_
      refine WT.callV Tryd.func30 zr zr zr zr zr zr (below_spec _ _ (1 + 1) (by omega) (by omega)) (fun v hv => ?_)
      subst hv
      have hz := below_lt (IntKind.i64.wrap (x.tdiv 64)) (show 0 < 1 + 1 by omega)
      have hmz : mostOf g rr = 1 := by
        unfold mostOf
        rw [if_pos (by omega)]
      rw [hmz] at hmo
      generalize below (IntKind.i64.wrap (x.tdiv 64)) (1 + 1) = z at hz hmo ⊢
      refine ze hT zr zr zr zr zr ?_
      refine WT.buildT hT zr zr zr zr zr zr zr zr zr zr zr zr zr zr (fun i12 hi12 => ?_)
      refine WT.appendT (ys := [(⟨rr, z⟩ : Lr)]) hT 1 hb rfl (fun _ => rfl) zr zr zr zr zr zr zr zr zr zr zr (fun h0 s0 => news_own hT s0 0 zr zr zr zr) (Cells.single (R := tLr) (x := (⟨rr, z⟩ : Lr)) rfl) rfl (by decide) (by first | omega | (dsimp only at *; omega)) (fun a3 c3 B3 hB3 => ?_)
      have hl2 : u.xs.length + 1 = (u.xs ++ [(⟨rr, z⟩ : Lr)]).length := by simp
      rw [hl2] at hB3 ⊢
      refine ze hT zr zr zr zr zr ?_; refine WT.nil ?_
      refine ⟨⟨u.xs ++ [⟨rr, z⟩], a3, c3, B3⟩, SubK.of_map rfl, (by repeat (first | exact OwnLe.refl _ | refine OwnLe.skip _ ?_)), hB3, by simp; omega, fun y hy => ?_, by rw [hux, List.take_add_one, hxj, List.map_append]; simp [hmo]⟩
      rcases List.mem_append.1 hy with hy | hy
      · exact huo y hy
      · obtain rfl : y = ⟨rr, z⟩ := by simpa using hy
        refine ⟨by dsimp only; omega, ?_⟩
        dsimp only
        rw [if_pos (by omega)]
        omega
  · intro u F1 hF1 hP
    obtain ⟨hb, hul, huo, hux⟩ := hP
    rw [List.take_of_length_le (by omega)] at hux
    refine AW.freezeAll 0 rfl rfl (fun F2 hF2 hB2 => ?_)
    refine AW.seq ?_; refine AW.reg ?_; (iterate 2 refine ze hT zr zr zr zr zr ?_); refine WT.nil ?_
    exact AW.ret ⟨_, [], ⟨_, _, rfl, rfl, rfl⟩, (by repeat (first | exact List.Sublist.refl _ | refine List.Sublist.cons _ ?_)), rfl, u.a, _, u.c, u.xs, rfl, hb.frozen hF2 hB2, by omega, huo, hux⟩
end Go.Proofs.D

set_option linter.unusedVariables false
set_option maxRecDepth 20000
set_option maxHeartbeats 0
open Go Go.Abs Go.Proofs Go.Proofs.D
namespace Go.Proofs.D

section
variable {C : Ctx} {T : RT} {n : Nat} {k : Kno} {F : Frz} {own : Own} {ops rest : List Oper} {o : Oper} {Q : Kno → Frz → Own → List Rec → Prop}
theorem capNil (hT : rowsOk C T = true) {t e : TypeId} {ts : List TypeId} {r : Row} {xo : Operand} (hop : o.op = .call ⟨.builtin .cap, ⟨[xo]⟩, ⟨t :: ts⟩⟩) (hw : wantK ops k o = some true) {dst : Nat} (hdst : o.dst = some dst) (hn : Nat.blt dst n = true)
    (hx : evK C k xo = some (.slice none 0 0)) (hr : rowOf T t = some r) (hd : r.d = .slice e)
    (h : WT C n ops rest ((dst, .int .i64 ((0 : Nat) : Int)) :: k) F own (fun k2 F2 own2 rs => Q k2 F2 own2 (⟨F, own, F, own, []⟩ :: rs))) : WT C n ops (o :: rest) k F own Q := by
  refine WT.still (l := []) hw (by rw [hop]; rfl) (fun h0 _ => ?_) (by rw [hdst, putK_some hn]; exact h)
  rw [hop]
  have hv : vals (evK C k) [xo] = some [.slice none 0 0] := by simp [vals, hx]
  simp only [opA, hv, builtinA, capA, und_slice hT hr hd]
  rfl
theorem first0 {h : Heap} {s m c : Nat} {a : Option Addr} (ha : ∀ p, a = some p → p.spot = none) : firstA h s 0 (.slice a m c) = some [] := by
  match a, ha with
  | none, _ => rfl
  | some ⟨b, off, none⟩, _ => rfl
  | some ⟨b, off, some _⟩, ha => have := ha _ rfl; cases this
end

theorem lrGrow_spec (F : Frz) (n : Nat) (hn : n ≤ 1000) :
    Abs.Spec CC 96 [.slice none 0 0, .int .i64 n] F [] fun F' v o => ∃ B', o = [B'] ∧ ((n = 0 ∧ v = .slice none 0 0 ∧ B' = []) ∨ ∃ b, v = .slice (some ⟨b, 0, none⟩) 0 2 ∧ PBld tLr F' b 0 B' []) := by
  refine Abs.Spec.fn (n := 27) Tryd.func96 rfl rfl fun own => ?_
  refine AW.seq ?_; refine AW.reg ?_; refine ze hT zr zr zr zr zr ?_; refine WT.nil ?_; (iterate 2 refine AW.seq ?_); refine AW.reg ?_; (iterate 2 refine ze hT zr zr zr zr zr ?_); refine WT.nil ?_
  refine AW.cond rfl (fun h => (by simp at h; omega)) (fun _ => ?_)
  refine AW.skip ?_; (iterate 2 refine AW.seq ?_); refine AW.reg ?_; (iterate 2 refine ze hT zr zr zr zr zr ?_)
  refine capNil hT zr zr zr zr zr zr zr ?_
  (iterate 2 refine ze hT zr zr zr zr zr ?_); (iterate 2 refine WT.subN zr zr zr zr zr zr (by omega) ?_); refine ze hT zr zr zr zr zr ?_; refine WT.nil ?_; refine AW.seq ?_; refine AW.reg ?_; (iterate 2 refine ze hT zr zr zr zr zr ?_); refine WT.nil ?_
  refine AW.cond rfl (fun h => ?_) (fun h => ?_)
  · have h : 0 < n := by simp at h; omega
    rw [show n - (0 - 0) = n by omega]
    refine AW.reg ?_; (iterate 2 refine ze hT zr zr zr zr zr ?_)
    refine capNil hT zr zr zr zr zr zr zr ?_
    skip
    refine WT.slice zr zr zr zr zr zr zr zr (v := .slice none 0 0) (fun h0 => rfl) ?_
    refine ze hT zr zr zr zr zr ?_
    refine WT.appendN hT zr zr zr zr zr zr zr zr zr zr zr zr zr zr zr ⟨h, by decide, by decide⟩ (by omega) (by first | omega | (dsimp only at *; omega)) (fun i9 hi9 => ?_)
    (iterate 2 refine ze hT zr zr zr zr zr ?_)
    refine WT.slice zr zr zr zr zr zr zr zr (fun h0 => sliceA_some (lo := 0) (hi := 0) hT zr zr zr zr zr (Nat.le_refl _) (Nat.zero_le _) (.inr rfl) h0) ?_
    refine ze hT zr zr zr zr zr ?_; refine WT.nil ?_; refine AW.seq ?_; refine AW.reg ?_; (iterate 2 refine ze hT zr zr zr zr zr ?_); refine WT.nil ?_
    refine AW.ret ⟨_, [_], ⟨_, _, rfl, rfl, rfl⟩, (by repeat (first | exact List.Sublist.refl _ | refine List.Sublist.cons _ ?_)), _, rfl, .inr ⟨i9, rfl, rfl, by decide, _, [], rfl, ?_, .nil⟩⟩
    exact partL_of rfl rfl
  · have h : n = 0 := by simp at h; omega
    subst h
    refine AW.skip ?_; refine AW.seq ?_; refine AW.reg ?_; (iterate 2 refine ze hT zr zr zr zr zr ?_); refine WT.nil ?_
    refine AW.le (own2 := [] :: own) (OwnLe.flat (List.Perm.refl _)) ?_
    exact AW.ret ⟨_, [[]], ⟨_, _, rfl, rfl, rfl⟩, (by repeat (first | exact List.Sublist.refl _ | refine List.Sublist.cons _ ?_)), _, rfl, .inl ⟨rfl, rfl, rfl⟩⟩

structure GSt where
  b : Nat
  xs : List Lr
  B : List (Nat × Blk)

theorem lrConcat_spec (F : Frz) {a : Option Addr} {m c : Nat} {L : List (List Lr)} (hL : Arr (tList tLr) F a m c L) (hm : m ≤ 1000) (ht : L.flatten.length ≤ 1000) :
    Abs.Spec CC 42 [.slice a m c] F [] fun F' v o => o = [] ∧ ∃ a' c', v = .slice a' L.flatten.length c' ∧ Arr tLr F' a' L.flatten.length c' L.flatten := by
  have hml := hL.len
  have step : ∀ j l, L[j]? = some l → (L.take (j + 1)).flatten = (L.take j).flatten ++ l := fun j l h => by
    rw [List.take_add_one, h]; simp
  have few : ∀ j, (L.take j).flatten.length ≤ L.flatten.length := fun j => by
    have : L.flatten = (L.take j).flatten ++ (L.drop j).flatten := by rw [← List.flatten_append, List.take_append_drop]
    rw [this, List.length_append]; omega
  refine Abs.Spec.fn (n := 36) Tryd.func42 rfl rfl fun own => ?_
  refine AW.seq ?_; refine AW.reg ?_; refine ze hT zr zr zr zr zr ?_; refine WT.nil ?_; refine AW.seq ?_; refine AW.reg ?_; refine ze hT zr zr zr zr zr ?_; refine WT.nil ?_; (iterate 2 refine AW.seq ?_); refine AW.reg ?_; (iterate 3 refine ze hT zr zr zr zr zr ?_); refine WT.nil ?_
  refine AW.range (S := Nat) (fun s => [(3, .int .i64 (s : Nat))]) (fun _ => _) (fun j s G => s = (L.take j).flatten.length) m 0 zr zr zr zr zr zr zr zr zr (by omega) rfl rfl (fun _ => rfl) (fun _ => rfl) (SubK.of_map rfl) (OwnLe.refl _) (by simp) ?_ ?_
  · intro j s F1 hF1 hj hP
    have hL1 := hL.mono hF1
    have hfj := few j
    have hP : s = (L.take j).flatten.length := hP
    refine AW.seq ?_; refine AW.reg ?_
    refine WT.idxL hT hL1 zr zr zr zr zr zr zr zr zr (by omega) (fun l hlj b1 off ro cs lx hb hp1 hrel => ?_)
    obtain ⟨xa, xn, xc, rfl, hxa⟩ := hrel
    have hxl := hxa.len
    have hst := step j l hlj
    have hfj2 := few (j + 1)
    rw [hst, List.length_append] at hfj2
    refine zi (fo := 0) hT (by assumption) (by assumption) zr zr zr zr zr zr ?_; refine ze hT zr zr zr zr zr ?_; refine WT.nil ?_; refine AW.seq ?_; refine AW.reg ?_; (iterate 3 refine ze hT zr zr zr zr zr ?_); refine WT.addN zr zr zr zr zr zr (by omega) ?_; refine ze hT zr zr zr zr zr ?_; refine WT.nil ?_; refine AW.seq ?_; refine AW.reg ?_; (iterate 2 refine ze hT zr zr zr zr zr ?_); refine WT.nil ?_
    refine AW.cond rfl (fun h => (by simp at h; omega)) (fun _ => ?_)
    refine AW.skip ?_
    refine ⟨s + xn, SubK.of_map rfl, (by repeat (first | exact OwnLe.refl _ | refine OwnLe.skip _ ?_)), ?_⟩
    show s + xn = (L.take (j + 1)).flatten.length
    rw [hst, List.length_append, ← hP, hxl]
  · intro s F1 hF1 hP
    have hP : s = (L.take m).flatten.length := hP
    rw [List.take_of_length_le (by omega)] at hP
    subst hP
    have hL1 := hL.mono hF1
    refine AW.seq ?_; refine AW.reg ?_; refine ze hT zr zr zr zr zr ?_
    refine WT.callN Tryd.func96 zr zr zr zr zr zr (lrGrow_spec _ _ ht) (fun F2 v B2 hF2 hv => ?_)
    have hL2 := hL1.mono hF2
    rcases hv with ⟨hn, rfl, rfl⟩ | ⟨b, rfl, hb⟩
    · have h0 : L.flatten = [] := List.eq_nil_of_length_eq_zero hn
      refine ze hT zr zr zr zr zr ?_; refine WT.nil ?_; (iterate 2 refine AW.seq ?_); refine AW.reg ?_; (iterate 3 refine ze hT zr zr zr zr zr ?_); refine WT.nil ?_
      refine AW.range (S := Unit) (fun _ => []) (fun _ => _) (fun j _ G => True) m ()
        zr zr zr zr zr zr zr zr zr (by omega) rfl rfl (fun _ => rfl) (fun _ => rfl) (SubK.of_map rfl) (OwnLe.refl _) trivial ?_ ?_
      · intro j u F3 hF3 hj _
        have hL3 := hL2.mono hF3
        refine AW.seq ?_; refine AW.reg ?_
        refine WT.idxL hT hL3 zr zr zr zr zr zr zr zr zr (by omega) (fun l hlj b1 off ro cs lx hb hp1 hrel => ?_)
        obtain ⟨xa, xn, xc, rfl, hxa⟩ := hrel
        have hxl := hxa.len
        have hl0 : l = [] := by
          have h1 := few (j + 1)
          rw [step j l hlj, List.length_append] at h1
          exact List.eq_nil_of_length_eq_zero (by omega)
        obtain rfl : xn = 0 := by rw [hxl, hl0]; rfl
        refine zi (fo := 0) hT (by assumption) (by assumption) zr zr zr zr zr zr ?_; refine ze hT zr zr zr zr zr ?_; refine WT.nil ?_; refine AW.reg ?_; (iterate 2 refine ze hT zr zr zr zr zr ?_)
        refine WT.append0 hT zr zr zr zr zr zr zr zr zr zr zr zr zr (fun h0 s0 => first0 hxa.spot) (by decide) (by first | omega | (dsimp only at *; omega)) ?_
        refine ze hT zr zr zr zr zr ?_; refine WT.nil ?_
        exact ⟨(), SubK.of_map rfl, (by repeat (first | exact OwnLe.refl _ | refine OwnLe.skip _ ?_)), trivial⟩
      · intro u F3 hF3 _
        refine AW.seq ?_; refine AW.reg ?_; (iterate 2 refine ze hT zr zr zr zr zr ?_); refine WT.nil ?_
        refine AW.ret ⟨_, [], ⟨_, _, rfl, rfl, rfl⟩, (by repeat (first | exact List.Sublist.refl _ | refine List.Sublist.cons _ ?_)), rfl, none, 0, ?_, ?_⟩
        · rw [hn]; rfl
        · rw [h0]; exact Arr.nil_ _ _
    · refine ze hT zr zr zr zr zr ?_; refine WT.nil ?_; (iterate 2 refine AW.seq ?_); refine AW.reg ?_; (iterate 3 refine ze hT zr zr zr zr zr ?_); refine WT.nil ?_
      refine AW.range (S := GSt) (fun u => [(6, .slice (some ⟨u.b, 0, none⟩) u.xs.length 2)]) (fun u => u.B :: own) (fun j u G => PBld tLr G u.b u.xs.length u.B u.xs ∧ u.xs = (L.take j).flatten) m ⟨b, [], B2⟩
        zr zr zr zr zr zr zr zr zr (by omega) rfl rfl (fun _ => rfl) (fun _ => rfl) (SubK.of_map rfl) (OwnLe.refl _) ⟨hb, by simp⟩ ?_ ?_
      · intro j u F3 hF3 hj hP
        obtain ⟨hb3, hxs⟩ := hP
        have hL3 := hL2.mono hF3
        have hfj2 := few (j + 1)
        refine AW.seq ?_; refine AW.reg ?_
        refine WT.idxL hT hL3 zr zr zr zr zr zr zr zr zr (by omega) (fun l hlj b1 off ro cs lx hb hp1 hrel => ?_)
        obtain ⟨xa, xn, xc, rfl, hxa⟩ := hrel
        have hxl := hxa.len
        have hst := step j l hlj
        rw [hst, List.length_append, ← hxs, ← hxl] at hfj2
        refine zi (fo := 0) hT (by assumption) (by assumption) zr zr zr zr zr zr ?_; refine ze hT zr zr zr zr zr ?_; refine WT.nil ?_; refine AW.reg ?_; (iterate 2 refine ze hT zr zr zr zr zr ?_)
        obtain ⟨ds, hds, hcs⟩ := news_arr hT hxa (t := 73) rfl rfl 78
        refine WT.appendP hT 0 hb3 rfl (fun _ => rfl) zr zr zr zr zr zr zr zr zr zr zr (fun h0 s0 => hds _ h0 s0) hcs hxl (by decide) (by first | omega | (dsimp only at *; omega)) (fun b' B' hB' => ?_)
        have hl2 : u.xs.length + xn = (u.xs ++ l).length := by rw [List.length_append, ← hxl]
        rw [hl2] at hB' ⊢
        refine ze hT zr zr zr zr zr ?_; refine WT.nil ?_
        exact ⟨⟨b', u.xs ++ l, B'⟩, SubK.of_map rfl, (by repeat (first | exact OwnLe.refl _ | refine OwnLe.skip _ ?_)), hB', by rw [hst, ← hxs]⟩
      · intro u F3 hF3 hP
        obtain ⟨hb3, hxs⟩ := hP
        rw [List.take_of_length_le (by omega)] at hxs
        refine AW.freezeAll 0 rfl rfl (fun F4 hF4 hB4 => ?_)
        have harr := hb3.arr hF4 hB4
        refine AW.seq ?_; refine AW.reg ?_; (iterate 2 refine ze hT zr zr zr zr zr ?_); refine WT.nil ?_
        rw [hxs] at harr ⊢
        exact AW.ret ⟨_, [], ⟨_, _, rfl, rfl, rfl⟩, (by repeat (first | exact List.Sublist.refl _ | refine List.Sublist.cons _ ?_)), rfl, _, _, rfl, harr⟩
end Go.Proofs.D

