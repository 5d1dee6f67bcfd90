/-
  Walks: what functions of the program do, over the abstract machine.
-/
import Derived.Test.YtfgmockkpaacmaaDoorWk0
set_option linter.unusedVariables false
set_option maxRecDepth 20000
set_option maxHeartbeats 0
open Go Go.Abs Go.Proofs Go.Proofs.D
namespace Go.Proofs.D

/-- Two ways meet: what is still known is told anew. -/
def meetQ {S : Type} (kn : S → Kno) (ow : S → Own) (P : S → Frz → Prop) (A : Ex → Kno → Frz → Own → Prop) : Ex → Kno → Frz → Own → Prop
  | .normal, k', F', own' => ∃ s, SubK (kn s) k' ∧ OwnLe (ow s) own' ∧ P s F'
  | x, k', F', own' => A x k' F' own'

theorem joinT {C : Ctx} {n : Nat} {k : Kno} {F : Frz} {own : Own} {A : Ex → Kno → Frz → Own → Prop} {S : Type} (kn : S → Kno) (ow : S → Own) (P : S → Frz → Prop) {a b : Code} (h1 : AW C n a k F own (meetQ kn ow P A))
    (h2 : ∀ s F', Frz.le F F' → P s F' → AW C n b (kn s) F' (ow s) A) : AW C n a k F own (thenQ (fun k' F' own' => AW C n b k' F' own' A) A) := by
  refine AW.mono h1 fun x k' F' own' hF hx => ?_
  cases x with
  | normal =>
    obtain ⟨s, q1, q2, q3⟩ := hx
    exact AW.weaken q1 (AW.le q2 (h2 s F' hF q3))
  | exit id => exact hx
  | ret => exact hx

theorem joinK {C : Ctx} {n : Nat} {k : Kno} {F : Frz} {own : Own} {A : Ex → Kno → Frz → Own → Prop} {S : Type} (chg : S → Kno) (ow : S → Own) (P : S → Frz → Prop) {a b : Code} (h1 : AW C n a k F own (joinQ chg k ow P A))
    (h2 : ∀ s F', Frz.le F F' → P s F' → AW C n b (chg s ++ k) F' (ow s) A) : AW C n a k F own (thenQ (fun k' F' own' => AW C n b k' F' own' A) A) :=
  joinT (fun s => chg s ++ k) ow P h1 h2

/-- A whole element is written into an own block. -/
theorem storeS {C : Ctx} {T : RT} (hT : rowsOk C T = true) {n : Nat} {k : Kno} {F : Frz} {own : Own} {ops rest : List Oper} {o : Oper} {Q : Kno → Frz → Own → List Rec → Prop} (p q : Nat) {B B' : List (Nat × Blk)} {own' : Own} {t : TypeId} {a x : Operand} {i off m : Nat} {cs : List Value} {v : Value} (hop : o.op = .store t a x) (hw : wantK ops k o = some true) (hd : o.dst = none) (ha : evK C k a = some (.pointer (some ⟨i, off, none⟩)))
    (hx : evK C k x = some v) (hp : own[p]? = some B) (hq : B[q]? = some (i, .cells false cs)) (hm : sizeT T t = some m) (hl : v.cells.toList.length = m) (h1 : v.cells.toList.all one = true) (hlt : off + m ≤ cs.length)
    (hB : B.set q (i, .cells false (spliceL cs off v.cells.toList)) = B') (ho : setO own p B' = some own')
    (h : WT C n ops rest k F own' (fun k2 F2 own2 rs => Q k2 F2 own2 (⟨F, own, F, own', [i]⟩ :: rs))) :
    WT C n ops (o :: rest) k F own Q := by
  have e2 := setO_ok _ _ _ _ ho
  subst hB
  subst e2
  exact WT.store (C := C) (n := n) (k := k) (F := F) (Q := Q) (rest := rest) (ops := ops) p q hop hw ha hx hp hq (sizeT_ok hT hm) hl h1 hlt (by rw [hd]; exact h)

structure PI where
  ks : List Tree
  a : Option Addr
  c : Nat
  Bk : List (Nat × Blk)
  B : List (Nat × Blk)
  e : Int
  l : Nat

structure PO where
  q : Option Addr
  e : Int
  B : List (Nat × Blk)

theorem parse_spec (g : Gram) (hg : Valid g) (w : List Nat) (hw : w.length ≤ 1000000) {M : List (List Bool)} {E : List Bool} {Fi : List (List Bool)} (hN : NoLoop g M E Fi) (x : PA) : ∀ (N n i : Nat), meas g M w.length n i < N → n < g.nons → i ≤ w.length → ParseOk g w x n i
  | 0, n, i, h, _, _ => absurd h (Nat.not_lt_zero _)
  | N + 1, n, i, hlt, hn, hi => by
    intro F B hx ⟨es, hBe, hes⟩
    subst hBe
    obtain ⟨⟨ro, hblk⟩, hr, hwd⟩ := id hx
    have hwl := hwd.len
    have hrl := hr.len
    have hgr := hg.range.rules
    refine Abs.Spec.fn (n := 91) Tryd.func72 rfl rfl fun own => ?_
    refine AW.seq (AW.reg ?_)
    refine WT.boxT zr zr zr zr zr zr (fun i3 hi3 => ?_)
    skip
    refine WT.allocT hT zr zr zr zr zr zr (fun i4 hi4 => ?_)
    refine WT.nil ?_; (iterate 2 refine AW.seq ?_)
    refine AW.draw (ps := [(3, 9), (4, 9), (5, 9)]) rfl rfl ?_
    (iterate 3 refine ze hT zr zr zr zr zr ?_); refine zf hT (by assumption) zr zr zr zr zr zr ?_; refine zl hT 1 zr zr zr zr zr zr me zr ?_
    refine WT.lookup2 keyP (key := (n, i)) hT 2 zr zr zr zr zr zr zr (List.mem_cons_self ..) zr zr zr (fun v hv => ?_) (fun hno => ?_)
    · have hv := hes n i v hv
      obtain ⟨q, e, rfl⟩ := hv.shape
      (iterate 3 refine ze hT zr zr zr zr zr ?_)
      refine WT.allocT hT zr zr zr zr zr zr (fun i5 hi5 => ?_)
      refine zs hT 0 0 zr zr zr zr zr zr zr zr zr zr zr zr ?_; refine ze hT zr zr zr zr zr ?_; refine WT.nil ?_
      refine ⟨(by repeat (first | exact trivial | refine recs_pair rfl rfl (by first | exact keep0 | exact keep1 (keeps_frz (by assumption)) | exact kp 0 0 me me | exact kp 1 1 me me | exact kp 2 2 me me | exact kp 3 3 me me | exact kp 4 4 me me | exact kp 5 5 me me | exact kp 6 6 me me | exact kp 0 1 me me | exact kp 1 2 me me | exact kp 2 3 me me | exact kp 3 4 me me | exact kp 4 5 me me | exact kp 5 6 me me | exact kp 6 7 me me) ?_)), ?_⟩
      refine AW.seq ?_; refine AW.reg ?_; refine ze hT zr zr zr zr zr ?_; refine WT.nil ?_
      refine AW.cond rfl (fun _ => ?_) (fun h => (by cases h))
      refine AW.seq ?_; refine AW.reg ?_; refine zl hT 0 zr zr zr zr zr zr me zr ?_; refine zs hT 1 0 zr zr zr zr zr zr zr zr zr zr zr zr ?_; refine WT.nil ?_
      exact AW.ret ⟨_, [_], ⟨_, _, ⟨_, rfl, fun G h0 s0 => loadA_cells (s0.has (p := 1) rfl (List.mem_cons_self ..)) (readT_ok hT rfl)⟩, rfl, rfl⟩, (by repeat (first | exact List.Sublist.refl _ | refine List.Sublist.cons _ ?_)), _, rfl, ⟨es, rfl, hes⟩, hv⟩
    · (iterate 3 refine ze hT zr zr zr zr zr ?_)
      refine WT.allocT hT zr zr zr zr zr zr (fun i5 hi5 => ?_)
      refine zs hT 0 0 zr zr zr zr zr zr zr zr zr zr zr zr ?_; refine ze hT zr zr zr zr zr ?_; refine WT.nil ?_
      refine ⟨(by repeat (first | exact trivial | refine recs_pair rfl rfl (by first | exact keep0 | exact keep1 (keeps_frz (by assumption)) | exact kp 0 0 me me | exact kp 1 1 me me | exact kp 2 2 me me | exact kp 3 3 me me | exact kp 4 4 me me | exact kp 5 5 me me | exact kp 6 6 me me | exact kp 0 1 me me | exact kp 1 2 me me | exact kp 2 3 me me | exact kp 3 4 me me | exact kp 4 5 me me | exact kp 5 6 me me | exact kp 6 7 me me) ?_)), ?_⟩
      refine AW.seq ?_; refine AW.reg ?_; refine ze hT zr zr zr zr zr ?_; refine WT.nil ?_
      refine AW.cond rfl (fun h => (by cases h)) (fun _ => ?_)
      refine AW.skip ?_; refine AW.seq ?_; refine AW.reg ?_; refine ze hT zr zr zr zr zr ?_
      refine WT.allocT hT zr zr zr zr zr zr (fun i7 hi7 => ?_)
      refine zs hT 0 0 zr zr zr zr zr zr zr zr zr zr zr zr ?_; refine WT.nil ?_; (iterate 2 refine AW.seq ?_); refine AW.reg ?_; (iterate 4 refine ze hT zr zr zr zr zr ?_); refine zf hT (by assumption) zr zr zr zr zr zr ?_; (iterate 2 refine ze hT zr zr zr zr zr ?_); refine WT.nil ?_
      refine joinT (S := PO) (fun _ => [(0, .pointer (some ⟨x.p, 0, none⟩)), (3, .pointer (some ⟨i3, 0, none⟩)), (4, .pointer (some ⟨i4, 0, none⟩)), (7, .pointer (some ⟨i7, 0, none⟩))]) (fun s => [(i7, .cells false [.pointer s.q, .int .i64 s.e])] :: [(i4, .cells false [.pointer none, .int .i64 0])] :: [(i3, .cells false [.int .i64 n, .int .i64 i])] :: s.B :: own)
        (fun s G => Memo g w x G s.B ∧ ResOk g w G ⟨false, n⟩ i (.agg ⟨[.pointer s.q, .int .i64 s.e]⟩)) ?_ (fun s F1 hF1 hP => ?_)
      · refine AW.range (S := List (Nat × Blk)) (fun _ => []) (fun s => [(i7, .cells false [.pointer none, .int .i64 (-1)])] :: [(i4, .cells false [.pointer none, .int .i64 0])] :: [(i3, .cells false [.int .i64 n, .int .i64 i])] :: s :: own)
          (fun j s G => Memo g w x G s) x.m _
          zr zr zr zr zr zr zr zr zr (by omega) rfl rfl (fun _ => rfl) (fun _ => rfl) (SubK.of_map rfl) (OwnLe.cons _ (OwnLe.skip _ (OwnLe.refl _))) ⟨es, rfl, hes⟩ ?_ ?_
        · intro j s F1 hF1 hj hP
          have hr1 := hr.mono hF1
          have hblk1 := hF1 _ _ hblk
          refine AW.seq ?_; refine AW.reg ?_; refine ze hT zr zr zr zr zr ?_
          refine WT.idxL hT hr1 zr zr zr zr zr zr zr zr zr (by omega) (fun r hrk b1 off ro1 cs lx hb hp1 hrel => ?_)
          obtain ⟨b2, n2, d2, rfl, hr4⟩ := hrel
          obtain ⟨hrl, hrr, hrs⟩ := hg.right r (List.mem_of_getElem? hrk)
          have hr4l := hr4.len
          refine zi (fo := 0) hT (by assumption) (by assumption) zr zr zr zr zr zr ?_
          refine WT.allocT hT zr zr zr zr zr zr (fun i9 hi9 => ?_)
          refine ze hT zr zr zr zr zr ?_; refine zs hT 0 0 zr zr zr zr zr zr zr zr zr zr zr zr ?_; refine WT.nil ?_; (iterate 2 refine AW.seq ?_); refine AW.reg ?_; refine ze hT zr zr zr zr zr ?_; refine zl hT 0 zr zr zr zr zr zr me zr ?_; refine ze hT zr zr zr zr zr ?_; refine zl hT 3 zr zr zr zr zr zr me zr ?_; refine ze hT zr zr zr zr zr ?_; refine WT.nil ?_
          refine AW.cond rfl (fun h => ?_) (fun h => ?_)
          · refine AW.exit ?_
            exact ⟨s, SubK.of_map rfl, OwnLe.skip _ (OwnLe.refl _), hP⟩
          · have h0 : r.left = n := by simp at h; omega
            refine AW.skip ?_; refine AW.seq ?_; refine AW.reg ?_; (iterate 2 refine ze hT zr zr zr zr zr ?_)
            refine WT.boxT zr zr zr zr zr zr (fun i10 hi10 => ?_)
            refine ze hT zr zr zr zr zr ?_; refine WT.nil ?_; refine AW.seq ?_; refine AW.reg ?_; refine ze hT zr zr zr zr zr ?_; refine zl hT 4 zr zr zr zr zr zr me zr ?_; refine ze hT zr zr zr zr zr ?_; refine WT.nil ?_; (iterate 2 refine AW.seq ?_); refine AW.reg ?_; refine ze hT zr zr zr zr zr ?_; refine zl hT 1 zr zr zr zr zr zr me zr ?_; (iterate 2 refine ze hT zr zr zr zr zr ?_); refine WT.nil ?_
            refine joinK (S := PI) (fun t => [(51, .int .i64 t.l), (11, .int .i64 t.e)]) (fun t => t.Bk :: [(i10, .cells false [.int .i64 j, .int .i64 0, .slice t.a t.ks.length t.c])] :: [(i9, .cells false [.int .i64 r.left, .slice b2 n2 d2])] :: [(i7, .cells false [.pointer none, .int .i64 (-1)])] :: [(i4, .cells false [.pointer none, .int .i64 0])] :: [(i3, .cells false [.int .i64 n, .int .i64 i])] :: t.B :: own)
              (fun t G => Memo g w x G t.B ∧ (t.e < 0 ∨ ∃ m : Nat, t.e = m ∧ Bld tTree G t.a t.ks.length t.c t.Bk t.ks ∧ TreesOf g w r.right t.ks i m)) ?_ (fun t F2 hF2 hQ => ?_)
            · refine AW.range (S := PI) (fun t => [(11, .int .i64 t.e)]) (fun t => t.Bk :: [(i10, .cells false [.int .i64 j, .int .i64 0, .slice t.a t.ks.length t.c])] :: [(i9, .cells false [.int .i64 r.left, .slice b2 n2 d2])] :: [(i7, .cells false [.pointer none, .int .i64 (-1)])] :: [(i4, .cells false [.pointer none, .int .i64 0])] :: [(i3, .cells false [.int .i64 n, .int .i64 i])] :: t.B :: own)
                (fun q t G => Memo g w x G t.B ∧ Bld tTree G t.a t.ks.length t.c t.Bk t.ks ∧ ∃ m : Nat, t.e = m ∧ TreesOf g w (r.right.take q) t.ks i m) n2 ⟨[], none, 0, [], s, i, 0⟩
                zr zr zr zr zr zr zr zr zr (by omega) rfl rfl (fun _ => rfl) (fun _ => rfl) (SubK.of_map rfl) (OwnLe.flat (List.Perm.refl _)) ⟨hP, Bld.nil_ _ _, i, rfl, by rw [List.take_zero]; exact .nil⟩ ?_ ?_
              · intro q t F2 hF2 hq hQ
                obtain ⟨tks, ta, tc, tBk, tB, te, tl⟩ := t
                obtain ⟨hm, hb, m, rfl, ht⟩ := hQ
                have hr5 := hr4.mono hF2
                have hx2 := (hx.mono hF1).mono hF2
                refine AW.seq ?_; refine AW.reg ?_
                refine WT.idxL hT hr5 zr zr zr zr zr zr zr zr zr (by omega) (fun y hyq b3 off3 ro3 cs3 lx3 hb3 hp3 hrel3 => ?_)
                obtain rfl : lx3 = _ := hrel3
                have hyok := hrs y (List.mem_of_getElem? hyq)
                have hmle := ht.le
                have hmw := hmle.2 hi
                refine zi (fo := 0) hT (by assumption) (by assumption) zr zr zr zr zr zr ?_
                refine WT.allocT hT zr zr zr zr zr zr (fun i13 hi13 => ?_)
                refine zs hT 0 0 zr zr zr zr zr zr zr zr zr zr zr zr ?_; refine WT.nil ?_; refine AW.seq ?_; refine AW.reg ?_; refine ze hT zr zr zr zr zr ?_; refine zl hT 0 zr zr zr zr zr zr me zr ?_; refine ze hT zr zr zr zr zr ?_
                refine WT.call1F 7 Tryd.func122 zr zr zr zr zr zr zr (fun _ => rfl) (symbol_spec g w hw x y m hmw (fun hyt => ?_) _ _ hx2 hm) (fun F3 v B3 hF3 hv => ?_)
                · have hyn : y.n < g.nons := by rw [SymOk, if_neg (by simp [hyt])] at hyok; exact hyok
                  have he : r.right = r.right.take q ++ ⟨false, y.n⟩ :: r.right.drop (q + 1) := by
                    have h2 := List.getElem?_eq_some_iff.1 hyq
                    obtain ⟨h2, h3⟩ := h2
                    have : (⟨false, y.n⟩ : Sym) = y := by cases y; simp only at hyt; rw [hyt]
                    rw [this, ← h3, List.getElem_cons_drop, List.take_append_drop]
                  have hlt2 := hN.next (List.mem_of_getElem? hrk) he hyn ht hi
                  rw [h0] at hlt2
                  exact parse_spec g hg w hw hN x N y.n m (by omega) hyn hmw
                · obtain ⟨hm3, hv⟩ := hv
                  obtain ⟨vq, ve, rfl⟩ := hv.shape
                  skip
                  refine WT.allocT hT zr zr zr zr zr zr (fun i14 hi14 => ?_)
                  refine zs hT 0 0 zr zr zr zr zr zr zr zr zr zr zr zr ?_; refine WT.nil ?_; (iterate 2 refine AW.seq ?_); refine AW.reg ?_; refine ze hT zr zr zr zr zr ?_; refine zl hT 0 zr zr zr zr zr zr me zr ?_; refine ze hT zr zr zr zr zr ?_; refine WT.nil ?_; refine AW.seq ?_; refine AW.reg ?_; (iterate 2 refine ze hT zr zr zr zr zr ?_); refine WT.nil ?_
                  rcases hv with hv | ⟨vb, vro, vcs, vt, vj, hve, hvb, hvt, hvo⟩
                  · obtain ⟨rfl, rfl⟩ : vq = none ∧ ve = -1 := by
                      injection hv with h1; injection h1 with h1; injection h1 with h1 h2; injection h1 with h1; injection h2 with h2; injection h2 with h2 h3
                      exact ⟨h1, h3⟩
                    refine AW.cond rfl (fun _ => ?_) (fun h => (by cases h))
                    refine AW.exit ?_
                    exact ⟨⟨tks, ta, tc, tBk, B3, -1, q⟩, SubK.of_map rfl, OwnLe.skip _ (OwnLe.skip _ (OwnLe.refl _)), hm3, .inl (show (-1 : Int) < 0 by decide)⟩
                  · obtain ⟨rfl, rfl⟩ : vq = some ⟨vb, 0, none⟩ ∧ ve = (vj : Int) := by
                      injection hve with h1; injection h1 with h1; injection h1 with h1 h2; injection h1 with h1; injection h2 with h2; injection h2 with h2 h3
                      exact ⟨h1, h3⟩
                    obtain ⟨vr, vtt, vks⟩ := vt
                    obtain ⟨va, vn, vc, rfl, hva, hvl⟩ := tTree_cases hvt
                    have hb3 := hb.mono hF3
                    have hbl := hb3.len
                    have htl := ht.len
                    have hks4 : tks.length ≤ 4 := by rw [htl, List.length_take]; omega
                    refine AW.cond rfl (fun h => ?_) (fun _ => ?_)
                    · exact absurd (of_decide_eq_true h) (by omega)
                    refine AW.skip ?_
                    refine AW.draw (ps := [(3, 9), (5, 9), (7, 9), (8, 9), (12, 15), (15, 12)]) rfl rfl ?_
                    (iterate 3 refine ze hT zr zr zr zr zr ?_); refine zl hT 3 zr zr zr zr zr zr me zr ?_; refine ze hT zr zr zr zr zr ?_; refine zl hT 0 zr zr zr zr zr zr me zr ?_; refine ze hT zr zr zr zr zr ?_; refine zf hT (by assumption) zr zr zr zr zr zr ?_; refine ze hT zr zr zr zr zr ?_
                    refine WT.buildT hT zr zr zr zr zr zr zr zr zr zr zr zr zr zr (fun i72 hi72 => ?_)
                    refine WT.appendT (ys := [Tree.mk 0 0 []]) hT 3 hb3 rfl (fun _ => rfl) zr zr zr zr zr zr zr zr zr zr zr (fun h0 s0 => news_own hT s0 0 zr zr zr zr) (Cells.single (R := tTree) (x := Tree.mk 0 0 []) (tTree_mk (Arr.nil_ _ _) (by simp))) rfl (by decide) ?_ (fun a3 c3 Bk3 hBk3 => ?_)
                    · show (tks.length + 1) * 40 ≤ _; omega
                    obtain ⟨ik, kcs, rfl, hc3, rfl, hkc⟩ := Bld.ne hBk3 (by simp)
                    have hkl := hkc.len
                    rw [List.length_append] at hkl
                    have hkl : kcs.length = (tks.length + 1) * 3 := hkl
                    skip
                    refine WT.idxA (j := tks.length) (s := 3) hT zr zr zr zr zr zr zr zr zr (Nat.lt_succ_self _) ?_
                    refine storeS hT 3 0 zr zr zr zr zr zr zr zr zr zr (by show 0 + tks.length * 3 + 3 ≤ kcs.length; omega) rfl rfl ?_
                    (iterate 2 refine ze hT zr zr zr zr zr ?_); refine zs hT 4 0 zr zr zr zr zr zr zr zr zr zr zr zr ?_; refine WT.nil ?_
                    refine ⟨(by repeat (first | exact trivial | refine recs_pair rfl rfl (by first | exact keep0 | exact keep1 (keeps_frz (by assumption)) | exact kp 0 0 me me | exact kp 1 1 me me | exact kp 2 2 me me | exact kp 3 3 me me | exact kp 4 4 me me | exact kp 5 5 me me | exact kp 6 6 me me | exact kp 0 1 me me | exact kp 1 2 me me | exact kp 2 3 me me | exact kp 3 4 me me | exact kp 4 5 me me | exact kp 5 6 me me | exact kp 6 7 me me) ?_)), ?_⟩
                    skip
                    have hl1 : (tks ++ [Tree.mk vr vtt vks]).length = tks.length + 1 := by simp
                    have hlast := Bld.last hBk3 (y := Tree.mk vr vtt vks) hvt
                    refine ⟨⟨tks ++ [Tree.mk vr vtt vks], some ⟨ik, 0, none⟩, c3, [(ik, .cells false (spliceL kcs (0 + tks.length * 3) [.int .i64 vr, .int .i64 vtt, .slice va vn vc]))], B3, vj, 0⟩, SubK.of_map ?_, OwnLe.skip _ (OwnLe.skip _ (OwnLe.skip _ (OwnLe.flat ?_))), hm3, ?_, vj, rfl, ?_⟩
                    · rfl
                    · dsimp only
                      rw [hl1]
                      exact List.Perm.refl _
                    · dsimp only
                      rw [hl1, Nat.zero_add]
                      exact hlast
                    · rw [List.take_add_one, hyq]; exact TreesOf.snoc hvo ht
              · intro t F2 hF2 hQ
                obtain ⟨hm, hb, m, he, ht⟩ := hQ
                exact ⟨⟨t.ks, t.a, t.c, t.Bk, t.B, t.e, n2⟩, SubK.of_map rfl, OwnLe.refl _, hm, .inr ⟨m, he, hb, by rw [List.take_of_length_le (by omega)] at ht; exact ht⟩⟩
            · obtain ⟨hm, hQ⟩ := hQ
              refine AW.seq ?_; refine AW.reg ?_; (iterate 2 refine ze hT zr zr zr zr zr ?_); refine WT.nil ?_
              refine AW.cond rfl (fun h => ?_) (fun h => ?_)
              · have h : 0 ≤ t.e := by simpa using h
                rcases hQ with hQ | ⟨m, he, hb, ht⟩
                · omega
                obtain ⟨tks, ta, tc, tBk, tB, te, tl⟩ := t
                simp only at he hb ht hm
                subst he
                refine AW.freezeAll 0 rfl rfl (fun F3 hF3 hB3 => ?_)
                have hka := hb.frozen hF3 hB3
                refine AW.freezeAll 1 rfl rfl (fun F4 hF4 hB4 => ?_)
                have hi10 := hB4 i10 _ (List.mem_cons_self ..)
                refine AW.seq ?_; refine AW.reg ?_; (iterate 3 refine ze hT zr zr zr zr zr ?_); refine zs hT 3 0 zr zr zr zr zr zr zr zr zr zr zr zr ?_; refine WT.nil ?_
                refine AW.exit ?_
                have htl := ht.len
                refine ⟨⟨some ⟨i10, 0, none⟩, m, tB⟩, SubK.of_map rfl, OwnLe.skip _ (OwnLe.skip _ (OwnLe.skip _ (OwnLe.refl _))), (hm.mono hF3).mono hF4, .inr ⟨i10, _, _, Tree.mk j 0 tks, m, rfl, hi10, tTree_mk (hka.mono hF4) (by omega), ?_⟩⟩
                have := TreeOf.node hrk ht
                rw [h0] at this
                exact this
              · have h : t.e < 0 := by simpa using h
                refine AW.skip ?_
                exact ⟨t.B, SubK.of_map rfl, OwnLe.skip _ (OwnLe.skip _ (OwnLe.skip _ (OwnLe.refl _))), hm⟩
        · intro s F1 hF1 hP
          refine ⟨⟨none, -1, s⟩, SubK.of_map rfl, OwnLe.refl _, hP, .inl rfl⟩
      · obtain ⟨hB1, hv⟩ := hP
        obtain ⟨es1, hB1e, hes1⟩ := hB1
        have hblk1 := hF1 _ _ hblk
        obtain ⟨sq, se, sB⟩ := s
        simp only at hB1e
        subst hB1e
        refine AW.seq (AW.draw (ps := []) rfl rfl ?_)
        (iterate 3 refine ze hT zr zr zr zr zr ?_); refine zf hT (by assumption) zr zr zr zr zr zr ?_; refine zl hT 2 zr zr zr zr zr zr me zr ?_; refine zl hT 0 zr zr zr zr zr zr me zr ?_
        refine WT.mapSet keyP (key := (n, i)) hT 3 0 zr zr zr zr zr zr zr zr zr zr zr zr ?_
        refine WT.nil ?_; refine And.intro trivial ?_; refine AW.seq ?_; refine AW.reg ?_; refine zl hT 0 zr zr zr zr zr zr me zr ?_; refine zs hT 1 0 zr zr zr zr zr zr zr zr zr zr zr zr ?_; refine WT.nil ?_
        refine AW.ret ⟨_, [_], ⟨_, _, ⟨_, rfl, fun G h0 s0 => loadA_cells (s0.has (p := 1) rfl (List.mem_cons_self ..)) (readT_ok hT rfl)⟩, rfl, rfl⟩, (by repeat (first | exact List.Sublist.refl _ | refine List.Sublist.cons _ ?_)), _, rfl, ⟨_, rfl, fun n' i' v' hv' => ?_⟩, hv⟩
        rw [look_mset] at hv'
        split at hv'
        · rename_i e
          injection e with e1 e2
          subst e1; subst e2
          obtain rfl := Option.some.inj hv'
          exact hv
        · exact hes1 n' i' v' hv'
end Go.Proofs.D

set_option linter.unusedVariables false
set_option maxRecDepth 20000
set_option maxHeartbeats 0
open Go Go.Abs Go.Proofs Go.Proofs.D
namespace Go.Proofs.D

/-- What Parse answers for a valid grammar and word. -/
def ParseAns (g : Gram) (w : List Nat) (F : Frz) (v : Value) : Prop := ∃ (r : Int) (t : Nat) (ks : List Tree) (a : Option Addr) (n c : Nat) (j : Nat) (e : Int), v = .tuple ⟨[.agg ⟨[.int .i64 r, .int .i64 t, .slice a n c]⟩, .int .i64 j, .int .i64 e]⟩ ∧
  (e = 9 ∨ e = 10 ∨ (e = 0 ∧ tTree.rel F [.int .i64 r, .int .i64 t, .slice a n c] (.mk r t ks) ∧ TreeOf g w ⟨false, g.start⟩ (.mk r t ks) 0 j ∧ j ≤ w.length))

theorem packParse_spec (F : Frz) (g : Gram) (hg : Valid g) {a : Option Addr} {m c : Nat} (hr : Arr tRule F a m c g.rules) {b : Option Addr} {n d : Nat} {w : List Nat} (hw : Arr tNat F b n d w) (hw1 : w.length ≤ 12) (hw2 : ∀ t ∈ w, t < g.terms) :
    Abs.Spec CC 19 [.agg ⟨gramCells g a m c⟩, .slice b n d] F [] fun F' v o => o = [] ∧ ParseAns g w F' v := by
  have hwl := hw.len
  have hst := hg.range.start
  unfold gramCells
  refine Abs.Spec.fn (n := 48) Tryd.func19 rfl rfl fun own => ?_
  refine AW.seq (AW.reg ?_)
  refine WT.boxT zr zr zr zr zr zr (fun i2 hi2 => ?_)
  skip
  refine WT.allocT hT zr zr zr zr zr zr (fun i4 hi4 => ?_)
  (iterate 2 refine ze hT zr zr zr zr zr ?_); refine WT.nil ?_; (iterate 2 refine AW.seq ?_); refine AW.reg ?_; refine zl hT 1 zr zr zr zr zr zr me zr ?_
  refine WT.callV Tryd.func69 zr zr zr zr zr zr (check_spec _ g hg.range hr) (fun v hv => ?_)
  rw [hg.no_err] at hv
  subst hv
  refine ze hT zr zr zr zr zr ?_; refine WT.nil ?_; refine AW.seq ?_; refine AW.reg ?_; (iterate 2 refine ze hT zr zr zr zr zr ?_); refine WT.nil ?_
  refine AW.cond rfl (fun h => (by cases h)) (fun _ => ?_)
  refine AW.skip ?_; (iterate 2 refine AW.seq ?_); refine AW.reg ?_; refine zl hT 1 zr zr zr zr zr zr me zr ?_; refine ze hT zr zr zr zr zr ?_
  refine WT.callV Tryd.func70 zr zr zr zr zr zr (gword_spec _ g 2000 (by decide) hw (by omega)) (fun v hv => ?_)
  rw [wordErr_ok (by omega) hw2] at hv
  subst hv
  refine ze hT zr zr zr zr zr ?_; refine WT.nil ?_; refine AW.seq ?_; refine AW.reg ?_; (iterate 2 refine ze hT zr zr zr zr zr ?_); refine WT.nil ?_
  refine AW.cond rfl (fun h => (by cases h)) (fun _ => ?_)
  refine AW.skip ?_; (iterate 2 refine AW.seq ?_); refine AW.reg ?_; refine zl hT 1 zr zr zr zr zr zr me zr ?_
  refine WT.callF0 Tryd.func71 zr zr zr zr zr zr (loops_spec _ g hg hr) (fun F1 v hF1 hv => ?_)
  obtain ⟨lb, rfl, hloop⟩ := hv
  refine WT.nil ?_
  refine AW.cond rfl (fun h => ?_) (fun h => ?_)
  · refine AW.seq ?_; refine AW.reg ?_; refine ze hT zr zr zr zr zr ?_; refine zs hT 0 0 zr zr zr zr zr zr zr zr zr zr zr zr ?_; (iterate 2 refine ze hT zr zr zr zr zr ?_); refine WT.nil ?_
    exact AW.ret ⟨_, [], ⟨_, _, ⟨_, rfl, fun G h0 s0 => loadA_cells (s0.has (p := 0) rfl (List.mem_cons_self ..)) (readT_ok hT rfl)⟩, ⟨_, _, rfl, ⟨_, _, rfl, rfl, rfl⟩, rfl⟩, rfl⟩, (by repeat (first | exact List.Sublist.refl _ | refine List.Sublist.cons _ ?_)), rfl, 0, 0, [], none, 0, 0, 0, 9, rfl, .inl rfl⟩
  · obtain ⟨M, E, Fi, hN⟩ := hloop h
    refine AW.skip ?_; refine AW.seq ?_; refine AW.reg ?_; refine zl hT 1 zr zr zr zr zr zr me zr ?_; refine ze hT zr zr zr zr zr ?_
    refine WT.makeMap zr zr zr zr (fun im him => ?_)
    refine ze hT zr zr zr zr zr ?_
    refine WT.boxT zr zr zr zr zr zr (fun ip hip => ?_)
    refine WT.freezeAll 0 rfl rfl (fun F2 hF2 hB2 => ?_)
    have hp := hB2 ip _ (List.mem_cons_self ..)
    refine ze hT zr zr zr zr zr ?_; refine WT.nil ?_; refine AW.seq ?_; refine AW.reg ?_; (iterate 2 refine ze hT zr zr zr zr zr ?_); refine zl hT 3 zr zr zr zr zr zr me zr ?_; refine ze hT zr zr zr zr zr ?_
    refine WT.call1F 1 Tryd.func72 zr zr zr zr zr zr zr (fun _ => rfl) (parse_spec g hg w (by omega) hN ⟨ip, im, a, m, c, b, n, d⟩ _ g.start 0 (Nat.lt_succ_self _) hst (Nat.zero_le _) _ _ ⟨⟨_, hp⟩, (hr.mono hF1).mono hF2, (hw.mono hF1).mono hF2⟩ ⟨[], rfl, fun _ _ _ h => by cases h⟩) (fun F3 v B3 hF3 hv => ?_)
    obtain ⟨hm3, hv⟩ := hv
    obtain ⟨vq, ve, rfl⟩ := hv.shape
    skip
    refine WT.allocT hT zr zr zr zr zr zr (fun i10 hi10 => ?_)
    refine zs hT 0 0 zr zr zr zr zr zr zr zr zr zr zr zr ?_; refine WT.nil ?_; (iterate 2 refine AW.seq ?_); refine AW.reg ?_; refine ze hT zr zr zr zr zr ?_; refine zl hT 0 zr zr zr zr zr zr me zr ?_; refine ze hT zr zr zr zr zr ?_; refine WT.nil ?_
    rcases hv with hv | ⟨vb, vro, vcs, vt, vj, hve, hvb, hvt, hvo⟩
    · obtain ⟨rfl, rfl⟩ : vq = none ∧ ve = -1 := by
        injection hv with h1; injection h1 with h1; injection h1 with h1 h2; injection h1 with h1; injection h2 with h2; injection h2 with h2 h3
        exact ⟨h1, h3⟩
      refine AW.cond rfl (fun _ => ?_) (fun h => (by cases h))
      refine AW.seq ?_; refine AW.reg ?_; refine ze hT zr zr zr zr zr ?_; refine zs hT 3 0 zr zr zr zr zr zr zr zr zr zr zr zr ?_; (iterate 2 refine ze hT zr zr zr zr zr ?_); refine WT.nil ?_
      exact AW.ret ⟨_, [], ⟨_, _, ⟨_, rfl, fun G h0 s0 => loadA_cells (s0.has (p := 3) rfl (List.mem_cons_self ..)) (readT_ok hT rfl)⟩, ⟨_, _, rfl, ⟨_, _, rfl, rfl, rfl⟩, rfl⟩, rfl⟩, (by repeat (first | exact List.Sublist.refl _ | refine List.Sublist.cons _ ?_)), rfl, 0, 0, [], none, 0, 0, 0, 10, rfl, .inr (.inl rfl)⟩
    · obtain ⟨rfl, rfl⟩ : vq = some ⟨vb, 0, none⟩ ∧ ve = (vj : Int) := by
        injection hve with h1; injection h1 with h1; injection h1 with h1 h2; injection h1 with h1; injection h2 with h2; injection h2 with h2 h3
        exact ⟨h1, h3⟩
      obtain ⟨vr, vtt, vks⟩ := vt
      obtain ⟨dd, hdd⟩ := id hvt
      obtain ⟨va, vn, vc, rfl, hva, hvl⟩ := tTree_cases hvt
      refine AW.cond rfl (fun h => ?_) (fun _ => ?_)
      · exact absurd (of_decide_eq_true h) (by omega)
      refine AW.skip ?_; refine AW.seq ?_
      refine AW.draw (ps := [(6, 4), (6, 7)]) rfl rfl ?_
      refine ze hT zr zr zr zr zr ?_; refine zl hT 0 zr zr zr zr zr zr me zr ?_; refine ze hT zr zr zr zr zr ?_; refine zf hT (by assumption) zr zr zr zr zr zr ?_
      refine WT.callF0 Tryd.func73 zr zr zr zr zr zr (copyTree_spec dd _ _ _ hdd) (fun F4 v hF4 hv => ?_)
      obtain ⟨ccs, rfl, hcc⟩ := hv
      obtain ⟨ca, cn, cc, rfl, hca, hcl⟩ := tTree_cases hcc
      refine ze hT zr zr zr zr zr ?_; refine zl hT 0 zr zr zr zr zr zr me zr ?_; refine zs hT 3 0 zr zr zr zr zr zr zr zr zr zr zr zr ?_; (iterate 2 refine ze hT zr zr zr zr zr ?_); refine WT.nil ?_
      refine ⟨(by repeat (first | exact trivial | refine recs_pair rfl rfl (by first | exact keep0 | exact keep1 (keeps_frz (by assumption)) | exact kp 0 0 me me | exact kp 1 1 me me | exact kp 2 2 me me | exact kp 3 3 me me | exact kp 4 4 me me | exact kp 5 5 me me | exact kp 6 6 me me | exact kp 0 1 me me | exact kp 1 2 me me | exact kp 2 3 me me | exact kp 3 4 me me | exact kp 4 5 me me | exact kp 5 6 me me | exact kp 6 7 me me) ?_)), ?_⟩
      skip
      exact AW.ret ⟨_, [], ⟨_, _, ⟨_, rfl, fun G h0 s0 => loadA_cells (s0.has (p := 3) rfl (List.mem_cons_self ..)) (readT_ok hT rfl)⟩, ⟨_, _, rfl, ⟨_, _, rfl, rfl, rfl⟩, rfl⟩, rfl⟩, (by repeat (first | exact List.Sublist.refl _ | refine List.Sublist.cons _ ?_)), rfl, vr, vtt, vks, ca, cn, cc, vj, 0, rfl, .inr (.inr ⟨rfl, hcc, hvo, hvo.le.2 (Nat.zero_le _)⟩)⟩
end Go.Proofs.D

set_option linter.unusedVariables false
set_option maxRecDepth 20000
set_option maxHeartbeats 0
open Go Go.Abs Go.Proofs Go.Proofs.D
namespace Go.Proofs.D

/-! ### a frozen slice is appended -/
theorem partL_ok {cs : List Value} {off n : Nat} {l : List Value} (h : partL cs off n = some l) : l = (cs.drop off).take n ∧ l.length = n := by
  unfold partL at h
  cases e : (((cs.drop off).take n).length == n) with
  | false => simp only [e, cond_false] at h; cases h
  | true =>
    simp only [e, cond_true] at h
    obtain rfl := Option.some.inj h
    exact ⟨rfl, eq_of_beq e⟩

theorem partL_app {cs : List Value} {off n m : Nat} {l1 l2 : List Value} (h1 : partL cs off n = some l1) (h2 : partL cs (off + n) m = some l2) : partL cs off (n + m) = some (l1 ++ l2) := by
  obtain ⟨e1, k1⟩ := partL_ok h1
  obtain ⟨e2, k2⟩ := partL_ok h2
  have e : (cs.drop off).take (n + m) = l1 ++ l2 := by rw [List.take_add, List.drop_drop, ← e1, ← e2]
  unfold partL
  simp only [e]
  have : ((l1 ++ l2).length == n + m) = true := by simp [k1, k2]
  rw [this]; rfl

theorem arr_part {α : Type} {R : Ty α} {F : Frz} {a : Option Addr} {n c : Nat} {xs : List α} (hx : Arr R F a n c xs) (hn : 0 < n) :
    ∃ b off ro cs ds, a = some ⟨b, off, none⟩ ∧ F b = some (.cells ro cs) ∧ partL cs off (n * R.size) = some ds ∧ Cells R F ds xs := by
  have hl := hx.len
  obtain ⟨x0, h0⟩ : ∃ x, xs[0]? = some x := ⟨_, List.getElem?_eq_getElem (by omega)⟩
  obtain ⟨b, off, ro, cs, l, h1, h2, h3, h4⟩ := hx.el 0 x0 h0
  have main : ∀ k, k ≤ xs.length → 0 < k → ∃ ds, partL cs off (k * R.size) = some ds ∧ Cells R F ds (xs.take k) := by
    intro k
    induction k with
    | zero => intro _ h; omega
    | succ k ih =>
      intro hk _
      obtain ⟨y, hy⟩ : ∃ x, xs[k]? = some x := ⟨_, List.getElem?_eq_getElem (by omega)⟩
      obtain ⟨b', off', ro', cs', l', g1, g2, g3, g4⟩ := hx.el k y hy
      rw [h1] at g1
      injection g1 with g1; injection g1 with g1 g1'
      subst g1; subst g1'
      rw [h2] at g2
      injection g2 with g2; injection g2 with g2 g2'
      subst g2'
      have ht : xs.take (k + 1) = xs.take k ++ [y] := by rw [List.take_add_one, hy]; rfl
      rw [ht]
      by_cases hk0 : k = 0
      · subst hk0
        exact ⟨l', by simpa using g3, by simpa using Cells.single g4⟩
      · obtain ⟨ds, d1, d2⟩ := ih (by omega) (by omega)
        exact ⟨ds ++ l', by rw [Nat.add_mul, Nat.one_mul]; exact partL_app d1 g3, d2.append (Cells.single g4)⟩
  obtain ⟨ds, d1, d2⟩ := main n (by omega) hn
  rw [hl, List.take_length] at d2
  exact ⟨b, off, ro, cs, ds, h1, h2, d1, d2⟩

theorem news_part {C : Ctx} {T : RT} {F : Frz} {own : Own} (hT : rowsOk C T = true) {h : Heap} (s : St F own h) {b off : Nat} {ro : Bool} {cs ds : List Value} {e sz len c t e' : Nat} {r : Row} (hb : F b = some (.cells ro cs)) (hr : rowOf T t = some r) (hd : r.d = .slice e')
    (hp : partL cs off (len * sz) = some ds) : newsA C h e sz (some t) (.slice (some ⟨b, off, none⟩) len c) = some (len, ds) := by
  have hb := s.frz _ _ hb
  by_cases hz : len = 0
  · subst hz
    have := (partL_ok hp).1
    rw [Nat.zero_mul, List.take_zero] at this
    subst this
    simp [newsA, und_slice hT hr hd, plainNewsA, lenOfA, firstA]
  · simp only [newsA, und_slice hT hr hd, plainNewsA, lenOfA, firstA, cellsAt, hb, hp, show (len == 0) = false by simpa using hz]
    rfl

/-! ### reads -/
theorem arr_one {F : Frz} {b : Nat} {ro : Bool} {x : Nat} (h : F b = some (.cells ro [.int .i64 x])) : Arr tNat F (some ⟨b, 0, none⟩) 1 1 [x] := by
  refine ⟨rfl, .inr rfl, fun h => (by cases h), fun h => (by cases h), ?_, ?_⟩
  · intro p hp
    injection hp with hp
    subst hp
    rfl
  · intro j y hj
    have h0 : j = 0 := by have := (List.getElem?_eq_some_iff.1 hj).1; simp at this; omega
    subst h0
    obtain rfl : x = y := by simpa using hj
    exact ⟨b, 0, ro, _, _, rfl, h, rfl, rfl⟩

theorem word_one {w : List Nat} {i x : Nat} (h : w[i]? = some x) : (w.take (i + 1)).drop i = [x] := by
  rw [List.take_add_one, h]
  have := (List.getElem?_eq_some_iff.1 h).1
  rw [List.drop_append_of_le_length (by simp; omega), List.drop_of_length_le (by simp; omega)]
  rfl

theorem word_app {w : List Nat} {i m j : Nat} (h1 : i ≤ m) (h2 : m ≤ j) (h3 : m ≤ w.length) : (w.take j).drop i = (w.take m).drop i ++ (w.take j).drop m := by
  have : w.take j = w.take m ++ (w.take j).drop m := by
    have := (List.take_append_drop m (w.take j)).symm
    rw [List.take_take, Nat.min_eq_left h2] at this
    exact this
  conv => lhs; rw [this]
  rw [List.drop_append_of_le_length (by simp; omega)]

structure RS where
  xs : List Nat
  a : Option Addr
  c : Nat
  B : List (Nat × Blk)

theorem reads_spec (g : Gram) (hg : Valid g) {a : Option Addr} {m c : Nat} (w : List Nat) (hw : w.length ≤ 12) : ∀ (d : Nat) (F : Frz) (hr : Arr tRule F a m c g.rules) (cs : List Value) (t : Tree) (s : Sym) (i j : Nat), (tTreeN d).rel F cs t → TreeOf g w s t i j → i ≤ w.length →
    Abs.Spec CC 76 [.agg ⟨gramCells g a m c⟩, .agg ⟨[.bool s.term, .int .i64 s.n]⟩, .agg ⟨cs⟩] F [] fun F' v o => o = [] ∧ ∃ a n c, v = .tuple ⟨[.slice a n c, .bool true]⟩ ∧ Arr tNat F' a n c ((w.take j).drop i) ∧ (n = 0 → a = none)
  | 0, _, _, _, _, _, _, _, h, _, _ => h.elim
  | d + 1, F, hr, cs, t, s, i, j, h, ht, hi => by
    obtain ⟨tr, tt, ks, ta, tn, tc, rfl, rfl, hk, hkb⟩ := h
    have hkl := hk.len
    have hrl := hr.len
    have hgr := hg.range.rules
    unfold gramCells
    refine Abs.Spec.fn (n := 107) Tryd.func76 rfl rfl fun own => ?_
    refine AW.seq (AW.reg ?_)
    refine WT.boxT zr zr zr zr zr zr (fun i3 hi3 => ?_)
    skip
    refine WT.boxT zr zr zr zr zr zr (fun i4 hi4 => ?_)
    skip
    refine WT.boxT zr zr zr zr zr zr (fun i5 hi5 => ?_)
    (iterate 2 refine ze hT zr zr zr zr zr ?_); refine WT.nil ?_; (iterate 2 refine AW.seq ?_); refine AW.reg ?_; refine ze hT zr zr zr zr zr ?_; refine zl hT 1 zr zr zr zr zr zr me zr ?_; refine WT.nil ?_
    cases ht with
    | leaf hw1 =>
      obtain rfl : tn = 0 := hkl
      refine AW.cond rfl (fun _ => ?_) (fun h => (by cases h))
      refine AW.seq (AW.draw (ps := [(4, 2), (5, 2), (8, 2), (10, 2), (11, 2), (15, 2), (16, 2), (17, 2)]) rfl rfl ?_)
      refine ze hT zr zr zr zr zr ?_; refine zl hT 0 zr zr zr zr zr zr me zr ?_
      refine WT.buildT hT zr zr zr zr zr zr zr zr zr zr zr zr zr zr (fun i17 hi17 => ?_)
      refine ze hT zr zr zr zr zr ?_; refine zl hT 1 zr zr zr zr zr zr me zr ?_; (iterate 3 refine ze hT zr zr zr zr zr ?_); refine zl hT 1 zr zr zr zr zr zr me zr ?_; refine ze hT zr zr zr zr zr ?_; refine zl hT 2 zr zr zr zr zr zr me zr ?_; (iterate 3 refine ze hT zr zr zr zr zr ?_)
      refine WT.split 21 rfl (fun _ => ?_) (fun h => (by simp at h))
      skip
      refine WT.split 28 rfl (fun _ => ?_) (fun h => (by simp at h))
      refine ze hT zr zr zr zr zr ?_; refine zl hT 1 zr zr zr zr zr zr me zr ?_; (iterate 5 refine ze hT zr zr zr zr zr ?_); refine WT.nil ?_
      refine ⟨(by repeat (first | exact trivial | refine recs_pair rfl rfl (by first | exact keep0 | exact keep1 (keeps_frz (by assumption)) | exact kp 0 0 me me | exact kp 1 1 me me | exact kp 2 2 me me | exact kp 3 3 me me | exact kp 4 4 me me | exact kp 5 5 me me | exact kp 6 6 me me | exact kp 0 1 me me | exact kp 1 2 me me | exact kp 2 3 me me | exact kp 3 4 me me | exact kp 4 5 me me | exact kp 5 6 me me | exact kp 6 7 me me) ?_)), ?_⟩
      refine AW.freezeAll 0 rfl rfl (fun F2 hF2 hB2 => ?_)
      have hi17 := hB2 i17 _ (List.mem_cons_self ..)
      skip
      exact AW.ret ⟨_, [], ⟨_, _, rfl, ⟨_, _, rfl, rfl, rfl⟩, rfl⟩, (by repeat (first | exact List.Sublist.refl _ | refine List.Sublist.cons _ ?_)), rfl, _, 1, 1, rfl, (by rw [word_one hw1]; exact arr_one hi17), fun h => (by cases h)⟩
    | node hrk hts =>
      rename_i k r
      have hkn := (List.getElem?_eq_some_iff.1 hrk).1
      have hle := hts.len
      refine AW.cond rfl (fun h => (by cases h)) (fun _ => ?_)
      refine AW.skip ?_; (iterate 2 refine AW.seq ?_); refine AW.draw (ps := []) zr zr ?_; refine ze hT zr zr zr zr zr ?_; refine zl hT 0 zr zr zr zr zr zr me zr ?_; (iterate 3 refine ze hT zr zr zr zr zr ?_); refine zl hT 0 zr zr zr zr zr zr me zr ?_; refine ze hT zr zr zr zr zr ?_; refine zl hT 2 zr zr zr zr zr zr me zr ?_; (iterate 4 refine ze hT zr zr zr zr zr ?_)
      refine WT.split 37 rfl (fun h => (by simp at h; omega)) (fun _ => ?_)
      skip
      refine WT.split 45 rfl (fun h => (by simp at h; omega)) (fun _ => ?_)
      refine ze hT zr zr zr zr zr ?_; refine zl hT 0 zr zr zr zr zr zr me zr ?_; (iterate 4 refine ze hT zr zr zr zr zr ?_); refine zl hT 2 zr zr zr zr zr zr me zr ?_; refine ze hT zr zr zr zr zr ?_; refine zl hT 0 zr zr zr zr zr zr me zr ?_
      refine WT.split 50 rfl (fun h => (by simp at h)) (fun _ => ?_)
      skip
      refine WT.idxL hT hr zr zr zr zr zr zr zr zr zr hkn (fun r1 hr1 b1 off ro1 cs lx hb hp1 hrel => ?_)
      obtain rfl : r1 = r := by rw [hrk] at hr1; exact (Option.some.inj hr1).symm
      obtain ⟨b2, n2, d2, rfl, hr4⟩ := hrel
      have hr4l := hr4.len
      refine ze hT zr zr zr zr zr ?_; refine zi (fo := 0) hT (by assumption) (by assumption) zr zr zr zr zr zr ?_; refine ze hT zr zr zr zr zr ?_; refine zl hT 1 zr zr zr zr zr zr me zr ?_; (iterate 3 refine ze hT zr zr zr zr zr ?_)
      refine WT.split 62 rfl (fun h => (by simp at h)) (fun _ => ?_)
      refine ze hT zr zr zr zr zr ?_; refine zl hT 0 zr zr zr zr zr zr me zr ?_; (iterate 2 refine ze hT zr zr zr zr zr ?_); refine zl hT 2 zr zr zr zr zr zr me zr ?_; refine ze hT zr zr zr zr zr ?_; refine zl hT 0 zr zr zr zr zr zr me zr ?_
      refine WT.idxL hT hr zr zr zr zr zr zr zr zr zr hkn (fun r2 hr2 b1' off' ro1' cs' lx' hb' hp1' hrel' => ?_)
      obtain rfl : r2 = r1 := by rw [hrk] at hr2; exact (Option.some.inj hr2).symm
      obtain ⟨b2', n2', d2', rfl, hr4'⟩ := hrel'
      have hr4l' := hr4'.len
      refine ze hT zr zr zr zr zr ?_; refine zi hT (by assumption) (by assumption) zr zr zr zr zr zr ?_; (iterate 3 refine ze hT zr zr zr zr zr ?_); refine WT.nil ?_; refine And.intro trivial ?_
      refine AW.cond rfl (fun h => (by simp at h; omega)) (fun _ => ?_)
      refine AW.skip ?_; refine AW.seq ?_; refine AW.reg ?_; refine ze hT zr zr zr zr zr ?_; refine WT.nil ?_; (iterate 2 refine AW.seq ?_); refine AW.reg ?_; refine ze hT zr zr zr zr zr ?_; refine zl hT 0 zr zr zr zr zr zr me zr ?_; (iterate 2 refine ze hT zr zr zr zr zr ?_); refine WT.nil ?_
      refine AW.range (S := RS) (fun s => [(8, .slice s.a s.xs.length s.c)]) (fun s => s.B :: [(i5, .cells false [.int .i64 k, .int .i64 (0 : Nat), .slice ta tn tc])] :: [(i4, .cells false [.bool false, .int .i64 r2.left])] :: [(i3, .cells false [.int .i64 g.terms, .int .i64 g.nons, .int .i64 g.start, .slice a m c])] :: own)
        (fun q s G => Bld tNat G s.a s.xs.length s.c s.B s.xs ∧ ∃ mm, s.xs = (w.take mm).drop i ∧ i ≤ mm ∧ mm ≤ w.length ∧ TreesOf g w (r2.right.drop q) (ks.drop q) mm j ∧ (s.xs.length = 0 → s.a = none)) tn ⟨[], none, 0, []⟩
        zr zr zr zr zr zr zr zr zr (by omega) rfl rfl (fun _ => rfl) (fun _ => rfl) (SubK.of_map rfl) (OwnLe.flat (List.Perm.refl _)) ⟨Bld.nil_ _ _, i, by rw [List.drop_of_length_le (by simp; omega)], Nat.le_refl _, hi, hts, fun _ => rfl⟩ ?_ ?_
      · intro q s F1 hF1 hq hP
        obtain ⟨hb, mm, hxs, h1, h2, hts2, hnil⟩ := hP
        have hk1 := hk.mono hF1
        have hrA := hr.mono hF1
        refine AW.seq ?_; refine AW.reg ?_; refine ze hT zr zr zr zr zr ?_
        refine WT.idxL hT hk1 zr zr zr zr zr zr zr zr (by rw [tTreeN_size]; rfl) (by omega) (fun x hx b off ro cs lx hb1 hp1 hrel => ?_)
        rw [tTreeN_size] at hp1
        obtain ⟨xr, xt, xk, xa, xn, xc, rfl, rfl, hxa, hxb⟩ : ∃ xr xt xk xa xn xc, x = Tree.mk xr xt xk ∧ lx = [.int .i64 xr, .int .i64 (xt : Nat), .slice xa xn xc] ∧ Arr tTree F1 xa xn xc xk ∧ xk.length ≤ 1000000 := by
          cases x with
          | mk xr xt xk =>
            obtain ⟨xa, xn, xc, h1, h2, h3⟩ := tTree_cases ⟨d, hrel⟩
            exact ⟨xr, xt, xk, xa, xn, xc, rfl, h1, h2, h3⟩
        refine zi (fo := 0) hT (by assumption) (by assumption) zr zr zr zr zr zr ?_
        refine WT.allocT hT zr zr zr zr zr zr (fun i10 hi10 => ?_)
        refine ze hT zr zr zr zr zr ?_; refine zs hT 0 0 zr zr zr zr zr zr zr zr zr zr zr zr ?_; refine WT.nil ?_; refine AW.seq ?_; refine AW.draw (ps := []) zr zr ?_; refine zl hT 4 zr zr zr zr zr zr me zr ?_; refine ze hT zr zr zr zr zr ?_; refine zl hT 4 zr zr zr zr zr zr me zr ?_; refine ze hT zr zr zr zr zr ?_; refine zl hT 2 zr zr zr zr zr zr me zr ?_
        refine WT.idxL hT hrA zr zr zr zr zr zr zr zr zr hkn (fun r3 hr3 b3 off3 ro3 cs3 lx3 hb3 hp3 hrel3 => ?_)
        obtain rfl : r3 = r2 := by rw [hrk] at hr3; exact (Option.some.inj hr3).symm
        obtain ⟨b4, n4, d4, rfl, hr5⟩ := hrel3
        have hr5l := hr5.len
        refine ze hT zr zr zr zr zr ?_; refine zi hT (by assumption) (by assumption) zr zr zr zr zr zr ?_; refine ze hT zr zr zr zr zr ?_
        refine WT.idxL hT hr5 zr zr zr zr zr zr zr zr zr (by omega) (fun y hy b6 off6 ro6 cs6 lx6 hb6 hp6 hrel6 => ?_)
        obtain rfl : lx6 = _ := hrel6
        obtain ⟨hq1, hy1⟩ := List.getElem?_eq_some_iff.1 hy
        obtain ⟨hq2, hx1⟩ := List.getElem?_eq_some_iff.1 hx
        rw [List.drop_eq_getElem_cons hq1, List.drop_eq_getElem_cons hq2, hy1, hx1] at hts2
        obtain ⟨m2, hto, hts3⟩ : ∃ m2, TreeOf g w y (Tree.mk xr xt xk) mm m2 ∧ TreesOf g w (r3.right.drop (q + 1)) (ks.drop (q + 1)) m2 j := by
          cases hts2 with
          | cons h h2 => exact ⟨_, h, h2⟩
        have hm2 := hto.le
        have hm2w := hm2.2 h2
        refine zi (fo := 0) hT (by assumption) (by assumption) zr zr zr zr zr zr ?_; refine zl hT 0 zr zr zr zr zr zr me zr ?_
        refine WT.callF0 Tryd.func76 zr zr zr zr zr zr (reads_spec g hg w hw d _ hrA _ _ y mm m2 hrel hto h2) (fun F2 v hF2 hv => ?_)
        obtain ⟨ya, yn, yc, rfl, hya, hyz⟩ := hv
        have hb := hb.mono hF2
        have hyl := hya.len
        have hyl2 : yn ≤ 12 := by rw [hyl]; simp; omega
        have hsl : s.xs.length ≤ 12 := by rw [hxs]; simp; omega
        (iterate 5 refine ze hT zr zr zr zr zr ?_); refine WT.nil ?_; refine And.intro trivial ?_; (iterate 2 refine AW.seq ?_); refine AW.reg ?_; (iterate 2 refine ze hT zr zr zr zr zr ?_); refine WT.nil ?_
        refine AW.cond rfl (fun h => (by cases h)) (fun _ => ?_)
        refine AW.skip ?_; refine AW.reg ?_; (iterate 2 refine ze hT zr zr zr zr zr ?_)
        rcases Nat.eq_zero_or_pos yn with hz | hz
        · subst hz
          have hm0 : (w.take m2).drop mm = [] := List.length_eq_zero_iff.1 hyl.symm
          obtain rfl := hyz rfl
          refine WT.append0 hT zr zr zr zr zr zr zr zr zr zr zr zr zr (fun h0 s0 => rfl) (by decide) (by first | omega | (dsimp only at *; omega)) ?_
          refine ze hT zr zr zr zr zr ?_; refine WT.nil ?_
          exact ⟨⟨s.xs, s.a, s.c, s.B⟩, SubK.of_map rfl, OwnLe.skip _ (OwnLe.refl _), hb, m2, by rw [hxs, word_app h1 hm2.1 h2, hm0, List.append_nil], by omega, hm2w, hts3, hnil⟩
        · obtain ⟨b7, off7, ro7, cs7, ds7, rfl, hb7, hp7, hc7⟩ := arr_part hya hz
          refine WT.appendT (ys := (w.take m2).drop mm) hT 1 hb rfl (fun _ => rfl) zr zr zr zr zr zr zr zr zr zr zr (fun h0 s0 => news_part hT s0 hb7 rfl rfl hp7) hc7 hyl ⟨hz, by decide, by decide⟩ (by first | omega | (dsimp only at *; omega)) (fun a3 c3 B3 hB3 => ?_)
          have hl2 : (s.xs ++ (w.take m2).drop mm).length = s.xs.length + yn := by rw [List.length_append, ← hyl]
          rw [← hl2] at hB3 ⊢
          refine ze hT zr zr zr zr zr ?_; refine WT.nil ?_
          exact ⟨⟨s.xs ++ (w.take m2).drop mm, a3, c3, B3⟩, SubK.of_map rfl, OwnLe.skip _ (OwnLe.refl _), hB3, m2, by rw [hxs, ← word_app h1 hm2.1 h2], by omega, hm2w, hts3, fun h => absurd h (by rw [hl2]; omega)⟩
      · intro s F1 hF1 hP
        obtain ⟨hb, mm, hxs, h1, h2, hts2, hnil⟩ := hP
        rw [List.drop_of_length_le (by omega), List.drop_of_length_le (by omega)] at hts2
        have : mm = j := by cases hts2; rfl
        subst this
        refine AW.freezeAll 0 rfl rfl (fun F2 hF2 hB2 => ?_)
        have hx := hb.frozen hF2 hB2
        refine AW.seq ?_; refine AW.reg ?_; (iterate 3 refine ze hT zr zr zr zr zr ?_); refine WT.nil ?_
        exact AW.ret ⟨_, [], ⟨_, _, rfl, ⟨_, _, rfl, rfl, rfl⟩, rfl⟩, (by repeat (first | exact List.Sublist.refl _ | refine List.Sublist.cons _ ?_)), rfl, _, _, _, rfl, hxs ▸ hx, hnil⟩
end Go.Proofs.D

set_option linter.unusedVariables false
set_option maxRecDepth 20000
set_option maxHeartbeats 0
open Go Go.Abs Go.Proofs Go.Proofs.D
namespace Go.Proofs.D

theorem isTree_spec (g : Gram) (hg : Valid g) (F : Frz) {a : Option Addr} {m c : Nat} (hr : Arr tRule F a m c g.rules) (w : List Nat) (hw : w.length ≤ 12) {cs : List Value} {t : Tree} {j : Nat} (ht : tTree.rel F cs t) (hto : TreeOf g w ⟨false, g.start⟩ t 0 j)
    {b : Option Addr} {n d : Nat} (hb : Arr tNat F b n d (w.take j)) :
    Abs.Spec CC 21 [.agg ⟨gramCells g a m c⟩, .slice b n d, .agg ⟨cs⟩] F [] fun _ v o => o = [] ∧ v = .bool true := by
  obtain ⟨dd, hdd⟩ := id ht
  obtain ⟨tr, tt, tk⟩ := t
  obtain ⟨ta, tn, tc, rfl, hta, htb⟩ := tTree_cases ht
  unfold gramCells
  refine Abs.Spec.fn (n := 24) Tryd.func21 rfl rfl fun own => ?_
  refine AW.seq (AW.reg ?_)
  refine WT.boxT zr zr zr zr zr zr (fun i3 hi3 => ?_)
  skip
  refine WT.boxT zr zr zr zr zr zr (fun i5 hi5 => ?_)
  refine ze hT zr zr zr zr zr ?_; refine WT.nil ?_; refine AW.seq ?_; refine AW.reg ?_; refine zl hT 1 zr zr zr zr zr zr me zr ?_; refine ze hT zr zr zr zr zr ?_; refine zl hT 1 zr zr zr zr zr zr me zr ?_; refine ze hT zr zr zr zr zr ?_; refine zl hT 0 zr zr zr zr zr zr me zr ?_
  refine WT.callF0 Tryd.func76 zr zr zr zr zr zr (reads_spec g hg w hw dd _ hr _ _ ⟨false, g.start⟩ 0 j hdd hto (Nat.zero_le _)) (fun F1 v hF1 hv => ?_)
  obtain ⟨ya, yn, yc, rfl, hya, _⟩ := hv
  rw [List.drop_zero] at hya
  have hyl := hya.len
  have hyn : yn ≤ 1000000 := by rw [hyl]; simp; omega
  (iterate 5 refine ze hT zr zr zr zr zr ?_); refine WT.nil ?_; refine AW.seq ?_; refine AW.reg ?_; (iterate 4 refine ze hT zr zr zr zr zr ?_)
  refine WT.callV Tryd.func33 zr zr zr zr zr zr (equal_spec _ hya (hb.mono hF1) hyn) (fun v hv => ?_)
  rw [decide_eq_true rfl] at hv
  subst hv
  (iterate 2 refine ze hT zr zr zr zr zr ?_); refine WT.nil ?_
  exact AW.ret ⟨_, [], ⟨_, _, rfl, rfl, rfl⟩, (by repeat (first | exact List.Sublist.refl _ | refine List.Sublist.cons _ ?_)), rfl, rfl⟩
end Go.Proofs.D

set_option linter.unusedVariables false
set_option maxRecDepth 20000
set_option maxHeartbeats 0
open Go Go.Abs Go.Proofs Go.Proofs.D
namespace Go.Proofs.D

theorem packratTree_law (F : Frz) (hL : Laid F) {a b : Option Addr} {m n c d : Nat} {l w0 : List Int} (hl : Arr tInt F a m c l) (hw : Arr tInt F b n d w0) (hm : n ≤ 9223372036854775807) :
    Abs.Spec CC 4 [.slice a m c, .slice b n d] F [] fun _ v o => o = [] ∧ v = .bool true := by
  refine Abs.Spec.fn (n := 53) Tryd.func4 rfl rfl fun own => ?_
  refine AW.seq ?_; refine AW.reg ?_; refine ze hT zr zr zr zr zr ?_; refine WT.nil ?_; refine AW.seq ?_; refine AW.reg ?_; (iterate 2 refine ze hT zr zr zr zr zr ?_)
  refine WT.callF0 Tryd.func13 zr zr zr zr zr zr (made_spec _ hl hw hm 12 (by decide)) (fun F1 v hF1 hv => ?_)
  obtain ⟨g, ga, gm, gc, wb, wn, wd, w, rfl, hg, hgr, hww, hw1, hw2⟩ := hv
  have hL1 := hL.mono hF1
  have hwl := hww.len
  unfold gramCells
  (iterate 3 refine ze hT zr zr zr zr zr ?_)
  refine WT.allocT hT zr zr zr zr zr zr (fun i5 hi5 => ?_)
  refine zs hT 0 0 zr zr zr zr zr zr zr zr zr zr zr zr ?_; refine ze hT zr zr zr zr zr ?_; refine WT.nil ?_; refine AW.seq ?_; refine AW.reg ?_; refine zl hT 0 zr zr zr zr zr zr me zr ?_; refine ze hT zr zr zr zr zr ?_
  refine WT.callF0 Tryd.func19 zr zr zr zr zr zr (packParse_spec _ g hg.valid hgr hww hw1 hw2) (fun F2 v hF2 hv => ?_)
  obtain ⟨tr, tt, tk, ta, tn, tc, j, e, rfl, hans⟩ := hv
  have hL2 := hL1.mono hF2
  (iterate 4 refine ze hT zr zr zr zr zr ?_)
  refine WT.allocT hT zr zr zr zr zr zr (fun i6 hi6 => ?_)
  refine zs hT 0 0 zr zr zr zr zr zr zr zr zr zr zr zr ?_; (iterate 2 refine ze hT zr zr zr zr zr ?_); refine WT.nil ?_; (iterate 2 refine AW.seq ?_); refine AW.reg ?_
  refine WT.callV Tryd.func20 zr zr zr zr zr zr (Abs.Spec.fact rfl hL2) (fun v hv => ?_)
  subst hv
  (iterate 5 refine ze hT zr zr zr zr zr ?_); refine WT.nil ?_
  rcases hans with rfl | rfl | ⟨rfl, htr, hto, hj⟩
  · refine AW.cond rfl (fun _ => ?_) (fun h => (by cases h))
    refine AW.seq ?_; refine AW.reg ?_
    refine WT.callV Tryd.func20 zr zr zr zr zr zr (Abs.Spec.fact rfl hL2) (fun v hv => ?_)
    subst hv
    (iterate 4 refine ze hT zr zr zr zr zr ?_); (iterate 2 refine zx zr zr zr zr ?_); (iterate 3 refine ze hT zr zr zr zr zr ?_); refine WT.nil ?_
    exact AW.ret ⟨_, [], ⟨_, _, rfl, rfl, rfl⟩, (by repeat (first | exact List.Sublist.refl _ | refine List.Sublist.cons _ ?_)), rfl, rfl⟩
  · refine AW.cond rfl (fun _ => ?_) (fun h => (by cases h))
    refine AW.seq ?_; refine AW.reg ?_
    refine WT.callV Tryd.func20 zr zr zr zr zr zr (Abs.Spec.fact rfl hL2) (fun v hv => ?_)
    subst hv
    (iterate 9 refine ze hT zr zr zr zr zr ?_); refine WT.nil ?_
    exact AW.ret ⟨_, [], ⟨_, _, rfl, rfl, rfl⟩, (by repeat (first | exact List.Sublist.refl _ | refine List.Sublist.cons _ ?_)), rfl, rfl⟩
  · refine AW.cond rfl (fun h => (by cases h)) (fun _ => ?_)
    have hw2' := (hww.mono hF2)
    refine AW.skip ?_; refine AW.seq ?_; refine AW.draw (ps := []) zr zr ?_; (iterate 9 refine ze hT zr zr zr zr zr ?_)
    refine WT.split 39 rfl (fun _ => ?_) (fun h => (by simp at h <;> omega))
    skip
    refine WT.split 45 rfl (fun _ => ?_) (fun h => (by simp at h <;> omega))
    refine zl hT 1 zr zr zr zr zr zr me zr ?_; (iterate 2 refine ze hT zr zr zr zr zr ?_)
    obtain ⟨sa, sc, hs, hsl⟩ := hw2'.slice (C := CC) (lo := 0) (hi := j) (Nat.zero_le _) (by omega) hT (t := 22) zr zr zr none (some (.int .i64 j)) rfl rfl
    refine WT.slice zr zr zr zr zr zr zr zr hs ?_
    rw [List.drop_zero] at hsl
    refine zl hT 0 zr zr zr zr zr zr me zr ?_
    refine WT.callV Tryd.func21 zr zr zr zr zr zr (isTree_spec g hg.valid _ (hgr.mono hF2) w hw1 htr hto (by simpa using hsl)) (fun v hv => ?_)
    subst hv
    (iterate 2 refine ze hT zr zr zr zr zr ?_); refine WT.nil ?_; refine And.intro trivial ?_
    exact AW.ret ⟨_, [], ⟨_, _, rfl, rfl, rfl⟩, (by repeat (first | exact List.Sublist.refl _ | refine List.Sublist.cons _ ?_)), rfl, rfl⟩
end Go.Proofs.D

