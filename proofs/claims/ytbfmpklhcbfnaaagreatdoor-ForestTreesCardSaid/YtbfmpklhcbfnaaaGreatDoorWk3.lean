/-
  Walks: what functions of the program do, over the abstract machine.
-/
import Derived.Test.YtbfmpklhcbfnaaaGreatDoorWk2
set_option linter.unusedVariables false
set_option maxRecDepth 20000
set_option maxHeartbeats 0
open Go Go.Abs Go.Proofs Go.Proofs.D
namespace Go.Proofs.D

def foOf (Ns : List Node) : Fo where
  n := Ns.length
  leaf := fun v => match Ns[v]? with
    | some x => if x.key.sym.term = true then some x.key.sym.n else none
    | none => none
  packs := fun v => match Ns[v]? with
    | some x => x.packs
    | none => []

/-- What of a lister does not change. -/
structure LP where
  li : Nat
  na : Option Addr
  nn : Nat
  nc : Nat
  root : Nat
  most : Nat
  lo : Nat
  lc : Nat
  is : Nat
  iw : Nat

structure LR where
  qa : Option Addr
  qn : Nat
  qc : Nat
  qB : List (Nat × Blk)
  Q : List (Cand × Tree)
  vs : List Value
  bs : List (Nat × Blk)
  pss : List (List Nat)
  se : List (Value × Value)
  sm : Ents Cand
  we : List (Value × Value)
  wm : Ents (Nat × Nat)
  wbs : List (Nat × Blk)
  ws : List ((Nat × Nat) × List Cand)

def lrL (p : LP) : LB := ⟨p.li, .slice p.na p.nn p.nc, .int .i64 p.root, .int .i64 p.most, .slice (some ⟨p.lo, 0, none⟩) p.nn p.lc, .map (some p.is), .map (some p.iw), rfl, rfl, rfl, rfl, rfl, rfl⟩
def lrB (p : LP) (r : LR) : List (Nat × Blk) := lB (lrL p) r.qa r.qn r.qc r.qB ++ ([(p.lo, .cells false r.vs)] ++ (r.bs ++ ([(p.is, .map r.se)] ++ ([(p.iw, .map r.we)] ++ r.wbs))))

structure LOk (p : LP) (Ns : List Node) (F : Frz) (r : LR) (s : Lst) : Prop where
  nodes : Arr tNode F p.na p.nn p.nc Ns
  q : GB tCQ F r.qa r.qn r.qc r.qB r.Q
  qp : r.Q.Perm s.q
  qh : HeapN r.Q r.Q.length
  rows : RowsP F r.vs r.bs r.pss
  rlen : r.pss.length = p.nn
  trees : ∀ (v : Nat) (ps : List Nat), r.pss[v]? = some ps → ShL F ps (s.lists v)
  se : alive r.se = entsV keyC r.sm
  sl : ∀ c, Abs.look r.sm c = if c ∈ s.seen then some (.bool true) else none
  we : alive r.we = entsV keyW r.wm
  wn : (r.wm.map (·.1)).Nodup
  ws : WaitsP F r.wm r.wbs r.ws
  wg : ∀ w, s.waits w = getW r.ws w

theorem LOk.mono {p : LP} {Ns : List Node} {F G : Frz} {r : LR} {s : Lst} (h : LOk p Ns F r s) (hF : Frz.le F G) : LOk p Ns G r s :=
  ⟨h.nodes.mono hF, h.q.mono hF, h.qp, h.qh, h.rows.any, h.rlen, fun v ps hv => (h.trees v ps hv).mono hF, h.se, h.sl, h.we, h.wn, h.ws.any, h.wg⟩

theorem lrB_own (p : LP) (r : LR) (own : Own) : OwnLe (((p.li, .cells false [.slice p.na p.nn p.nc, .int .i64 p.root, .int .i64 p.most, .slice (some ⟨p.lo, 0, none⟩) p.nn p.lc, .map (some p.is), .map (some p.iw), .slice r.qa r.qn r.qc]) :: r.qB) :: [(p.lo, .cells false r.vs)] :: r.bs :: [(p.is, .map r.se)] :: [(p.iw, .map r.we)] :: r.wbs :: own) (lrB p r :: own) :=
  OwnLe.flat (List.Perm.of_eq (by simp [lrB, lB, lrL, lCells]))
theorem lrB_own' (p : LP) (r : LR) (own : Own) : OwnLe (lrB p r :: own) (((p.li, .cells false [.slice p.na p.nn p.nc, .int .i64 p.root, .int .i64 p.most, .slice (some ⟨p.lo, 0, none⟩) p.nn p.lc, .map (some p.is), .map (some p.iw), .slice r.qa r.qn r.qc]) :: r.qB) :: [(p.lo, .cells false r.vs)] :: r.bs :: [(p.is, .map r.se)] :: [(p.iw, .map r.we)] :: r.wbs :: own) :=
  OwnLe.flat (List.Perm.of_eq (by simp [lrB, lB, lrL, lCells]))

theorem Inv.q_few {f : Fo} {most : Nat} {s : Lst} {done pend ex : List Cand} (h : Inv f most s done pend ex) : s.q.length ≤ s.seen.length := by
  have := sub_len (s.q.map (·.1)) s.seen h.qnd fun c hc => by
    obtain ⟨x, hx, rfl⟩ := List.mem_map.1 hc
    exact (h.qok x hx).1
  rwa [List.length_map] at this

theorem Inv.w_few {f : Fo} {most : Nat} {s : Lst} {done pend ex : List Cand} (h : Inv f most s done pend ex) (w : Nat × Nat) : (s.waits w).length ≤ s.seen.length :=
  sub_len (s.waits w) s.seen (h.wnd w) fun c hc => (h.wok w c hc).1

theorem miss_at {L : Nat → List Tree} : ∀ {ks rs : List Nat} {j k r : Nat}, (∀ i, i < j → ∃ k r t, ks[i]? = some k ∧ rs[i]? = some r ∧ (L k)[r]? = some t) → ks[j]? = some k → rs[j]? = some r → (L k)[r]? = none → miss L ks rs = some (k, r)
  | [], _, _, _, _, _, h, _, _ => by simp at h
  | _ :: _, [], _, _, _, _, _, h, _ => by simp at h
  | k0 :: ks, r0 :: rs, 0, k, r, _, h1, h2, h3 => by
    obtain rfl : k0 = k := by simpa using h1
    obtain rfl : r0 = r := by simpa using h2
    unfold miss
    simp only [h3]
  | k0 :: ks, r0 :: rs, j + 1, k, r, h0, h1, h2, h3 => by
    obtain ⟨k', r', t, e1, e2, e3⟩ := h0 0 zo
    obtain rfl : k0 = k' := by simpa using e1
    obtain rfl : r0 = r' := by simpa using e2
    unfold miss
    simp only [e3]
    exact miss_at (j := j) (fun i hi => by
      obtain ⟨k', r', t, e1, e2, e3⟩ := h0 (i + 1) zo
      exact ⟨k', r', t, by simpa using e1, by simpa using e2, e3⟩) (by simpa using h1) (by simpa using h2) h3

theorem pick_miss {L : Nat → List Tree} {ks rs : List Nat} {ts : List Tree} (h : pick L ks rs = some ts) : miss L ks rs = none := by
  cases hm : miss L ks rs with
  | none => rfl
  | some w =>
    obtain ⟨i, h1, h2, h3⟩ := miss_some (k := w.1) (r := w.2) hm
    obtain ⟨r, t, e1, e2, _⟩ := (pick_some h).2 i _ h1
    rw [h2] at e1; cases e1
    rw [h3] at e2; cases e2

theorem WaitsP.slot {F : Frz} {m : Ents (Nat × Nat)} {bs : List (Nat × Blk)} {ws : List ((Nat × Nat) × List Cand)} (h : WaitsP F m bs ws) (hn : (m.map (·.1)).Nodup) (w : Nat × Nat) :
    ∃ a n c WB W1 W2, (Abs.look m w).getD (.slice none 0 0) = .slice a n c ∧ bs = W1 ++ (WB ++ W2) ∧ Bld tCN F a n c WB (getW ws w) ∧
      (∀ (a' : Option Addr) (n' c' : Nat) (B' : List (Nat × Blk)) (cs' : List Cand), Bld tCN F a' n' c' B' cs' → ∃ ws', WaitsP F (mset m w (.slice a' n' c')) (W1 ++ (B' ++ W2)) ws' ∧ ∀ x, getW ws' x = if x = w then cs' else getW ws x) ∧
      ∃ ws', WaitsP F (mdel m w) (W1 ++ W2) ws' ∧ ∀ x, getW ws' x = if x = w then [] else getW ws x := by
  rcases h.split hn w with ⟨h1, h2, h2', h3⟩ | ⟨a, n, c, B, b1, b2, h1, h2, h3, h4, h5⟩
  · refine ⟨none, 0, 0, [], bs, [], by rw [h1]; rfl, by simp, by rw [h2]; exact Bld.nil_ _ _, fun a' n' c' B' cs' hb => ?_, ws, by rw [h2', List.append_nil]; exact h, fun x => ?_⟩
    · rw [List.append_nil]; exact h3 a' n' c' B' cs' hb
    · split
      · rename_i e; rw [e, h2]
      · rfl
  · exact ⟨a, n, c, B, b1, b2, by rw [h1]; rfl, h2, h3, h4, h5⟩

theorem own_wsplit (A B C : List (Nat × Blk)) (own : Own) : OwnLe ((A ++ C) :: B :: own) ((A ++ (B ++ C)) :: own) := by
  refine OwnLe.flat ?_
  simp only [List.flatten_cons, List.append_assoc]
  refine List.Perm.append_left A ?_
  have := (List.perm_append_comm (l₁ := B) (l₂ := C)).append_right own.flatten
  simpa [List.append_assoc] using this
theorem own_wjoin (A B C : List (Nat × Blk)) (own : Own) : OwnLe ((A ++ (B ++ C)) :: own) ((A ++ C) :: B :: own) := by
  refine OwnLe.flat ?_
  simp only [List.flatten_cons, List.append_assoc]
  refine List.Perm.append_left A ?_
  have := (List.perm_append_comm (l₁ := C) (l₂ := B)).append_right own.flatten
  simpa [List.append_assoc] using this

theorem cand_rank {c : Cand} {j r : Nat} {t : Value} (h : c.ranks[j]? = some r) : ([.int .i64 c.node, .int .i64 c.pack, .int .i64 c.r0, .int .i64 c.r1, .int .i64 c.r2, .int .i64 c.r3, t] : List Value)[0 + 2 + j * 1]? = some (.int .i64 r) := by
  match j, h with
  | 0, h => simp [Cand.ranks] at h; subst h; rfl
  | 1, h => simp [Cand.ranks] at h; subst h; rfl
  | 2, h => simp [Cand.ranks] at h; subst h; rfl
  | 3, h => simp [Cand.ranks] at h; subst h; rfl
  | _ + 4, h => simp [Cand.ranks] at h

structure TrS where
  ka : Option Addr
  kc : Nat
  KB : List (Nat × Blk)
  ps : List Nat
  ts : List Tree

theorem ltry_spec (F : Frz) {p : LP} {Ns : List Node} {r : LR} {s : Lst} {c : Cand} {done pend ex : List Cand} (hl : LOk p Ns F r s) (hf : (foOf Ns).Good) (hI : Inv (foOf Ns) p.most s done (c :: pend) ex) (hm : p.most ≤ 1000) (hseen : s.seen.length ≤ 800000000000) (hNs : Ns.length ≤ 1000000) :
    Abs.Spec CC 136 [.pointer (some ⟨p.li, 0, none⟩), .agg ⟨candV c (.pointer none)⟩] F [lrB p r] fun F' v o => ∃ B', o = [B'] ∧ ∃ r', B' = lrB p r' ∧ LOk p Ns F' r' (tryS (foOf Ns) s c) := by
  have hnl := hl.nodes.len
  have hok := hI.ok c (hI.psub c (List.mem_cons_self ..))
  obtain ⟨pk, hpk⟩ := hok.pack
  have hcn : c.node < Ns.length := hok.node
  obtain ⟨x, hx⟩ : ∃ x, Ns[c.node]? = some x := ⟨_, List.getElem?_eq_getElem hcn⟩
  have hpx : x.packs[c.pack]? = some pk := by
    unfold packAt foOf at hpk
    simpa [hx] using hpk
  have hkid := hf.kids c.node hok.node pk (List.mem_of_getElem? hpk)
  have hcr : ∀ r0 ∈ c.ranks, r0 ≤ 1000 := fun r0 h0 => Nat.le_trans (hok.rank r0 h0) hm
  have hqf := hI.q_few
  have hqn : r.qn ≤ 800000000000 := by rw [hl.q.len, hl.qp.length_eq]; omega
  unfold candV
  refine Abs.Spec.fn (n := 120) Tryz.func136 rfl rfl fun own => ?_
  refine AW.seq (AW.reg ?_)
  refine WT.boxT zr zr zr zr zr zr (fun i3 hi3 => ?_)
  refine WT.le (OwnLe.cons _ (lrB_own p r own)) ?_
  refine zA ?_
  refine AW.draw (ps := [(4, 14), (6, 14), (9, 14), (11, 14), (13, 14)]) rfl rfl ?_
  refine zA ?_; refine zl hT 1 zr zr zr zr zr zr me zr ?_; refine zA ?_; refine zl hT 0 zr zr zr zr zr zr me zr ?_
  refine WT.idxL hT hl.nodes zr zr zr zr zr zr zr zr zr zo (fun z hz b7 off7 ro7 cs7 lx7 hb7 hp7 hrel7 => ?_)
  rw [hx] at hz; cases hz
  obtain ⟨pa, pn, pc, rfl, hpa⟩ := hrel7
  have hpal := hpa.len
  refine zA ?_; refine zi hT (by assumption) (by assumption) zr zr zr zr zr zr ?_; refine zA ?_; refine zl hT 0 zr zr zr zr zr zr me zr ?_
  refine WT.idxL hT hpa zr zr zr zr zr zr zr zr zr (by have := (List.getElem?_eq_some_iff.1 hpx).1; omega) (fun z hz b8 off8 ro8 cs8 lx8 hb8 hp8 hrel8 => ?_)
  rw [hpx] at hz; cases hz
  obtain ⟨ka, kn, kc, rfl, hka, hkl⟩ := hrel8
  have hkal := hka.len
  refine zi (fo := 0) hT (by assumption) (by assumption) zr zr zr zr zr zr ?_
  refine WT.allocT hT zr zr zr zr zr zr (fun i4 hi4 => ?_)
  refine zs hT 0 0 zr zr zr zr zr zr zr zr zr zr zr zr ?_; refine WT.nil ?_
  refine ⟨zrA, ?_⟩
  refine zA ?_; refine zl hT 0 zr zr zr zr zr zr me zr ?_; refine zA ?_
  refine WT.boxT zr zr zr zr zr zr (fun i5 hi5 => ?_)
  refine zA ?_; refine zl hT 1 zr zr zr zr zr zr me zr ?_; refine zA ?_
  refine AW.range (S := TrS) (fun _ => []) (fun u => [(i5, .cells false [.int .i64 pk.rule, .int .i64 0, .int .i64 ((1 + (preL u.ts).length : Nat) : Int), .slice u.ka u.ts.length u.kc])] :: u.KB :: [(i4, .cells false [.int .i64 pk.rule, .slice ka kn kc])] :: [(i3, .cells false [.int .i64 c.node, .int .i64 c.pack, .int .i64 c.r0, .int .i64 c.r1, .int .i64 c.r2, .int .i64 c.r3, .pointer none])] :: ((p.li, .cells false [.slice p.na p.nn p.nc, .int .i64 p.root, .int .i64 p.most, .slice (some ⟨p.lo, 0, none⟩) p.nn p.lc, .map (some p.is), .map (some p.iw), .slice r.qa r.qn r.qc]) :: r.qB) :: [(p.lo, .cells false r.vs)] :: r.bs :: [(p.is, .map r.se)] :: [(p.iw, .map r.we)] :: r.wbs :: own)
    (fun j u G => Bld tPtr G u.ka u.ts.length u.kc u.KB u.ps ∧ ShL G u.ps u.ts ∧ u.ts.length = j ∧ (preL u.ts).length ≤ j * 5000 ∧ ∀ i, i < j → ∃ k r t, pk.kids[i]? = some k ∧ c.ranks[i]? = some r ∧ (s.lists k)[r]? = some t ∧ u.ts[i]? = some t) kn ⟨none, 0, [], [], []⟩
    zr zr zr zr zr zr zr zr zr zo rfl rfl (fun _ => rfl) (fun _ => rfl) (SubK.of_map rfl) (OwnLe.flat (List.Perm.refl _)) ⟨Bld.nil_ _ _, .nil, rfl, Nat.zero_le _, fun i hi => by omega⟩ ?_ ?_
  · intro j u F1 hF1 hj hP
    obtain ⟨hb, hS, hul, hul2, hav⟩ := hP
    have hl1 := hl.mono hF1
    have hka1 := hka.mono hF1
    refine zA ?_
    refine WT.idxL hT hka1 zr zr zr zr zr zr zr zr zr zo (fun k hk b9 off9 ro9 cs9 lx9 hb9 hp9 hrel9 => ?_)
    obtain rfl : lx9 = _ := hrel9
    have hj4 : j < 4 := by omega
    obtain ⟨rj, hrj⟩ : ∃ rj, c.ranks[j]? = some rj := ⟨_, List.getElem?_eq_getElem (by show j < 4; exact hj4)⟩
    have hrj1 := hcr rj (List.mem_of_getElem? hrj)
    have hkn : k < Ns.length := hkid.2 k (List.mem_of_getElem? hk)
    obtain ⟨ps, hps⟩ : ∃ ps, r.pss[k]? = some ps := ⟨_, List.getElem?_eq_getElem (by have := hl.rlen; omega)⟩
    obtain ⟨va, vn, vc, VB, b1, b2, hvk, hbs, hVB, hput⟩ := hl1.rows.split hps
    have htr := hl1.trees k ps hps
    have hvn := hVB.len
    have htrl := htr.len
    refine zi (fo := 0) hT (by assumption) (by assumption) zr zr zr zr zr zr ?_; refine zA ?_; refine AW.draw (ps := []) zr zr ?_; refine zA ?_
    refine WT.idxArr (j := j) (s := 1) (len := 4) hT zr zr zr zr zr zr zr zr zr hj4 ?_
    refine WT.loadAt hT 3 zr zr zr zr zr zr (List.mem_cons_self ..) rfl rfl (cand_rank hrj) ?_
    refine zA ?_; refine zl hT 4 zr zr zr zr zr zr me zr ?_; refine zA ?_
    refine WT.idxA (j := k) (s := 1) hT zr zr zr zr zr zr zr zr zr zo ?_
    refine WT.loadAt hT 5 zr zr zr zr zr zr (List.mem_cons_self ..) rfl rfl (v := .slice va vn vc) (by rw [Nat.zero_add, Nat.mul_one]; exact hvk) ?_
    refine zA ?_; refine And.intro trivial ?_
    refine AW.cond rfl (fun hc => ?_) (fun hc => ?_)
    · have hc : vn ≤ rj := by simp at hc; omega
      have hmiss : miss s.lists pk.kids c.ranks = some (k, rj) := miss_at (j := j) (fun i hi => by
        obtain ⟨k', r', t, h1, h2, h3, _⟩ := hav i hi
        exact ⟨k', r', t, h1, h2, h3⟩) hk hrj (List.getElem?_eq_none zo)
      obtain ⟨xa, xn, xc, WB, W1, W2, hlk, hwbs, hWB, hset, _⟩ := hl1.ws.slot hl1.wn (k, rj)
      have hwf := hI.w_few (k, rj)
      rw [hl1.wg] at hwf
      have hxn := hWB.len
      rw [hwbs]
      refine AW.le (OwnLe.cons _ (OwnLe.cons _ (OwnLe.cons _ (OwnLe.cons _ (OwnLe.cons _ (OwnLe.cons _ (OwnLe.cons _ (OwnLe.cons _ (OwnLe.cons _ (own_wsplit W1 WB W2 own)))))))))) ?_
      refine zA ?_
      refine WT.idxArr (j := j) (s := 1) (len := 4) hT zr zr zr zr zr zr zr zr zr hj4 ?_
      refine WT.loadAt hT 3 zr zr zr zr zr zr (List.mem_cons_self ..) rfl rfl (cand_rank hrj) ?_
      refine zA ?_
      refine WT.allocT hT zr zr zr zr zr zr (fun i8 hi8 => ?_)
      refine zs hT 0 0 zr zr zr zr zr zr zr zr zr zr zr zr ?_; refine zA ?_
      refine AW.draw (ps := [(3, 6), (4, 6)]) rfl rfl ?_
      refine zA ?_; refine zl hT 5 zr zr zr zr zr zr me zr ?_; refine zl hT 0 zr zr zr zr zr zr me zr ?_; refine zl hT 4 zr zr zr zr zr zr me zr ?_
      refine WT.buildT hT zr zr zr zr zr zr zr zr zr zr zr zr zr zr (fun i62 hi62 => ?_)
      refine WT.entryE keyW (key := (k, rj)) hT 10 0 hl1.we zr zr zr zr zr zr zr zr zr zr zr (fun _ => rfl) (fun _ => rfl) (fun es1 st he => ?_)
      rw [hlk]
      refine zA ?_
      refine WT.appendT (ys := [c]) hT 12 hWB rfl (fun _ => rfl) zr zr zr zr zr zr zr zr zr zr zr (fun h0 s0 => news_own hT s0 0 zr zr zr zr) (Cells.single (R := tCN) (x := c) rfl) rfl (by decide) zom (fun a3 c3 B3 hB3 => ?_)
      refine zA ?_
      refine WT.entrySt keyW 10 0 he zr zr zr zr zr zr zr zr (fun _ => rfl) (fun _ => rfl) (fun es2 hes2 => ?_)
      refine WT.nil ?_
      refine ⟨zrA, ?_⟩
      skip
      obtain ⟨ws', hws', hwg'⟩ := hset a3 (xn + 1) c3 B3 _ hB3
      have htry : tryS (foOf Ns) s c = { s with waits := fun x => if x = (k, rj) then s.waits (k, rj) ++ [c] else s.waits x } := by
        unfold tryS
        simp only [hpk, hmiss]
      refine AW.le (OwnLe.trans (lrB_own' p ⟨r.qa, r.qn, r.qc, r.qB, r.Q, r.vs, r.bs, r.pss, r.se, r.sm, es2, mset r.wm (k, rj) (.slice a3 (xn + 1) c3), W1 ++ (B3 ++ W2), ws'⟩ own) (OwnLe.skip _ (OwnLe.skip _ (OwnLe.skip _ (OwnLe.skip _ (OwnLe.skip _ (OwnLe.skip _ (OwnLe.cons _ (OwnLe.cons _ (OwnLe.cons _ (OwnLe.cons _ (OwnLe.cons _ (own_wjoin W1 B3 W2 own))))))))))))) ?_
      refine AW.ret ⟨_, [_], rfl, zsb, _, rfl, _, rfl, ?_⟩
      rw [htry]
      exact ⟨hl1.nodes, hl1.q, hl1.qp, hl1.qh, hl1.rows, hl1.rlen, hl1.trees, hl1.se, hl1.sl, hes2, mset_keys hl1.wn, hws', fun x => by
        show (if x = (k, rj) then s.waits (k, rj) ++ [c] else s.waits x) = _
        rw [hwg' x, hl1.wg, hl1.wg]⟩
    · have hc : rj < vn := by simp at hc; omega
      obtain ⟨px, hpx2⟩ : ∃ px, ps[rj]? = some px := ⟨_, List.getElem?_eq_getElem zo⟩
      obtain ⟨tt, htt⟩ : ∃ tt, (s.lists k)[rj]? = some tt := ⟨_, List.getElem?_eq_getElem zo⟩
      have hsh := htr.at_ hpx2 htt
      have hsm := hI.small k tt (List.mem_of_getElem? htt)
      refine zA ?_; refine AW.draw (ps := []) zr zr ?_; refine zA ?_; refine zl hT 4 zr zr zr zr zr zr me zr ?_; refine zA ?_
      refine WT.idxA (j := k) (s := 1) hT zr zr zr zr zr zr zr zr zr zo ?_
      refine WT.loadAt hT 5 zr zr zr zr zr zr (List.mem_cons_self ..) rfl rfl (v := .slice va vn vc) (by rw [Nat.zero_add, Nat.mul_one]; exact hvk) ?_
      refine zA ?_
      refine WT.idxArr (j := j) (s := 1) (len := 4) hT zr zr zr zr zr zr zr zr zr hj4 ?_
      refine WT.loadAt hT 3 zr zr zr zr zr zr (List.mem_cons_self ..) rfl rfl (cand_rank hrj) ?_
      skip
      refine WT.gidx hT hVB.gb zr zr zr zr zr zr zr zr zr hc (fun b1 hb1 => ?_)
      refine WT.gld1 (x := px) hT 6 hVB.gb hb1 hpx2 zr zr zr zr zr zr (fun z hz => by rw [hbs]; exact List.mem_append_right _ (List.mem_append_left _ hz)) zr zr zr (fun v hv => ?_)
      obtain rfl : v = _ := (List.singleton_inj.1 hv)
      refine zA ?_; refine And.intro trivial ?_; refine zA ?_; refine zl hT 0 zr zr zr zr zr zr me zr ?_; refine zA ?_
      refine WT.buildT hT zr zr zr zr zr zr zr zr zr zr zr zr zr zr (fun i9 hi9 => ?_)
      refine WT.appendT (ys := [px]) hT 2 hb rfl (fun _ => rfl) zr zr zr zr zr zr zr zr zr zr zr (fun h0 s0 => news_own hT s0 0 zr zr zr zr) (Cells.single (R := tPtr) (x := px) rfl) rfl (by decide) zom (fun a3 c3 B3 hB3 => ?_)
      have hsh0 := hsh
      cases hsh with
      | @mk _ tr tm tks ta tn tc tps g1 g2 g3 =>
      refine zA ?_; refine zs hT 1 0 zr zr zr zr zr zr zr zr zr zr zr zr ?_; refine WT.nil ?_; refine AW.draw (ps := []) zr zr ?_; refine zA ?_; refine zl hT 1 zr zr zr zr zr zr me zr ?_; refine zA ?_; refine zf hT (by assumption) zr zr zr zr zr zr ?_; refine WT.addN zr zr zr zr zr zr zo ?_; refine zA ?_; refine zs hT 1 0 zr zr zr zr zr zr zr zr zr zr zr zr ?_; refine WT.nil ?_; refine And.intro trivial ?_
      have elen : (preL (u.ts ++ [Tree.mk tr tm tks])).length = (preL u.ts).length + (Tree.mk tr tm tks).pre.length := by
        rw [preL_app]; simp [preL]
      refine ⟨⟨a3, c3, B3, u.ps ++ [px], u.ts ++ [Tree.mk tr tm tks]⟩, SubK.of_map rfl, ?_, by show Bld tPtr F1 a3 (u.ts ++ [_]).length c3 B3 _; rw [List.length_append]; exact hB3, ShL.app hS (.cons hsh0 .nil), by show (u.ts ++ [_]).length = j + 1; simp [hul], by show (preL (u.ts ++ [_])).length ≤ _; rw [elen]; omega, fun i hi => ?_⟩
      · show OwnLe ([(i5, Blk.cells false [.int .i64 pk.rule, .int .i64 0, .int .i64 ((1 + (preL (u.ts ++ [Tree.mk tr tm tks])).length : Nat) : Int), .slice a3 (u.ts ++ [Tree.mk tr tm tks]).length c3])] :: B3 :: _) _
        rw [elen, List.length_append, ← Nat.add_assoc]
        exact OwnLe.skip _ (OwnLe.refl _)
      · show ∃ k r t, _ ∧ _ ∧ _ ∧ (u.ts ++ [Tree.mk tr tm tks])[i]? = some t
        rcases Nat.lt_or_ge i j with h1 | h1
        · obtain ⟨k', r', t', e1, e2, e3, e4⟩ := hav i h1
          exact ⟨k', r', t', e1, e2, e3, by rw [List.getElem?_append_left zo]; exact e4⟩
        · obtain rfl : i = j := by omega
          exact ⟨k, rj, _, hk, hrj, htt, by rw [List.getElem?_append_right zo, hul, Nat.sub_self]; rfl⟩
  · intro u F1 hF1 hP
    obtain ⟨hb, hS, hul, hul2, hav⟩ := hP
    have hl1 := hl.mono hF1
    have hbl := hb.len
    have hpick : pick s.lists pk.kids c.ranks = some u.ts := pick_of zo fun i k hk => by
      obtain ⟨k', r', t', e1, e2, e3, e4⟩ := hav i (by have := (List.getElem?_eq_some_iff.1 hk).1; omega)
      rw [hk] at e1; cases e1
      exact ⟨r', t', e2, e3, e4⟩
    have htry : tryS (foOf Ns) s c = { s with q := s.q ++ [(c, .mk pk.rule 0 u.ts)] } := by
      unfold tryS
      simp only [hpk, pick_miss hpick, hpick]
    have epre : (Tree.mk pk.rule 0 u.ts).pre.length = 1 + (preL u.ts).length := by
      show (_ :: preL u.ts).length = _
      rw [List.length_cons, Nat.add_comm]
    refine zA ?_; refine zs hT 3 0 zr zr zr zr zr zr zr zr zr zr zr zr ?_; refine zA ?_; refine zl hT 2 zr zr zr zr zr zr me zr ?_; refine zA ?_
    refine AW.cond rfl (fun h => ?_) (fun _ => ?_)
    · exfalso; simp at h
    refine AW.skip ?_; refine AW.draw (ps := []) zr zr ?_; refine zA ?_
    refine WT.freezeAll 0 rfl rfl (fun F2 hF2 hB2 => ?_)
    refine WT.freezeAll 1 rfl rfl (fun F3 hF3 hB3 => ?_)
    have hka3 := (hb.mono hF2).frozen hF3 hB3
    have hi5' := hF3 _ _ (hB2 i5 _ (List.mem_cons_self ..))
    have hsh : Sh F3 i5 (.mk pk.rule 0 u.ts) := .mk (by rw [epre]; exact hi5') hka3 (hS.mono (hF2.trans hF3))
    have hl3 := (hl1.mono hF2).mono hF3
    refine WT.ifaceT hT zr zr zr zr zr zr ?_
    refine zl hT 3 zr zr zr zr zr zr me zr ?_
    refine WT.ifaceT hT zr zr zr zr zr zr ?_
    refine WT.call1F 4 Tryz.func170 zr zr zr zr zr zr zr (fun _ => rfl) (hpush_spec F3 (lrL p) hl3.q zo hl3.qh (x := (c, .mk pk.rule 0 u.ts)) (l := candV c (.pointer (some ⟨i5, 0, none⟩))) ⟨i5, rfl, hsh, by rw [epre]; omega⟩) (fun F4 v B4 hF4 hv => ?_)
    obtain ⟨a', c', B5, Q2, rfl, hB5, hp2, hh2⟩ := hv
    refine WT.le (OwnLe.trans (lrB_own' p ⟨a', r.qn + 1, c', B5, Q2, r.vs, r.bs, r.pss, r.se, r.sm, r.we, r.wm, r.wbs, r.ws⟩ own) (OwnLe.skip _ (OwnLe.skip _ (OwnLe.skip _ (OwnLe.skip _ (OwnLe.refl _)))))) ?_
    refine WT.nil ?_; refine And.intro trivial ?_
    have hl4 := hl3.mono hF4
    refine ⟨_, [_], rfl, zsb, _, rfl, _, rfl, ?_⟩
    rw [htry]
    exact ⟨hl4.nodes, hB5, hp2.trans (hl4.qp.append_right _), hh2, hl4.rows, hl4.rlen, hl4.trees, hl4.se, hl4.sl, hl4.we, hl4.wn, hl4.ws, hl4.wg⟩

theorem lfirst_spec (F : Frz) {p : LP} {Ns : List Node} {r : LR} {s : Lst} {c : Cand} {done ex : List Cand} (hl : LOk p Ns F r s) (hf : (foOf Ns).Good) (hI : Inv (foOf Ns) p.most s done [] ex) (hc : CandOk (foOf Ns) p.most c) (hTop : ∀ T, candTree (foOf Ns) s.lists c = some T → ∀ v, (foOf Ns).leaf v = none → ∀ x ∈ s.lists v, tle x T) (hm : p.most ≤ 1000) (hseen : s.seen.length < 800000000000) (hNs : Ns.length ≤ 1000000) (t0 : Value) (ht0 : one t0 = true) :
    Abs.Spec CC 100 [.pointer (some ⟨p.li, 0, none⟩), .agg ⟨candV c t0⟩] F [lrB p r] fun F' v o => ∃ B', o = [B'] ∧ ∃ r', B' = lrB p r' ∧ LOk p Ns F' r' (firstS (foOf Ns) s c) := by
  unfold candV
  refine Abs.Spec.fn (n := 20) Tryz.func100 rfl rfl fun own => ?_
  refine AW.seq (AW.reg ?_)
  refine WT.boxT zr zr zr zr zr zr (fun i3 hi3 => ?_)
  refine WT.le (OwnLe.cons _ (lrB_own p r own)) ?_
  refine zA ?_; refine zs hT 0 0 zr zr zr zr zr zr zr zr zr zr zr zr ?_; refine zA ?_; refine AW.draw (ps := []) zr zr ?_; refine zA ?_; refine zl hT 1 zr zr zr zr zr zr me zr ?_; refine zl hT 0 zr zr zr zr zr zr me zr ?_
  refine WT.lookupT keyC (key := c) hT 4 hl.se zr zr zr zr zr zr zr me zr zr zr ?_
  rw [hl.sl c]
  by_cases hin : c ∈ s.seen
  · rw [if_pos hin]
    refine zA ?_; refine And.intro trivial ?_
    refine AW.cond rfl (fun h => (by cases h)) (fun _ => ?_)
    refine AW.le (OwnLe.trans (lrB_own' p r own) (OwnLe.skip _ (OwnLe.refl _))) ?_
    refine AW.skip ⟨_, [_], rfl, zsb, _, rfl, r, rfl, ?_⟩
    unfold firstS
    rw [if_pos hin]
    exact hl
  · rw [if_neg hin]
    refine zA ?_; refine And.intro trivial ?_
    refine AW.cond rfl (fun _ => ?_) (fun h => (by cases h))
    refine AW.seq ?_; refine AW.draw (ps := []) zr zr ?_; refine zA ?_; refine zl hT 1 zr zr zr zr zr zr me zr ?_; refine zl hT 0 zr zr zr zr zr zr me zr ?_
    refine WT.mapSetE keyC (key := c) hT 4 0 hl.se zr zr zr zr zr zr zr zr zr zr (fun _ => rfl) (fun _ => rfl) (fun es1 hes1 => ?_)
    refine WT.nil ?_; refine And.intro trivial ?_; refine zA ?_; refine zl hT 0 zr zr zr zr zr zr me zr ?_
    have hl1 : LOk p Ns F { r with se := es1, sm := mset r.sm c (.bool true) } { s with seen := s.seen ++ [c] } :=
      ⟨hl.nodes, hl.q, hl.qp, hl.qh, hl.rows, hl.rlen, hl.trees, hes1, fun x => by
        show Abs.look (mset r.sm c (.bool true)) x = if x ∈ s.seen ++ [c] then some (.bool true) else none
        rw [look_mset, hl.sl x]
        by_cases e : x = c
        · rw [if_pos e, if_pos (by rw [e]; simp)]
        · rw [if_neg e]
          by_cases h2 : x ∈ s.seen
          · rw [if_pos h2, if_pos (List.mem_append_left _ h2)]
          · rw [if_neg h2, if_neg (fun h3 => by
              rcases List.mem_append.1 h3 with h3 | h3
              · exact h2 h3
              · exact e (List.mem_singleton.1 h3))], hl.we, hl.wn, hl.ws, hl.wg⟩
    refine WT.le (own2 := [(i3, .cells false [.int .i64 c.node, .int .i64 c.pack, .int .i64 c.r0, .int .i64 c.r1, .int .i64 c.r2, .int .i64 c.r3, .pointer none])] :: lrB p { r with se := es1, sm := mset r.sm c (.bool true) } :: own) (OwnLe.cons _ (lrB_own' p { r with se := es1, sm := mset r.sm c (.bool true) } own)) ?_
    refine WT.call1F 1 Tryz.func136 zr zr zr zr zr zr zr (fun _ => rfl) (ltry_spec F hl1 hf (hI.pre_ hc hin) hm (by show (s.seen ++ [c]).length ≤ _; rw [List.length_append, List.length_singleton]; omega) hNs) (fun F4 v B4 hF4 hv => ?_)
    obtain ⟨r', rfl, hl4⟩ := hv
    refine WT.le (OwnLe.skip _ (OwnLe.refl _)) ?_
    refine WT.nil ?_
    refine ⟨_, [_], rfl, zsb, _, rfl, r', rfl, ?_⟩
    unfold firstS
    rw [if_neg hin]
    exact hl4

theorem cand_inc {c : Cand} {j r : Nat} {t : Value} (h : c.ranks[j]? = some r) : ([.int .i64 c.node, .int .i64 c.pack, .int .i64 c.r0, .int .i64 c.r1, .int .i64 c.r2, .int .i64 c.r3, t] : List Value).set (0 + 2 + j * 1) (.int .i64 ((r + 1 : Nat) : Int)) = candV (c.inc j) t := by
  match j, h with
  | 0, h => simp [Cand.ranks] at h; subst h; rfl
  | 1, h => simp [Cand.ranks] at h; subst h; rfl
  | 2, h => simp [Cand.ranks] at h; subst h; rfl
  | 3, h => simp [Cand.ranks] at h; subst h; rfl
  | _ + 4, h => simp [Cand.ranks] at h

/-! ### take -/
structure TakeS where
  r : LR
  s : Lst

theorem nodeTk_spec (F : Frz) {p : LP} {Ns : List Node} {r : LR} {s : Lst} {c : Cand} {T : Tree} {tp : Nat} {q : List (Cand × Tree)} {done : List Cand} (hl : LOk p Ns F r { s with q := q }) (hf : (foOf Ns).Good) (hI : Inv (foOf Ns) p.most { s with q := (c, T) :: q } done [] []) (hb : BaseIn (foOf Ns) s) (hmin : ∀ y ∈ q, tle T y.2) (hsm : T.pre.length ≤ 5000) (hsh : Sh F tp T)
    (hm : p.most ≤ 1000) (hseen : s.seen.length + 4 < 800000000000) (hNs : Ns.length ≤ 1000000) :
    Abs.Spec CC 102 [.pointer (some ⟨p.li, 0, none⟩), .agg ⟨candV c (.pointer (some ⟨tp, 0, none⟩))⟩] F [lrB p r] fun F' v o => ∃ B', o = [B'] ∧ ∃ r' s', B' = lrB p r' ∧ LOk p Ns F' r' s' ∧ Inv (foOf Ns) p.most s' (c :: done) [] [] ∧ BaseIn (foOf Ns) s' ∧
      (((s.lists c.node).length = p.most ∧ s'.lists = s.lists ∧ s'.seen = s.seen) ∨ ((s.lists c.node).length < p.most ∧ s'.lists = updL s.lists c.node T ∧ s'.seen.length ≤ s.seen.length + 4)) := by
  have hnl := hl.nodes.len
  have hcq := hI.qok (c, T) (List.mem_cons_self ..)
  have hok : CandOk (foOf Ns) p.most c := hI.ok c hcq.1
  obtain ⟨pk, hpk⟩ := hok.pack
  have hcn : c.node < Ns.length := hok.node
  obtain ⟨x, hx⟩ : ∃ x, Ns[c.node]? = some x := ⟨_, List.getElem?_eq_getElem hcn⟩
  have hpx : x.packs[c.pack]? = some pk := by
    unfold packAt foOf at hpk
    simpa [hx] using hpk
  have hkid := hf.kids c.node hok.node pk (List.mem_of_getElem? hpk)
  obtain ⟨ps, hps⟩ : ∃ ps, r.pss[c.node]? = some ps := ⟨_, List.getElem?_eq_getElem (by have := hl.rlen; omega)⟩
  obtain ⟨va, vn, vc, VB, b1, b2, hvk, hbs, hVB, hput⟩ := hl.rows.split hps
  have htr : ShL F ps (s.lists c.node) := hl.trees c.node ps hps
  have hvn := hVB.len
  have htrl := htr.len
  have hlen : (s.lists c.node).length ≤ p.most := hI.len c.node
  unfold candV
  refine Abs.Spec.fn (n := 101) Tryz.func102 rfl rfl fun own => ?_
  refine AW.seq (AW.reg ?_)
  refine WT.boxT zr zr zr zr zr zr (fun i3 hi3 => ?_)
  refine WT.le (OwnLe.cons _ (lrB_own p r own)) ?_
  refine zA ?_; refine AW.draw (ps := []) zr zr ?_; refine zA ?_; refine zl hT 1 zr zr zr zr zr zr me zr ?_; refine zA ?_; refine zl hT 0 zr zr zr zr zr zr me zr ?_
  refine WT.idxA (j := c.node) (s := 1) hT zr zr zr zr zr zr zr zr zr zo ?_
  refine WT.loadAt hT 2 zr zr zr zr zr zr (List.mem_cons_self ..) rfl rfl (v := .slice va vn vc) (by rw [Nat.zero_add, Nat.mul_one]; exact hvk) ?_
  refine zA ?_; refine And.intro trivial ?_; refine zA ?_; refine zl hT 1 zr zr zr zr zr zr me zr ?_; refine zA ?_
  refine AW.cond rfl (fun hc => ?_) (fun hc => ?_)
  · have hc : vn = p.most := by simp at hc; omega
    refine AW.le (OwnLe.trans (lrB_own' p r own) (OwnLe.skip _ (OwnLe.refl _))) ?_
    refine AW.ret ⟨_, [_], rfl, zsb, _, rfl, r, { s with q := q }, rfl, hl, hI.drop (by rw [htrl, ← hvn]; exact hc), hb, .inl ⟨by rw [htrl, ← hvn]; exact hc, rfl, rfl⟩⟩
  · have hc : vn < p.most := by simp at hc; omega
    have hTk := hI.take hf hb hmin (by rw [htrl, ← hvn]; exact hc) hsm
    have hvL : (s.lists c.node).length = vn := by rw [htrl, ← hvn]
    refine zA ?_
    rw [hbs]
    refine AW.le (OwnLe.cons _ (OwnLe.cons _ (OwnLe.cons _ (own_wsplit b1 VB b2 _)))) ?_
    refine AW.draw (ps := [(3, 16), (3, 17), (5, 16), (5, 17), (9, 16), (11, 16), (13, 16)]) rfl rfl ?_
    refine zA ?_; refine zl hT 1 zr zr zr zr zr zr me zr ?_; refine zA ?_; refine zl hT 0 zr zr zr zr zr zr me zr ?_; refine zA ?_; refine zl hT 1 zr zr zr zr zr zr me zr ?_; refine zA ?_; refine zl hT 0 zr zr zr zr zr zr me zr ?_
    refine WT.idxA (j := c.node) (s := 1) hT zr zr zr zr zr zr zr zr zr zo ?_
    refine WT.loadAt hT 2 zr zr zr zr zr zr (List.mem_cons_self ..) rfl rfl (v := .slice va vn vc) (by rw [Nat.zero_add, Nat.mul_one]; exact hvk) ?_
    refine zA ?_; refine zl hT 0 zr zr zr zr zr zr me zr ?_
    refine WT.buildT hT zr zr zr zr zr zr zr zr zr zr zr zr zr zr (fun i9 hi9 => ?_)
    refine WT.appendT (ys := [tp]) hT 5 hVB rfl (fun _ => rfl) zr zr zr zr zr zr zr zr zr zr zr (fun h0 s0 => news_own hT s0 0 zr zr zr zr) (Cells.single (R := tPtr) (x := tp) rfl) rfl (by decide) zom (fun a3 c3 B3 hB3 => ?_)
    skip
    refine WT.idxA (j := c.node) (s := 1) hT zr zr zr zr zr zr zr zr zr zo ?_
    refine WT.storeAt hT 3 0 zr zr zr zr zr zr zr zr zr zr (by have := hl.rows.len; have := hl.rlen; omega) rfl rfl ?_
    rw [show 0 + c.node * 1 = c.node by omega]
    refine WT.nil ?_
    refine ⟨zrA, ?_⟩
    refine zA ?_; refine zl hT 1 zr zr zr zr zr zr me zr ?_; refine zA ?_
    refine WT.allocT hT zr zr zr zr zr zr (fun i5 hi5 => ?_)
    refine zs hT 0 0 zr zr zr zr zr zr zr zr zr zr zr zr ?_; refine zA ?_; refine AW.draw (ps := []) zr zr ?_; refine zA ?_; refine zl hT 3 zr zr zr zr zr zr me zr ?_; refine zl hT 0 zr zr zr zr zr zr me zr ?_
    obtain ⟨xa, xn, xc, WB, W1, W2, hlk, hwbs, hWB, _, ws', hdel, hwg'⟩ := hl.ws.slot hl.wn (c.node, vn)
    refine WT.lookupT keyW (key := (c.node, vn)) hT 8 hl.we zr zr zr zr zr zr zr me zr zr zr ?_
    rw [hlk]
    refine zA ?_; refine And.intro trivial ?_; refine AW.seq ?_; refine AW.draw (ps := []) zr zr ?_; refine zA ?_; refine zl hT 3 zr zr zr zr zr zr me zr ?_; refine zl hT 0 zr zr zr zr zr zr me zr ?_
    refine WT.deleteE keyW (key := (c.node, vn)) hT 8 0 hl.we zr zr zr zr zr zr zr zr zr (fun _ => rfl) (fun _ => rfl) (fun es1 hes1 => ?_)
    refine WT.nil ?_; refine And.intro trivial ?_; refine zA ?_
    have hWL : s.waits (c.node, (s.lists c.node).length) = getW r.ws (c.node, vn) := by rw [hvL]; exact hl.wg _
    have hwf := hI.w_few (c.node, vn)
    rw [show ({ s with q := (c, T) :: q } : Lst).waits (c.node, vn) = getW r.ws (c.node, vn) from hl.wg _] at hwf
    have hwf : (getW r.ws (c.node, vn)).length ≤ s.seen.length := hwf
    have hxn := hWB.len
    obtain ⟨kI, kTop, kW, kInc, kM1, kM2⟩ := hTk
    rw [hWL] at kI kW
    have hl1 : LOk p Ns F ⟨r.qa, r.qn, r.qc, r.qB, r.Q, r.vs.set c.node (.slice a3 (vn + 1) c3), b1 ++ (B3 ++ b2), r.pss.set c.node (ps ++ [tp]), r.se, r.sm, es1, mdel r.wm (c.node, vn), W1 ++ W2, ws'⟩ (tookS s c T q) :=
      ⟨hl.nodes, hl.q, hl.qp, hl.qh, hput a3 (vn + 1) c3 B3 _ hB3, by rw [List.length_set]; exact hl.rlen, fun v us hv => by
        show ShL F us (updL s.lists c.node T v)
        have hv : (r.pss.set c.node (ps ++ [tp]))[v]? = some us := hv
        by_cases e : v = c.node
        · subst e
          rw [List.getElem?_set_self (List.getElem?_eq_some_iff.1 hps).1] at hv
          cases hv
          rw [updL_same]
          exact ShL.app htr (.cons hsh .nil)
        · rw [List.getElem?_set_ne (fun e2 => e e2.symm)] at hv
          rw [updL_ne _ _ e]
          exact hl.trees v us hv, hl.se, hl.sl, hes1, nodup_mdel hl.wn, hdel, fun w => by
        show (if w = (c.node, (s.lists c.node).length) then [] else s.waits w) = getW ws' w
        rw [hwg' w, hvL]
        split
        · rfl
        · exact hl.wg w⟩
    refine AW.range (S := TakeS) (fun _ => []) (fun u => [(i3, .cells false [.int .i64 c.node, .int .i64 c.pack, .int .i64 c.r0, .int .i64 c.r1, .int .i64 c.r2, .int .i64 c.r3, .pointer (some ⟨tp, 0, none⟩)])] :: lrB p u.r :: WB :: own)
      (fun j u G => LOk p Ns G u.r u.s ∧ Inv (foOf Ns) p.most u.s (c :: done) ((getW r.ws (c.node, vn)).drop j) [c] ∧ u.s.lists = (tookS s c T q).lists ∧ u.s.seen = s.seen) xn ⟨_, _⟩
      zr zr zr zr zr zr zr zr zr zo rfl rfl (fun _ => rfl) (fun _ => rfl) (SubK.of_map rfl) ?_ ⟨hl1, by rw [List.drop_zero]; exact kI, rfl, rfl⟩ ?_ ?_
    · refine OwnLe.trans (OwnLe.cons _ (lrB_own' p _ (WB :: own))) ?_
      refine OwnLe.trans (OwnLe.cons _ (OwnLe.cons _ (OwnLe.cons _ (own_wjoin b1 B3 b2 _)))) ?_
      rw [hwbs]
      exact OwnLe.skip _ (OwnLe.skip _ (OwnLe.cons _ (OwnLe.cons _ (OwnLe.cons _ (OwnLe.cons _ (OwnLe.cons _ (OwnLe.cons _ (OwnLe.cons _ (own_wsplit W1 WB W2 own)))))))))
    · intro j u F1 hF1 hj hP
      obtain ⟨ul, uI, uL, uS⟩ := hP
      obtain ⟨d, hd⟩ : ∃ d, (getW r.ws (c.node, vn))[j]? = some d := ⟨_, List.getElem?_eq_getElem zo⟩
      have hWB1 : GB tCN F1 xa xn xc WB (getW r.ws (c.node, vn)) := (bldC hWB).gb
      have hdrop : (getW r.ws (c.node, vn)).drop j = d :: (getW r.ws (c.node, vn)).drop (j + 1) := by
        obtain ⟨h1, h2⟩ := List.getElem?_eq_some_iff.1 hd
        rw [List.drop_eq_getElem_cons h1, h2]
      rw [hdrop] at uI
      refine zA ?_
      refine WT.gidx hT hWB1 zr zr zr zr zr zr zr zr zr hj (fun b7 hb7 => ?_)
      refine WT.gldS hT 2 hWB1 hb7 hd zr zr zr zr zr zr (fun z hz => hz) zr zr zr (fun l hl7 => ?_)
      obtain rfl : l = candV d (.pointer none) := hl7
      unfold candV
      skip
      refine WT.allocT hT zr zr zr zr zr zr (fun i8 hi8 => ?_)
      refine zs hT 0 0 zr zr zr zr zr zr zr zr zr zr zr zr ?_; refine zA ?_; refine zl hT 0 zr zr zr zr zr zr me zr ?_
      refine WT.call1F 2 Tryz.func136 zr zr zr zr zr zr zr (fun _ => rfl) (ltry_spec F1 ul hf uI hm (by rw [uS]; omega) hNs) (fun F4 v B4 hF4 hv => ?_)
      obtain ⟨r', rfl, hl4⟩ := hv
      refine WT.nil ?_
      have htl := try_lists (foOf Ns) u.s d
      refine ⟨⟨r', tryS (foOf Ns) u.s d⟩, SubK.of_map rfl, OwnLe.skip _ (OwnLe.refl _), hl4, uI.try_ hf (fun U hU v hv x hx => ?_), htl.1.trans uL, htl.2.trans uS⟩
      rw [uL] at hU hx
      exact .inl (wle_wlt (kTop v hv x hx) (kW d (List.mem_of_getElem? hd) U hU))
    · intro u F1 hF1 hP
      obtain ⟨ul, uI, uL, uS⟩ := hP
      rw [List.drop_of_length_le zo] at uI
      have ul1 := ul.nodes
      have hlens : u.r.qn = u.r.qn := rfl
      refine AW.seq ?_; refine AW.draw (ps := []) zr zr ?_; refine zA ?_; refine zl hT 1 zr zr zr zr zr zr me zr ?_; refine zA ?_; refine zl hT 0 zr zr zr zr zr zr me zr ?_
      refine WT.le (OwnLe.cons _ (lrB_own p u.r (WB :: own))) ?_
      skip
      refine WT.idxL hT ul1 zr zr zr zr zr zr zr zr zr zo (fun z hz b7 off7 ro7 cs7 lx7 hb7 hp7 hrel7 => ?_)
      rw [hx] at hz; cases hz
      obtain ⟨pa, pn, pc, rfl, hpa⟩ := hrel7
      have hpal := hpa.len
      refine zA ?_; refine zi hT (by assumption) (by assumption) zr zr zr zr zr zr ?_; refine zA ?_; refine zl hT 0 zr zr zr zr zr zr me zr ?_
      refine WT.idxL hT hpa zr zr zr zr zr zr zr zr zr (by have := (List.getElem?_eq_some_iff.1 hpx).1; omega) (fun z hz b8 off8 ro8 cs8 lx8 hb8 hp8 hrel8 => ?_)
      rw [hpx] at hz; cases hz
      obtain ⟨ka, kn, kc, rfl, hka, hkl⟩ := hrel8
      have hkal := hka.len
      clear hb7 hp7
      refine zA ?_; refine zi hT (by assumption) (by assumption) zr zr zr zr zr zr ?_; refine zA ?_; refine And.intro trivial ?_
      refine AW.range (S := TakeS) (fun _ => []) (fun z => [(i3, .cells false [.int .i64 c.node, .int .i64 c.pack, .int .i64 c.r0, .int .i64 c.r1, .int .i64 c.r2, .int .i64 c.r3, .pointer (some ⟨tp, 0, none⟩)])] :: lrB p z.r :: WB :: own)
        (fun j z G => LOk p Ns G z.r z.s ∧ Inv (foOf Ns) p.most z.s (c :: done) [] [c] ∧ z.s.lists = (tookS s c T q).lists ∧ (∀ d ∈ s.seen, d ∈ z.s.seen) ∧ z.s.seen.length ≤ s.seen.length + j ∧ ∀ i, i < j → c.inc i ∈ z.s.seen) kn ⟨u.r, u.s⟩
        zr zr zr zr zr zr zr zr zr zo rfl rfl (fun _ => rfl) (fun _ => rfl) (SubK.of_map rfl) (OwnLe.cons _ (lrB_own' p u.r (WB :: own))) ⟨ul, uI, uL, fun d hd => by rw [uS]; exact hd, by rw [uS]; exact Nat.le_refl _, fun i hi => by omega⟩ ?_ ?_
      · intro j z F2 hF2 hj hQ
        obtain ⟨yl, yI, yL, yS, yn, yi⟩ := hQ
        have hj4 : j < 4 := by omega
        obtain ⟨rj, hrj⟩ : ∃ rj, c.ranks[j]? = some rj := ⟨_, List.getElem?_eq_getElem (by show j < 4; exact hj4)⟩
        have hrjm := hok.rank rj (List.mem_of_getElem? hrj)
        obtain ⟨hci, hcT⟩ := kInc pk hpk j zo
        refine zA ?_; refine zl hT 0 zr zr zr zr zr zr me zr ?_
        refine WT.allocT hT zr zr zr zr zr zr (fun i10 hi10 => ?_)
        refine zs hT 0 0 zr zr zr zr zr zr zr zr zr zr zr zr ?_; refine zA ?_
        refine WT.idxArr (j := j) (s := 1) (len := 4) hT zr zr zr zr zr zr zr zr zr hj4 ?_
        refine WT.loadAt hT 0 zr zr zr zr zr zr (List.mem_cons_self ..) rfl rfl (cand_rank hrj) ?_
        refine WT.add1 zr zr zr zr zr zr zo ?_; refine zA ?_
        refine WT.idxArr (j := j) (s := 1) (len := 4) hT zr zr zr zr zr zr zr zr zr hj4 ?_
        refine WT.storeAt hT 0 0 zr zr zr zr zr zr zr zr zr zr (by show 0 + 2 + j * 1 < 7; omega) rfl rfl ?_
        rw [cand_inc hrj]
        unfold candV
        refine zA ?_; refine zl hT 0 zr zr zr zr zr zr me zr ?_
        refine WT.call1F 2 Tryz.func100 zr zr zr zr zr zr zr (fun _ => rfl) (lfirst_spec F2 yl hf yI hci (fun U hU v hv x hx => by
          rw [yL] at hU hx
          exact .inl (wle_wlt (kTop v hv x hx) (hcT U hU))) hm zo hNs (.pointer (some ⟨tp, 0, none⟩)) rfl) (fun F4 v B4 hF4 hv => ?_)
        obtain ⟨r', rfl, hl4⟩ := hv
        refine WT.nil ?_
        obtain ⟨f1, f2, f3, f4⟩ := first_lists (foOf Ns) z.s (c.inc j)
        refine ⟨⟨r', firstS (foOf Ns) z.s (c.inc j)⟩, SubK.of_map rfl, OwnLe.skip _ (OwnLe.refl _), hl4, yI.first_ hf hci (fun U hU v hv x hx => ?_), f1.trans yL, fun d hd => f2 d (yS d hd), by show (firstS (foOf Ns) z.s (c.inc j)).seen.length ≤ s.seen.length + (j + 1); omega, fun i hi => ?_⟩
        · rw [yL] at hU hx
          exact .inl (wle_wlt (kTop v hv x hx) (hcT U hU))
        · rcases Nat.lt_or_ge i j with h1 | h1
          · exact f2 _ (yi i h1)
          · obtain rfl : i = j := by omega
            exact f3
      · intro z F2 hF2 hQ
        obtain ⟨yl, yI, yL, yS, yn, yi⟩ := hQ
        refine ⟨_, [_], rfl, List.Sublist.cons _ (List.Sublist.cons_cons _ (List.Sublist.cons _ (List.Sublist.refl _))), _, rfl, z.r, z.s, rfl, yl, yI.close (T := T) (by rw [yL]; exact kM1) (by rw [yL]; exact kM2) (fun p' hp' i hi => ?_), fun v hv hl' a ha => yS _ (hb v hv hl' a ha), .inr ⟨by rw [hvL]; exact hc, yL, by omega⟩⟩
        rw [hpk] at hp'; cases hp'
        exact yi i zo

/-! ### trees, all of them one's own -/
def tTC : Ty (List Value) where
  size := 3
  rel := fun _ l x => l = x ∧ x.length = 3 ∧ x.all Go.Abs.one = true
  len := fun _ _ _ h => by rw [h.1]; exact h.2.1
  one := fun _ _ _ h => by rw [h.1]; exact h.2.2
  mono := fun _ _ _ _ _ h => h

def E0 : Frz := fun _ => none

theorem cellsT {F G : Frz} {cs : List Value} {ps : List (List Value)} (h : Cells tTC F cs ps) : Cells tTC G cs ps := by
  induction h with
  | nil => exact .nil
  | cons h _ ih => exact .cons h ih

theorem bldT {F G : Frz} {a : Option Addr} {n c : Nat} {B : List (Nat × Blk)} {ps : List (List Value)} (h : Bld tTC F a n c B ps) : Bld tTC G a n c B ps :=
  ⟨h.len, h.at_.imp id fun ⟨i, cs, h1, h2, h3, h4, h5⟩ => ⟨i, cs, h1, h2, h3, cellsT h4, h5⟩⟩

mutual
inductive TOwn : List Value → List (Nat × Blk) → Tree → Prop
  | mk {r : Int} {t : Nat} {ks : List Tree} {a : Option Addr} {n c : Nat} {B bs : List (Nat × Blk)} {css : List (List Value)} : Bld tTC E0 a n c B css → TOwnL css bs ks → ks.length ≤ 1000000 → TOwn [.int .i64 r, .int .i64 t, .slice a n c] (B ++ bs) (.mk r t ks)
inductive TOwnL : List (List Value) → List (Nat × Blk) → List Tree → Prop
  | nil : TOwnL [] [] []
  | cons {cs : List Value} {B : List (Nat × Blk)} {t : Tree} {css : List (List Value)} {bs : List (Nat × Blk)} {ts : List Tree} : TOwn cs B t → TOwnL css bs ts → TOwnL (cs :: css) (B ++ bs) (t :: ts)
end

theorem TOwn.shape {cs : List Value} {B : List (Nat × Blk)} {t : Tree} (h : TOwn cs B t) : cs.length = 3 ∧ cs.all Go.Abs.one = true := by
  cases h; exact ⟨rfl, rfl⟩

theorem TOwnL.len : ∀ {css : List (List Value)} {bs : List (Nat × Blk)} {ts : List Tree}, TOwnL css bs ts → css.length = ts.length
  | _, _, _, .nil => rfl
  | _, _, _, .cons _ h => by simp [TOwnL.len h]

theorem TOwnL.snoc {cs : List Value} {B : List (Nat × Blk)} {t : Tree} (h : TOwn cs B t) : ∀ {css : List (List Value)} {bs : List (Nat × Blk)} {ts : List Tree}, TOwnL css bs ts → TOwnL (css ++ [cs]) (bs ++ B) (ts ++ [t])
  | _, _, _, .nil => by simpa using TOwnL.cons h .nil
  | _, _, _, .cons h1 h2 => by
    rw [List.append_assoc]
    exact .cons h1 (TOwnL.snoc h h2)

mutual
theorem TOwn.frozen {G : Frz} : ∀ {t : Tree} {cs : List Value} {B : List (Nat × Blk)}, TOwn cs B t → (∀ i b, (i, b) ∈ B → G i = some b) → tTree.rel G cs t
  | .mk _ _ ks, _, _, .mk hb hL hk, hB => tTree_mk (TOwnL.frozen hb hL (fun i b hm => hB i b (List.mem_append_left _ hm)) (fun i b hm => hB i b (List.mem_append_right _ hm))) hk
theorem TOwnL.cells {G : Frz} : ∀ {ts : List Tree} {css : List (List Value)} {bs : List (Nat × Blk)} {cs : List Value}, Cells tTC E0 cs css → TOwnL css bs ts → (∀ i b, (i, b) ∈ bs → G i = some b) → Cells tTree G cs ts
  | [], _, _, _, hc, .nil, _ => by cases hc; exact .nil
  | t :: ts, _, _, _, hc, .cons h1 h2, hB => by
    cases hc with
    | cons g1 g2 =>
      obtain ⟨rfl, _⟩ := g1
      exact .cons (TOwn.frozen h1 fun i b hm => hB i b (List.mem_append_left _ hm)) (TOwnL.cells g2 h2 fun i b hm => hB i b (List.mem_append_right _ hm))
theorem TOwnL.frozen {G : Frz} : ∀ {ts : List Tree} {css : List (List Value)} {bs : List (Nat × Blk)} {a : Option Addr} {n c : Nat} {B : List (Nat × Blk)}, Bld tTC E0 a n c B css → TOwnL css bs ts → (∀ i b, (i, b) ∈ B → G i = some b) → (∀ i b, (i, b) ∈ bs → G i = some b) → Arr tTree G a n c ts
  | ts, css, bs, a, n, c, B, hb, hL, hB, hB2 => by
    have hl := hb.len
    have hl2 := hL.len
    have : Bld tTree G a n c B ts := ⟨by omega, hb.at_.imp (fun ⟨h1, h2, h3, h4⟩ => ⟨List.eq_nil_of_length_eq_zero (by rw [← hl2, h1]; rfl), h2, h3, h4⟩) fun ⟨i, cs, h1, h2, h3, h4, h5⟩ => ⟨i, cs, h1, h2, h3, TOwnL.cells h4 hL hB2, by decide⟩⟩
    exact this.frozen (Frz.le.refl G) hB
end

theorem leafOwn_spec (F : Frz) (t : Nat) : Abs.Spec CC 83 [.int .i64 t] F [] fun F' v o => o = [] ∧ v = .agg ⟨[.int .i64 (-1), .int .i64 t, .slice none 0 0]⟩ := by
  refine Abs.Spec.fn (n := 5) Tryz.func83 rfl rfl fun own => ?_
  refine AW.seq (AW.reg ?_)
  refine WT.allocT hT zr zr zr zr zr zr (fun i2 hi2 => ?_)
  refine zA ?_; refine zs hT 0 0 zr zr zr zr zr zr zr zr zr zr zr zr ?_; refine WT.nil ?_
  exact AW.ret ⟨_, [], ⟨_, _, ⟨_, rfl, fun G h0 s0 => loadA_cells (s0.has (p := 0) rfl (List.mem_cons_self ..)) (readT_ok hT rfl)⟩, rfl, rfl⟩, zsb, rfl, rfl⟩

/-! ### plain -/
inductive Plain : Tree → Prop
  | leaf {t : Nat} : Plain (.mk (-1) t [])
  | node {r : Nat} {ks : List Tree} : (∀ k ∈ ks, Plain k) → Plain (.mk r 0 ks)

mutual
theorem NT.plain {f : Fo} : ∀ {T : Tree} {v : Nat}, NT f v T → Plain T
  | .mk _ _ _, _, .leaf _ _ => .leaf
  | .mk _ _ _, _, .node _ _ _ h => .node (NTs.plain h)
theorem NTs.plain {f : Fo} : ∀ {ts : List Tree} {ks : List Nat}, NTs f ks ts → ∀ t ∈ ts, Plain t
  | [], _, _, t, h => by cases h
  | t0 :: ts, _, .cons h1 h2, t, h => by
    rcases List.mem_cons.1 h with e | h
    · rw [e]; exact NT.plain h1
    · exact NTs.plain h2 t h
end

theorem perm_cpT {α : Type} (x a b c l : List α) : (x ++ (a ++ (b ++ (c ++ l)))).Perm (a ++ (b ++ (c ++ (x ++ l)))) := by
  have h := (List.perm_append_comm (l₁ := x) (l₂ := a ++ (b ++ c))).append_right l
  simpa [List.append_assoc] using h

structure PlS where
  a : Option Addr
  c : Nat
  B : List (Nat × Blk)
  css : List (List Value)
  bs : List (Nat × Blk)

theorem plain_spec : ∀ (N : Nat) (T : Tree), T.pre.length < N → Plain T → T.pre.length ≤ 100000 → ∀ (F : Frz) (p : Nat), Sh F p T →
    Abs.Spec CC 103 [.pointer (some ⟨p, 0, none⟩)] F [] fun F' v o => ∃ B', o = [B'] ∧ ∃ cs, v = .agg ⟨cs⟩ ∧ TOwn cs B' T
  | 0, _, h, _, _, _, _, _ => by omega
  | N + 1, T, hN, hp, hT1, F, p, hs => by
    cases hp with
    | @leaf t =>
      cases hs with
      | @mk _ _ _ _ a n c ps g1 g2 g3 =>
      refine Abs.Spec.fn (n := 39) Tryz.func103 rfl rfl fun own => ?_
      refine AW.seq (AW.reg ?_)
      refine WT.allocT hT zr zr zr zr zr zr (fun i2 hi2 => ?_)
      refine zA ?_; refine zf hT (by assumption) zr zr zr zr zr zr ?_; refine zA ?_
      refine AW.cond rfl (fun _ => ?_) (fun h => (by cases h))
      refine zA ?_; refine zf hT (by assumption) zr zr zr zr zr zr ?_
      refine WT.callV Tryz.func83 zr zr zr zr zr zr (leafOwn_spec _ t) (fun v hv => ?_)
      subst hv
      refine zs hT 0 0 zr zr zr zr zr zr zr zr zr zr zr zr ?_; refine WT.nil ?_
      refine AW.le (own2 := [] :: [(i2, .cells false [.int .i64 (-1), .int .i64 t, .slice none 0 0])] :: own) (OwnLe.flat (List.Perm.refl _)) ?_
      exact AW.ret ⟨_, [[]], ⟨_, _, ⟨_, rfl, fun G h0 s0 => loadA_cells (s0.has (p := 1) rfl (List.mem_cons_self ..)) (readT_ok hT rfl)⟩, rfl, rfl⟩, List.Sublist.cons_cons _ (List.Sublist.cons _ (List.Sublist.refl _)), _, rfl, _, rfl, TOwn.mk (B := []) (bs := []) (Bld.nil_ _ _) .nil (by simp)⟩
    | @node r ks hks =>
      cases hs with
      | @mk _ _ _ _ a n c ps g1 g2 g3 =>
      have hal := g2.len
      have hsl := g3.len
      have hkl := preL_ge ks
      have hpe : (Tree.mk (r : Int) 0 ks).pre.length = (preL ks).length + 1 := rfl
      refine Abs.Spec.fn (n := 39) Tryz.func103 rfl rfl fun own => ?_
      refine AW.seq (AW.reg ?_)
      refine WT.allocT hT zr zr zr zr zr zr (fun i2 hi2 => ?_)
      refine zA ?_; refine zf hT (by assumption) zr zr zr zr zr zr ?_; refine zA ?_
      refine AW.cond rfl (fun h => ?_) (fun _ => ?_)
      · exfalso; simp at h; omega
      refine zA ?_; refine zf hT (by assumption) zr zr zr zr zr zr ?_; refine zA ?_
      refine WT.allocT hT zr zr zr zr zr zr (fun i3 hi3 => ?_)
      refine zs hT 0 0 zr zr zr zr zr zr zr zr zr zr zr zr ?_; refine zA ?_; refine zf hT (by assumption) zr zr zr zr zr zr ?_; refine zA ?_
      refine AW.range (S := PlS) (fun _ => []) (fun s => s.B :: [(i3, .cells false [.int .i64 r, .int .i64 0, .slice s.a s.css.length s.c])] :: s.bs :: [(i2, .cells false [.int .i64 0, .int .i64 0, .slice none 0 0])] :: own)
        (fun j s G => Bld tTC E0 s.a s.css.length s.c s.B s.css ∧ TOwnL s.css s.bs (ks.take j)) n ⟨none, 0, [], [], []⟩
        zr zr zr zr zr zr zr zr zr zo rfl rfl (fun _ => rfl) (fun _ => rfl) (SubK.of_map rfl) (OwnLe.flat (List.Perm.refl _)) ⟨Bld.nil_ _ _, .nil⟩ ?_ ?_
      · intro j s F1 hF1 hj hP
        obtain ⟨hb, hL⟩ := hP
        have hLl := hL.len
        rw [List.length_take] at hLl
        have g2' := g2.mono hF1
        obtain ⟨k, hk⟩ : ∃ k, ks[j]? = some k := ⟨_, List.getElem?_eq_getElem zo⟩
        have hkm := List.mem_of_getElem? hk
        have hkp := preL_mem hkm
        refine zA ?_
        refine WT.idxL hT g2' zr zr zr zr zr zr zr zr zr zo (fun q hq b9 off9 ro9 cs9 lx9 hb9 hp9 hrel9 => ?_)
        obtain rfl : lx9 = _ := hrel9
        have hsq := (g3.at_ hq hk).mono hF1
        refine zi (fo := 0) hT (by assumption) (by assumption) zr zr zr zr zr zr ?_; refine zA ?_
        refine AW.draw (ps := [(1, 3), (1, 4)]) rfl rfl ?_
        refine zA ?_; refine zl hT 1 zr zr zr zr zr zr me zr ?_; refine zA ?_
        refine WT.callN Tryz.func103 zr zr zr zr zr zr (plain_spec N k zo (hks k hkm) zo F1 q hsq) (fun F2 v B2 hF2 hv => ?_)
        obtain ⟨cs, rfl, hcs⟩ := hv
        obtain ⟨hc3, hc1⟩ := hcs.shape
        obtain ⟨x1, x2, x3, rfl⟩ : ∃ x1 x2 x3, cs = [x1, x2, x3] := by
          match cs, hc3 with
          | [x1, x2, x3], _ => exact ⟨x1, x2, x3, rfl⟩
        skip
        refine WT.buildT hT zr zr zr zr zr zr zr zr zr zr zr zr zr zr (fun i9 hi9 => ?_)
        refine WT.appendT (R := tTC) (ys := [[x1, x2, x3]]) hT 2 (bldT hb) rfl (fun _ => rfl) zr zr zr zr zr zr zr zr zr zr zr (fun h0 s0 => news_own hT s0 0 zr zr zr zr) (Cells.single (R := tTC) ⟨rfl, rfl, hc1⟩) rfl (by decide) zom (fun a3 c3 B3 hB3 => ?_)
        refine zA ?_; refine zs hT 3 0 zr zr zr zr zr zr zr zr zr zr zr zr ?_; refine WT.nil ?_
        refine ⟨zrA, ?_⟩
        refine ⟨⟨a3, c3, B3, s.css ++ [[x1, x2, x3]], s.bs ++ B2⟩, SubK.of_map rfl, ?_, by show Bld tTC E0 a3 (s.css ++ [[x1, x2, x3]]).length c3 B3 _; rw [List.length_append]; exact bldT hB3, by rw [List.take_add_one, hk]; exact hL.snoc hcs⟩
        · show OwnLe (B3 :: [(i3, .cells false [.int .i64 r, .int .i64 0, .slice a3 (s.css ++ [[x1, x2, x3]]).length c3])] :: (s.bs ++ B2) :: _) _
          rw [List.length_append]
          refine OwnLe.skip _ (OwnLe.flat ?_)
          simp only [List.flatten_cons, List.append_assoc]
          exact perm_cpT _ _ _ _ _
      · intro s F1 hF1 hP
        obtain ⟨hb, hL⟩ := hP
        rw [List.take_of_length_le zo] at hL
        refine zA ?_; refine zl hT 1 zr zr zr zr zr zr me zr ?_; refine zs hT 3 0 zr zr zr zr zr zr zr zr zr zr zr zr ?_; refine WT.nil ?_
        refine AW.le (own2 := [(i2, .cells false [.int .i64 r, .int .i64 0, .slice s.a s.css.length s.c])] :: (s.B ++ s.bs) :: own) (OwnLe.trans (OwnLe.flat ?_) (OwnLe.cons _ (OwnLe.skip _ (OwnLe.refl _)))) ?_
        · have := List.perm_middle (a := (i2, Blk.cells false [.int .i64 r, .int .i64 0, .slice s.a s.css.length s.c])) (l₁ := s.B ++ s.bs) (l₂ := own.flatten)
          simpa [List.append_assoc] using this
        refine AW.ret ⟨_, [_], ⟨_, _, ⟨_, rfl, fun G h0 s0 => loadA_cells (s0.has (p := 0) rfl (List.mem_cons_self ..)) (readT_ok hT rfl)⟩, rfl, rfl⟩, List.Sublist.cons _ (List.Sublist.refl _), _, rfl, _, rfl, TOwn.mk hb hL zo⟩

/-- What a reading may answer: nothing, or a tree. -/
def ResOk (g : Gram) (w : List Nat) (F : Frz) (s : Sym) (i : Nat) (v : Value) : Prop :=
  v = .agg ⟨[.pointer none, .int .i64 (-1)]⟩ ∨ ∃ b ro cs t j, v = .agg ⟨[.pointer (some ⟨b, 0, none⟩), .int .i64 (j : Nat)]⟩ ∧ F b = some (.cells ro cs) ∧ tTree.rel F cs t ∧ TreeOf g w s t i j

theorem ResOk.mono {g : Gram} {w : List Nat} {F G : Frz} {s : Sym} {i : Nat} {v : Value} (h : ResOk g w F s i v) (hF : Frz.le F G) : ResOk g w G s i v := by
  rcases h with h | ⟨b, ro, cs, t, j, h1, h2, h3, h4⟩
  · exact .inl h
  · exact .inr ⟨b, ro, cs, t, j, h1, hF _ _ h2, tTree.mono _ _ _ _ hF h3, h4⟩

def MemoOk (g : Gram) (w : List Nat) (F : Frz) (es : Ents (Nat × Nat)) : Prop := ∀ n i v, Abs.look es (n, i) = some v → ResOk g w F ⟨false, n⟩ i v

theorem MemoOk.mono {g : Gram} {w : List Nat} {F G : Frz} {es : Ents (Nat × Nat)} (h : MemoOk g w F es) (hF : Frz.le F G) : MemoOk g w G es := fun n i v q => (h n i v q).mono hF

structure PA where
  p : Nat
  im : Nat
  a : Option Addr
  m : Nat
  c : Nat
  b : Option Addr
  k : Nat
  d : Nat

structure ParserAt (F : Frz) (x : PA) (g : Gram) (w : List Nat) : Prop where
  blk : ∃ ro, F x.p = some (.cells ro [.int .i64 g.terms, .int .i64 g.nons, .int .i64 g.start, .slice x.a x.m x.c, .slice x.b x.k x.d, .map (some x.im)])
  rules : Arr tRule F x.a x.m x.c g.rules
  word : Arr tNat F x.b x.k x.d w

theorem ParserAt.mono {F G : Frz} {x : PA} {g : Gram} {w : List Nat} (h : ParserAt F x g w) (hF : Frz.le F G) : ParserAt G x g w :=
  ⟨let ⟨ro, q⟩ := h.blk; ⟨ro, hF _ _ q⟩, h.rules.mono hF, h.word.mono hF⟩

def Memo (g : Gram) (w : List Nat) (x : PA) (F : Frz) (B : List (Nat × Blk)) : Prop := ∃ es, B = [(x.im, .map (entsV keyP es))] ∧ MemoOk g w F es

theorem Memo.mono {g : Gram} {w : List Nat} {x : PA} {F G : Frz} {B : List (Nat × Blk)} (h : Memo g w x F B) (hF : Frz.le F G) : Memo g w x G B := by
  obtain ⟨es, e, h⟩ := h; exact ⟨es, e, h.mono hF⟩

/-- Two ways meet: what is still known is told anew. -/
def meetQ {S : Type} (kn : S → Kno) (ow : S → Own) (P : S → Frz → Prop) (A : Ex → Kno → Frz → Own → Prop) : Ex → Kno → Frz → Own → Prop
  | .normal, k', F', own' => ∃ s, SubK (kn s) k' ∧ OwnLe (ow s) own' ∧ P s F'
  | x, k', F', own' => A x k' F' own'

theorem joinT {C : Ctx} {n : Nat} {k : Kno} {F : Frz} {own : Own} {A : Ex → Kno → Frz → Own → Prop} {S : Type} (kn : S → Kno) (ow : S → Own) (P : S → Frz → Prop) {a b : Code} (h1 : AW C n a k F own (meetQ kn ow P A))
    (h2 : ∀ s F', Frz.le F F' → P s F' → AW C n b (kn s) F' (ow s) A) : AW C n a k F own (thenQ (fun k' F' own' => AW C n b k' F' own' A) A) := by
  refine AW.mono h1 fun x k' F' own' hF hx => ?_
  cases x with
  | normal =>
    obtain ⟨s, q1, q2, q3⟩ := hx
    exact AW.weaken q1 (AW.le q2 (h2 s F' hF q3))
  | exit id => exact hx
  | ret => exact hx

theorem joinK {C : Ctx} {n : Nat} {k : Kno} {F : Frz} {own : Own} {A : Ex → Kno → Frz → Own → Prop} {S : Type} (chg : S → Kno) (ow : S → Own) (P : S → Frz → Prop) {a b : Code} (h1 : AW C n a k F own (joinQ chg k ow P A))
    (h2 : ∀ s F', Frz.le F F' → P s F' → AW C n b (chg s ++ k) F' (ow s) A) : AW C n a k F own (thenQ (fun k' F' own' => AW C n b k' F' own' A) A) :=
  joinT (fun s => chg s ++ k) ow P h1 h2

structure PI where
  ks : List Tree
  a : Option Addr
  c : Nat
  Bk : List (Nat × Blk)
  B : List (Nat × Blk)
  e : Int
  l : Nat

structure PO where
  q : Option Addr
  e : Int
  B : List (Nat × Blk)

/-! ### the lister's beginning -/

def initS (f : Fo) (j : Nat) : Lst := ⟨fun v => if v < j then (match f.leaf v with | some t => [.mk (-1) t []] | none => []) else [], [], fun _ => [], []⟩

theorem init_mem {f : Fo} {j v : Nat} {T : Tree} (h : T ∈ (initS f j).lists v) : v < j ∧ ∃ t, f.leaf v = some t ∧ T = .mk (-1) t [] := by
  unfold initS at h
  simp only at h
  split at h
  · rename_i hv
    split at h
    · rename_i t ht
      exact ⟨hv, t, ht, List.mem_singleton.1 h⟩
    · cases h
  · cases h

theorem init_none {f : Fo} {j v : Nat} (h : f.leaf v = none) : (initS f j).lists v = [] := by
  rw [List.eq_nil_iff_forall_not_mem]
  intro T hT
  obtain ⟨_, t, ht, _⟩ := init_mem hT
  rw [h] at ht; cases ht

theorem init_skip {f : Fo} {j : Nat} (h : f.leaf j = none) : initS f (j + 1) = initS f j := by
  unfold initS
  simp only [Lst.mk.injEq, and_true]
  funext v
  by_cases e : v = j
  · subst e
    rw [if_pos (Nat.lt_succ_self _), if_neg (Nat.lt_irrefl _), h]
  · by_cases h2 : v < j
    · rw [if_pos h2, if_pos zo]
    · rw [if_neg h2, if_neg zo]

theorem init_at {f : Fo} {j t : Nat} (h : f.leaf j = some t) : (initS f (j + 1)).lists j = [.mk (-1) t []] := by
  unfold initS
  simp only
  rw [if_pos (Nat.lt_succ_self _), h]

theorem init_ne {f : Fo} {j v : Nat} (h : v ≠ j) : (initS f (j + 1)).lists v = (initS f j).lists v := by
  unfold initS
  simp only
  by_cases h2 : v < j
  · rw [if_pos h2, if_pos zo]
  · rw [if_neg h2, if_neg zo]

theorem init_len (f : Fo) (j v : Nat) : ((initS f j).lists v).length ≤ 1 := by
  unfold initS
  simp only
  split
  · split <;> simp
  · simp

theorem init_inv (f : Fo) {most : Nat} (hm : 1 ≤ most) : Inv f most (initS f f.n) [] [] [] where
  ok := fun c hc => by cases hc
  snd := List.nodup_nil
  dsub := fun c hc => by cases hc
  psub := fun c hc => by cases hc
  dnd := List.nodup_nil
  pnd := List.nodup_nil
  qnd := List.nodup_nil
  wnd := fun _ => List.nodup_nil
  dq := fun c hc => by cases hc
  pq := fun c hc => by cases hc
  qw := fun c hc => by cases hc
  qok := fun c hc => by cases hc
  wok := fun w c hc => by cases hc
  cover := fun c hc => by cases hc
  next := fun c hc => by cases hc
  leafs := fun v t hv ht => by
    unfold initS
    simp only
    rw [if_pos hv, ht]
  from_ := fun v hv T hT => by rw [init_none hv] at hT; cases hT
  len := fun v => by have := init_len f f.n v; omega
  sorted := fun v => by
    have h := init_len f f.n v
    match (initS f f.n).lists v, h with
    | [], _ => exact .nil
    | [a], _ => exact List.pairwise_singleton _ _
    | _ :: _ :: _, h => simp at h
  ord := fun v hv x hx y hy => by cases hy
  valid := fun v T hT => by
    obtain ⟨h1, t, h2, rfl⟩ := init_mem hT
    exact .leaf h1 h2
  full := fun v hv hl => by rw [init_none hv] at hl; simp at hl; omega
  small := fun v T hT => by
    obtain ⟨h1, t, h2, rfl⟩ := init_mem hT
    show ([(-1 : Int)] ++ []).length ≤ 5000
    simp

/-! ### how many are listed -/
def tot (L : Nat → List Tree) (n : Nat) : Nat := ((List.range n).map fun v => (L v).length).sum

theorem tot_le {L : Nat → List Tree} {most : Nat} (h : ∀ v, (L v).length ≤ most) : ∀ n, tot L n ≤ n * most
  | 0 => by simp [tot]
  | n + 1 => by
    have ih := tot_le h n
    have := h n
    unfold tot at ih ⊢
    rw [List.range_succ, List.map_append, List.sum_append, Nat.add_mul]
    simp
    omega

theorem tot_upd (L : Nat → List Tree) {v : Nat} (T : Tree) : ∀ n, tot (updL L v T) n = tot L n + (if v < n then 1 else 0)
  | 0 => by simp [tot]
  | n + 1 => by
    have ih := tot_upd L (v := v) T n
    unfold tot at ih ⊢
    rw [List.range_succ, List.map_append, List.sum_append, List.map_append, List.sum_append, ih]
    simp only [List.map_cons, List.map_nil, List.sum_cons, List.sum_nil, Nat.add_zero]
    by_cases e : n = v
    · subst e
      rw [updL_same, List.length_append, if_neg (Nat.lt_irrefl _), if_pos (Nat.lt_succ_self _)]
      simp; omega
    · rw [updL_ne _ _ e]
      by_cases h : v < n
      · rw [if_pos h, if_pos zo]; omega
      · rw [if_neg h, if_neg zo]; omega

theorem rowsP_rep (F : Frz) : ∀ n, RowsP F (List.replicate n (.slice none 0 0)) [] (List.replicate n [])
  | 0 => .nil
  | n + 1 => by
    have := RowsP.cons (Bld.nil_ tPtr F) (rowsP_rep F n)
    simpa [List.replicate_succ] using this

/-- The packs of the first nodes. -/
def pks (Ns : List Node) (j : Nat) : Nat := ((Ns.take j).map fun x => x.packs.length).sum
theorem pks_succ {Ns : List Node} {j : Nat} {x : Node} (h : Ns[j]? = some x) : pks Ns (j + 1) = pks Ns j + x.packs.length := by
  unfold pks
  rw [List.take_add_one, h, List.map_append, List.sum_append]
  simp

theorem pks_mono {Ns : List Node} {j k : Nat} (h : j ≤ k) : pks Ns j ≤ pks Ns k := by
  induction k with
  | zero => obtain rfl : j = 0 := by omega
            exact Nat.le_refl _
  | succ k ih =>
    rcases Nat.lt_or_ge j (k + 1) with h2 | h2
    · refine Nat.le_trans (ih zo) ?_
      cases hx : Ns[k]? with
      | none =>
        unfold pks
        rw [List.take_add_one, hx]; simp
      | some x => rw [pks_succ hx]; omega
    · obtain rfl : j = k + 1 := by omega
      exact Nat.le_refl _

structure TRes (Ns : List Node) (root most : Nat) (L : List Tree) (c : Int) : Prop where
  firsts : Firsts (foOf Ns) root most L
  count : CountVal (fun d => nodeT Ns d root) c

theorem perm_turn3 {α : Type} (a b c : α) (l : List α) : (a :: b :: c :: l).Perm (c :: b :: a :: l) :=
  ((List.Perm.swap b a _).trans (List.Perm.cons b (List.Perm.swap c a l))).trans (List.Perm.swap c b _)

theorem perm_cpU {α : Type} (x a b l : List α) : (x ++ (a ++ (b ++ l))).Perm (a ++ (b ++ (x ++ l))) := by
  have h := (List.perm_append_comm (l₁ := x) (l₂ := a ++ b)).append_right l
  simpa [List.append_assoc] using h

structure PlT where
  a : Option Addr
  n : Nat
  c : Nat
  B : List (Nat × Blk)
  css : List (List Value)
  bs : List (Nat × Blk)

structure LsS where
  r : LR
  s : Lst
  done : List Cand

theorem ctrees_spec (F : Frz) {Ns : List Node} (hf : (foOf Ns).Good) (hok : FOk Ns) (hpr : Prod Ns) {na : Option Addr} {nn nc : Nat} (hN : Arr tNode F na nn nc Ns) (root : Nat) (hroot : root < Ns.length) (hrl : (foOf Ns).leaf root = none) (hlp : ∀ v, (foOf Ns).leaf v ≠ none → (foOf Ns).packs v = []) (hPS : pks Ns Ns.length ≤ 200000000000) {most : Nat} (hm1 : 1 ≤ most) (hm : most ≤ 100) :
    Abs.Spec CC 68 [.agg ⟨[.slice na nn nc, .int .i64 root]⟩, .int .i64 most] F [] fun F' v o => ∃ B', o = [B'] ∧ ∃ L c, TRes Ns root most L c ∧
      (((L.length = most ∨ (c ≠ -1 ∧ c ≤ L.length)) ∧ ∃ a n d B css bs, v = .tuple ⟨[.slice a n d, .bool true]⟩ ∧ B' = B ++ bs ∧ Bld tTC E0 a n d B css ∧ TOwnL css bs L) ∨
       (L.length < most ∧ (c = -1 ∨ (L.length : Int) < c) ∧ v = .tuple ⟨[.slice none 0 0, .bool false]⟩)) := by
  have hNl := hN.len
  have hfew := hok.few
  refine Abs.Spec.fn (n := 161) Tryz.func68 rfl rfl fun own => ?_
  refine AW.seq (AW.reg ?_)
  refine WT.boxT zr zr zr zr zr zr (fun i2 hi2 => ?_)
  refine zA ?_; refine zl hT 0 zr zr zr zr zr zr me zr ?_; refine zA ?_
  refine AW.cond rfl (fun h => ?_) (fun _ => ?_)
  · exfalso; simp at h; omega
  refine zA ?_
  refine AW.draw (ps := [(0, 5), (0, 6), (0, 7), (3, 6), (3, 7), (4, 6), (4, 7)]) rfl rfl ?_
  refine zl hT 0 zr zr zr zr zr zr me zr ?_; refine zA ?_; refine zl hT 0 zr zr zr zr zr zr me zr ?_; refine zA ?_
  refine WT.makeT (by_ := 24) hT zr zr zr zr zr zr zr zr zr zr zr zr zo (fun lo hlo => ?_)
  refine WT.makeMap zr zr zr zr (fun is his => ?_)
  refine WT.makeMap zr zr zr zr (fun iw hiw => ?_)
  refine zA ?_
  refine WT.boxT zr zr zr zr zr zr (fun li hli => ?_)
  refine zA ?_
  refine ⟨zrA, ?_⟩
  refine zA ?_; refine zl hT 4 zr zr zr zr zr zr me zr ?_; refine zA ?_
  have htr0 : ∀ (v : Nat) (ps : List Nat), (List.replicate nn ([] : List Nat))[v]? = some ps → ShL F ps ((initS (foOf Ns) 0).lists v) := fun v ps hv => by
    have e : (initS (foOf Ns) 0).lists v = [] := by unfold initS; simp
    rw [e]
    rw [List.getElem?_replicate] at hv
    split at hv
    · cases hv; exact .nil
    · cases hv
  have h0 : LOk (⟨li, na, nn, nc, root, most, lo, bif nn == 0 then 0 else 1, is, iw⟩ : LP) Ns F (⟨none, 0, 0, [], [], List.replicate nn (.slice none 0 0), [], List.replicate nn [], [], [], [], [], [], []⟩ : LR) (initS (foOf Ns) 0) :=
    ⟨hN, (Bld.nil_ _ _).gb, List.Perm.refl _, fun i h1 h2 => by simp at h2, rowsP_rep F nn, by simp, htr0, rfl, fun c => by simp [initS, Abs.look], rfl, List.nodup_nil, .nil, fun w => rfl⟩
  refine AW.range (S := LR) (fun _ => []) (fun r => lrB (⟨li, na, nn, nc, root, most, lo, bif nn == 0 then 0 else 1, is, iw⟩ : LP) r :: [(i2, .cells false [.slice na nn nc, .int .i64 root])] :: own)
    (fun j r G => LOk (⟨li, na, nn, nc, root, most, lo, bif nn == 0 then 0 else 1, is, iw⟩ : LP) Ns G r (initS (foOf Ns) j)) nn (⟨none, 0, 0, [], [], List.replicate nn (.slice none 0 0), [], List.replicate nn [], [], [], [], [], [], []⟩ : LR)
    zr zr zr zr zr zr zr zr zr zo rfl rfl (fun _ => rfl) (fun _ => rfl) (SubK.of_map rfl) (OwnLe.flat ?_) h0 ?_ ?_
  · simp only [lrB, lB, lrL, lCells, List.flatten_cons, List.cons_append, List.nil_append]
    exact List.Perm.cons _ (perm_turn3 _ _ _ _)
  · intro j r F1 hF1 hj hl
    obtain ⟨x, hx⟩ : ∃ x, Ns[j]? = some x := ⟨_, List.getElem?_eq_getElem zo⟩
    obtain ⟨ps, hps⟩ : ∃ ps, r.pss[j]? = some ps := ⟨_, List.getElem?_eq_getElem (by have := hl.rlen; show j < r.pss.length; rw [this]; exact hj)⟩
    obtain ⟨va, vn, vc, VB, b1, b2, hvk, hbs, hVB, hput⟩ := hl.rows.split hps
    have hvl := hl.rows.len
    have hrl2 : r.pss.length = nn := hl.rlen
    have hleaf : (foOf Ns).leaf j = if x.key.sym.term = true then some x.key.sym.n else none := by unfold foOf; simp only [hx]
    have hN1 := hl.nodes
    refine zA ?_
    refine WT.idxL hT hN1 zr zr zr zr zr zr zr zr zr zo (fun z hz b7 off7 ro7 cs7 lx7 hb7 hp7 hrel7 => ?_)
    rw [hx] at hz; cases hz
    obtain ⟨pa, pn, pc, rfl, hpa⟩ := hrel7
    refine zi (fo := 0) hT (by assumption) (by assumption) zr zr zr zr zr zr ?_
    refine WT.allocT hT zr zr zr zr zr zr (fun i8 hi8 => ?_)
    refine zA ?_; refine zs hT 0 0 zr zr zr zr zr zr zr zr zr zr zr zr ?_; refine zA ?_; refine zl hT 0 zr zr zr zr zr zr me zr ?_; refine WT.nil ?_
    refine AW.cond rfl (fun ht => ?_) (fun ht => ?_)
    · rw [if_pos ht] at hleaf
      rw [show lrB (⟨li, na, nn, nc, root, most, lo, bif nn == 0 then 0 else 1, is, iw⟩ : LP) r = lrB (⟨li, na, nn, nc, root, most, lo, bif nn == 0 then 0 else 1, is, iw⟩ : LP) { r with bs := b1 ++ (VB ++ b2) } by rw [← hbs]]
      refine AW.le (OwnLe.cons _ (OwnLe.trans (OwnLe.cons _ (OwnLe.cons _ (own_wsplit b1 VB b2 _))) (lrB_own (⟨li, na, nn, nc, root, most, lo, bif nn == 0 then 0 else 1, is, iw⟩ : LP) { r with bs := b1 ++ (VB ++ b2) } _))) ?_
      refine AW.draw (ps := [(3, 9), (3, 10)]) rfl rfl ?_
      refine zA ?_; refine zl hT 1 zr zr zr zr zr zr me zr ?_; refine zA ?_; refine zl hT 0 zr zr zr zr zr zr me zr ?_; refine zA ?_
      refine WT.boxT zr zr zr zr zr zr (fun i56 hi56 => ?_)
      refine WT.buildT hT zr zr zr zr zr zr zr zr zr zr zr zr zr zr (fun i57 hi57 => ?_)
      refine WT.idxA (j := j) (s := 1) hT zr zr zr zr zr zr zr zr zr hj ?_
      refine WT.storeAt hT 4 0 zr zr zr zr zr zr zr zr zr zr (by show 0 + j * 1 < r.vs.length; omega) rfl rfl ?_
      rw [show 0 + j * 1 = j by omega]
      refine WT.freezeAll 1 rfl rfl (fun F2 hF2 hB2 => ?_)
      refine WT.nil ?_
      refine ⟨zrA, ?_⟩
      have hl2 := hl.mono hF2
      have hlf : (foOf Ns).leaf j = some x.key.sym.n := hleaf
      have hsh : Sh F2 i56 (.mk (-1) x.key.sym.n []) := .mk (ps := []) (hB2 i56 _ (List.mem_cons_self ..)) (Arr.nil_ _ _) .nil
      have hb57 : Bld tPtr F1 (some ⟨i57, 0, none⟩) 1 1 [(i57, .cells false [.pointer (some ⟨i56, 0, none⟩)])] [i56] := ⟨rfl, .inr ⟨i57, _, rfl, rfl, rfl, Cells.single (R := tPtr) rfl, by decide⟩⟩
      skip
      refine ⟨{ r with vs := r.vs.set j (.slice (some ⟨i57, 0, none⟩) 1 1), bs := b1 ++ ([(i57, .cells false [.pointer (some ⟨i56, 0, none⟩)])] ++ b2), pss := r.pss.set j [i56] }, SubK.of_map rfl, ?_, ⟨hl2.nodes, hl2.q, hl2.qp, hl2.qh, (hput _ _ _ _ _ hb57).any, by rw [List.length_set]; exact hl2.rlen, fun v us hv => ?_, hl2.se, hl2.sl, hl2.we, hl2.wn, hl2.ws, hl2.wg⟩⟩
      · refine OwnLe.trans (OwnLe.trans (lrB_own' (⟨li, na, nn, nc, root, most, lo, bif nn == 0 then 0 else 1, is, iw⟩ : LP) _ _) (OwnLe.cons _ (OwnLe.cons _ (own_wjoin b1 _ b2 _)))) ?_
        refine OwnLe.trans (b := [(i57, .cells false [.pointer (some ⟨i56, 0, none⟩)])] :: ((li, .cells false [.slice na nn nc, .int .i64 root, .int .i64 most, .slice (some ⟨lo, 0, none⟩) nn (bif nn == 0 then 0 else 1), .map (some is), .map (some iw), .slice r.qa r.qn r.qc]) :: r.qB) :: [(lo, .cells false (r.vs.set j (.slice (some ⟨i57, 0, none⟩) 1 1)))] :: (b1 ++ b2) :: [(is, .map r.se)] :: [(iw, .map r.we)] :: r.wbs :: [(i2, .cells false [.slice na nn nc, .int .i64 root])] :: own) (OwnLe.flat ?_) (OwnLe.cons _ (OwnLe.skip _ (OwnLe.skip _ (OwnLe.cons _ (OwnLe.cons _ (OwnLe.cons _ (OwnLe.skip _ (OwnLe.refl _))))))))
        simp only [List.flatten_cons]
        exact perm_cpT _ _ _ _ _
      · have hv : (r.pss.set j [i56])[v]? = some us := hv
        by_cases e : v = j
        · subst e
          rw [List.getElem?_set_self zo] at hv
          cases hv
          rw [init_at hlf]
          exact .cons hsh .nil
        · rw [List.getElem?_set_ne (fun e2 => e e2.symm)] at hv
          rw [init_ne e]
          exact hl2.trees v us hv
    · rw [if_neg (by rw [show x.key.sym.term = false from ht]; simp)] at hleaf
      refine AW.skip ?_
      refine ⟨r, SubK.of_map rfl, OwnLe.skip _ (OwnLe.refl _), ?_⟩
      show LOk (⟨li, na, nn, nc, root, most, lo, bif nn == 0 then 0 else 1, is, iw⟩ : LP) Ns _ r (initS (foOf Ns) (j + 1))
      rw [init_skip hleaf]
      exact hl
  intro r0 F1 hF1 hl0
  have hl0 : LOk (⟨li, na, nn, nc, root, most, lo, bif nn == 0 then 0 else 1, is, iw⟩ : LP) Ns F1 r0 (initS (foOf Ns) nn) := hl0
  have hI0 := init_inv (foOf Ns) hm1
  rw [show (foOf Ns).n = nn from hNl.symm] at hI0
  refine zA ?_; refine zl hT 1 zr zr zr zr zr zr me zr ?_; refine zA ?_
  refine AW.range (S := TakeS) (fun _ => []) (fun z => lrB (⟨li, na, nn, nc, root, most, lo, bif nn == 0 then 0 else 1, is, iw⟩ : LP) z.r :: [(i2, .cells false [.slice na nn nc, .int .i64 root])] :: own)
    (fun j z G => LOk (⟨li, na, nn, nc, root, most, lo, bif nn == 0 then 0 else 1, is, iw⟩ : LP) Ns G z.r z.s ∧ Inv (foOf Ns) most z.s [] [] [] ∧ z.s.lists = (initS (foOf Ns) nn).lists ∧ z.s.seen.length ≤ pks Ns j ∧ ∀ v, v < j → (foOf Ns).leaf v = none → ∀ p, p < ((foOf Ns).packs v).length → (⟨v, p, 0, 0, 0, 0⟩ : Cand) ∈ z.s.seen) nn ⟨r0, initS (foOf Ns) nn⟩
    zr zr zr zr zr zr zr zr zr zo rfl rfl (fun _ => rfl) (fun _ => rfl) (SubK.of_map rfl) (OwnLe.refl _) ⟨hl0, hI0, rfl, Nat.zero_le _, fun v hv => by omega⟩ ?_ ?_
  · intro j z F2 hF2 hj hP
    obtain ⟨ul, uI, uL, un, ub⟩ := hP
    obtain ⟨x, hx⟩ : ∃ x, Ns[j]? = some x := ⟨_, List.getElem?_eq_getElem zo⟩
    have hN2 := ul.nodes
    have hpx : (foOf Ns).packs j = x.packs := by unfold foOf; simp only [hx]
    have hpk := pks_succ hx
    have hpk2 := pks_mono (Ns := Ns) (show j + 1 ≤ Ns.length by omega)
    have hxp := hok.packs x (List.mem_of_getElem? hx)
    refine zA ?_
    refine WT.idxL hT hN2 zr zr zr zr zr zr zr zr zr zo (fun y hy b7 off7 ro7 cs7 lx7 hb7 hp7 hrel7 => ?_)
    rw [hx] at hy; cases hy
    obtain ⟨pa, pn, pc, rfl, hpa⟩ := hrel7
    have hpal := hpa.len
    refine zi (fo := 0) hT (by assumption) (by assumption) zr zr zr zr zr zr ?_
    refine WT.allocT hT zr zr zr zr zr zr (fun i10 hi10 => ?_)
    refine zA ?_; refine zs hT 0 0 zr zr zr zr zr zr zr zr zr zr zr zr ?_; refine zA ?_; refine zl hT 0 zr zr zr zr zr zr me zr ?_; refine zA ?_
    refine AW.range (S := TakeS) (fun _ => []) (fun z => [(i10, .cells false [.bool x.key.sym.term, .int .i64 x.key.sym.n, .int .i64 x.key.frm, .int .i64 x.key.to, .slice pa pn pc])] :: lrB (⟨li, na, nn, nc, root, most, lo, bif nn == 0 then 0 else 1, is, iw⟩ : LP) z.r :: [(i2, .cells false [.slice na nn nc, .int .i64 root])] :: own)
      (fun q z G => LOk (⟨li, na, nn, nc, root, most, lo, bif nn == 0 then 0 else 1, is, iw⟩ : LP) Ns G z.r z.s ∧ Inv (foOf Ns) most z.s [] [] [] ∧ z.s.lists = (initS (foOf Ns) nn).lists ∧ z.s.seen.length ≤ pks Ns j + q ∧ (∀ v, v < j → (foOf Ns).leaf v = none → ∀ p, p < ((foOf Ns).packs v).length → (⟨v, p, 0, 0, 0, 0⟩ : Cand) ∈ z.s.seen) ∧ ∀ p, p < q → (⟨j, p, 0, 0, 0, 0⟩ : Cand) ∈ z.s.seen) pn z
      zr zr zr zr zr zr zr zr zr zo rfl rfl (fun _ => rfl) (fun _ => rfl) (SubK.of_map rfl) (OwnLe.refl _) ⟨ul, uI, uL, un, ub, fun p hp => by omega⟩ ?_ ?_
    · intro q z F3 hF3 hq hP
      obtain ⟨vl, vI, vL, vn, vb, vc⟩ := hP
      have hlj : (foOf Ns).leaf j = none := by
        cases he : (foOf Ns).leaf j with
        | none => rfl
        | some t =>
          have := hlp j (by rw [he]; simp)
          rw [hpx] at this
          rw [this] at hpal
          simp at hpal; omega
      have hc : CandOk (foOf Ns) most ⟨j, q, 0, 0, 0, 0⟩ := by
        refine ⟨by show j < Ns.length; omega, hlj, ⟨_, by unfold packAt; rw [hpx]; exact List.getElem?_eq_getElem (show q < x.packs.length by omega)⟩, fun r0 h0 => ?_, fun p _ i r0 _ h0 => ?_⟩
        · simp [Cand.ranks] at h0; omega
        · have := List.mem_of_getElem? h0
          simpa [Cand.ranks] using this
      have hTop : ∀ T, candTree (foOf Ns) z.s.lists ⟨j, q, 0, 0, 0, 0⟩ = some T → ∀ v, (foOf Ns).leaf v = none → ∀ x ∈ z.s.lists v, tle x T := fun T _ v hv x hx => by
        rw [vL, init_none hv] at hx; cases hx
      refine zA ?_
      refine WT.call1F 1 Tryz.func100 zr zr zr zr zr zr zr (fun _ => rfl) (lfirst_spec F3 vl hf vI hc hTop (by show most ≤ 1000; omega) zo hfew (.pointer none) rfl) (fun F4 v B4 hF4 hv => ?_)
      obtain ⟨r', rfl, hl4⟩ := hv
      refine WT.nil ?_
      obtain ⟨f1, f2, f3, f4⟩ := first_lists (foOf Ns) z.s ⟨j, q, 0, 0, 0, 0⟩
      refine ⟨⟨r', firstS (foOf Ns) z.s ⟨j, q, 0, 0, 0, 0⟩⟩, SubK.of_map rfl, OwnLe.refl _, hl4, vI.first_ hf hc hTop, f1.trans vL, by show (firstS _ _ _).seen.length ≤ pks Ns j + (q + 1); omega, fun v hv hl p hp => f2 _ (vb v hv hl p hp), fun p hp => ?_⟩
      rcases Nat.lt_or_ge p q with h1 | h1
      · exact f2 _ (vc p h1)
      · obtain rfl : p = q := by omega
        exact f3
    · intro z F3 hF3 hP
      obtain ⟨vl, vI, vL, vn, vb, vc⟩ := hP
      skip
      refine ⟨z, SubK.of_map rfl, OwnLe.skip _ (OwnLe.refl _), vl, vI, vL, by rw [hpk, ← hpal]; exact vn, fun v hv hl p hp => ?_⟩
      rcases Nat.lt_or_ge v j with h1 | h1
      · exact vb v h1 hl p hp
      · obtain rfl : v = j := by omega
        rw [hpx] at hp
        have hp : p < x.packs.length := hp
        exact vc p (by rw [hpal]; exact hp)
  intro z F2 hF2 hP
  obtain ⟨ul, uI, uL, un, ub⟩ := hP
  have hbase : BaseIn (foOf Ns) z.s := fun v hv hl p hp => ub v (by have : v < Ns.length := hv; omega) hl p hp
  refine AW.seq ?_
  refine joinK (S := LsS) (fun _ => []) (fun z => lrB (⟨li, na, nn, nc, root, most, lo, bif nn == 0 then 0 else 1, is, iw⟩ : LP) z.r :: [(i2, .cells false [.slice na nn nc, .int .i64 root])] :: own) (fun z G => LOk (⟨li, na, nn, nc, root, most, lo, bif nn == 0 then 0 else 1, is, iw⟩ : LP) Ns G z.r z.s ∧ Firsts (foOf Ns) root most (z.s.lists root)) ?_ ?_
  · refine AW.block ?_
    refine AW.loopR (S := LsS) (fun _ => []) (fun z => lrB (⟨li, na, nn, nc, root, most, lo, bif nn == 0 then 0 else 1, is, iw⟩ : LP) z.r :: [(i2, .cells false [.slice na nn nc, .int .i64 root])] :: own)
      (fun z G => LOk (⟨li, na, nn, nc, root, most, lo, bif nn == 0 then 0 else 1, is, iw⟩ : LP) Ns G z.r z.s ∧ Inv (foOf Ns) most z.s z.done [] [] ∧ BaseIn (foOf Ns) z.s ∧ z.s.seen.length ≤ pks Ns Ns.length + 4 * tot z.s.lists nn) (fun z => pks Ns Ns.length + 4 * (nn * most) + 1 - z.done.length) ⟨z.r, z.s, []⟩
      (SubK.of_map rfl) (OwnLe.refl _) ⟨ul, uI, hbase, by show z.s.seen.length ≤ pks Ns Ns.length + 4 * tot z.s.lists nn; rw [hNl] at un; omega⟩ ?_
    intro y F3 hF3 hP3
    obtain ⟨yl, yI, yb, yn⟩ := hP3
    have htot := tot_le yI.len nn
    have hdl : y.done.length ≤ y.s.seen.length := sub_len _ _ yI.dnd yI.dsub
    have hmm : nn * most ≤ 1000000 * 100 := Nat.mul_le_mul zo hm
    have hql := yl.q.len
    have hqp := yl.qp.length_eq
    have hqf := yI.q_few
    obtain ⟨ps, hps⟩ : ∃ ps, y.r.pss[root]? = some ps := ⟨_, List.getElem?_eq_getElem (by have : y.r.pss.length = nn := yl.rlen; omega)⟩
    obtain ⟨va, vn, vc, VB, b1, b2, hvk, hbs, hVB, hput⟩ := yl.rows.split hps
    have htr := yl.trees root ps hps
    have hvn := hVB.len
    have htrl := htr.len
    have hrm := yI.len root
    refine zA ?_; refine AW.draw (ps := []) zr zr ?_; refine zA ?_; refine zl hT 0 zr zr zr zr zr zr me zr ?_; refine zA ?_
    refine WT.le (lrB_own (⟨li, na, nn, nc, root, most, lo, bif nn == 0 then 0 else 1, is, iw⟩ : LP) y.r _) ?_
    skip
    refine WT.split 87 rfl (fun hq0 => ?_) (fun hq0 => ?_)
    rotate_left
    · have hq0 : y.r.qn = 0 := by simp at hq0; omega
      (iterate 11 refine zx zr zr zr zr ?_); refine zA ?_; refine And.intro trivial ?_
      refine AW.cond rfl (fun h => (by cases h)) (fun _ => ?_)
      refine AW.exit ?_
      refine ⟨y, SubK.of_map rfl, lrB_own' (⟨li, na, nn, nc, root, most, lo, bif nn == 0 then 0 else 1, is, iw⟩ : LP) y.r _, yl, yI.firsts hf yb hrl (.inr fun a ha => ?_)⟩
      have : y.s.q = [] := List.eq_nil_of_length_eq_zero zo
      rw [this] at ha; cases ha
    have hq1 : 0 < y.r.qn := by simpa using hq0
    refine zA ?_; refine zl hT 0 zr zr zr zr zr zr me zr ?_; refine zA ?_; refine zl hT 6 zr zr zr zr zr zr me zr ?_
    refine WT.idxA (j := root) (s := 1) hT zr zr zr zr zr zr zr zr zr (show root < nn by omega) ?_
    refine WT.loadAt hT 1 zr zr zr zr zr zr (List.mem_cons_self ..) rfl rfl (v := .slice va vn vc) (by rw [Nat.zero_add, Nat.mul_one]; exact hvk) ?_
    refine zA ?_; refine And.intro trivial ?_
    refine AW.cond rfl (fun hc => ?_) (fun hc => ?_)
    rotate_left
    · have hc : most ≤ vn := by simp at hc; omega
      refine AW.exit ?_
      exact ⟨y, SubK.of_map rfl, lrB_own' (⟨li, na, nn, nc, root, most, lo, bif nn == 0 then 0 else 1, is, iw⟩ : LP) y.r _, yl, yI.firsts hf yb hrl (.inl zo)⟩
    have hc : vn < most := by simp at hc; omega
    obtain ⟨qn, hqn⟩ : ∃ qn, y.r.qn = qn + 1 := ⟨y.r.qn - 1, by omega⟩
    have yq := yl.q
    rw [hqn] at yq
    rw [hqn]
    refine AW.skip ?_
    refine AW.block ?_
    refine zA ?_
    refine WT.ifaceT hT zr zr zr zr zr zr ?_
    refine WT.call1F 0 Tryz.func101 zr zr zr zr zr zr zr (fun _ => rfl) (hpop_spec F3 (lrL (⟨li, na, nn, nc, root, most, lo, bif nn == 0 then 0 else 1, is, iw⟩ : LP)) yq zo yl.qh) (fun F4 v B4 hF4 hv => ?_)
    obtain ⟨qB2, Q2, ⟨c, T⟩, l, rfl, hQ2, hperm, hheap, hmin, rfl, tp, rfl, hsh, hTb⟩ := hv
    have yl4 := yl.mono hF4
    have yI2 : Inv (foOf Ns) most { y.s with q := (c, T) :: Q2 } y.done [] [] := yI.perm (yl.qp.symm.trans hperm)
    have hl2 : LOk (⟨li, na, nn, nc, root, most, lo, bif nn == 0 then 0 else 1, is, iw⟩ : LP) Ns F4 { y.r with qn := qn, qB := qB2, Q := Q2 } { y.s with q := Q2 } := ⟨yl4.nodes, hQ2, List.Perm.refl _, hheap, yl4.rows, yl4.rlen, yl4.trees, yl4.se, yl4.sl, yl4.we, yl4.wn, yl4.ws, yl4.wg⟩
    skip
    refine WT.assertT hT zr zr zr zr zr zr ?_
    unfold candV
    refine zA ?_
    refine WT.allocT hT zr zr zr zr zr zr (fun i12 hi12 => ?_)
    have hsh0 := hsh
    cases hsh with
    | @mk _ tr tm tks ta tn tc tps g1 g2 g3 =>
    refine zs hT 0 0 zr zr zr zr zr zr zr zr zr zr zr zr ?_; refine zA ?_; refine zl hT 0 zr zr zr zr zr zr me zr ?_; refine zA ?_; refine zf hT (by assumption) zr zr zr zr zr zr ?_; refine zA ?_
    refine AW.cond rfl (fun hc5 => ?_) (fun hc5 => ?_)
    · have hc5 : 5000 < (Tree.mk tr tm tks).pre.length := by simp at hc5; omega
      refine AW.exit ?_
      refine ⟨⟨{ y.r with qn := qn, qB := qB2, Q := Q2 }, { y.s with q := Q2 }, []⟩, SubK.of_map rfl, OwnLe.skip _ (lrB_own' (⟨li, na, nn, nc, root, most, lo, bif nn == 0 then 0 else 1, is, iw⟩ : LP) { y.r with qn := qn, qB := qB2, Q := Q2 } _), hl2, yI2.firsts hf yb hrl (.inr fun a ha => ?_)⟩
      rcases List.mem_cons.1 ha with rfl | ha
      · exact hc5
      · have := wle_len (hmin a ha)
        dsimp only at this
        omega
    · have hc5 : (Tree.mk tr tm tks).pre.length ≤ 5000 := by simp at hc5; omega
      have hcn : c.node < nn := by
        have := (yI2.ok c (yI2.qok (c, _) (List.mem_cons_self ..)).1).node
        have : c.node < Ns.length := this
        omega
      refine zA ?_; refine zl hT 0 zr zr zr zr zr zr me zr ?_
      refine WT.le (OwnLe.cons _ (lrB_own' (⟨li, na, nn, nc, root, most, lo, bif nn == 0 then 0 else 1, is, iw⟩ : LP) { y.r with qn := qn, qB := qB2, Q := Q2 } _)) ?_
      refine WT.call1F 1 Tryz.func102 zr zr zr zr zr zr zr (fun _ => rfl) (nodeTk_spec F4 hl2 hf yI2 yb hmin hc5 hsh0 (by show most ≤ 1000; omega) zo hfew) (fun F5 v B5 hF5 hv => ?_)
      obtain ⟨r', s', rfl, hl5, hI5, hb5, hcase⟩ := hv
      have hI5 : Inv (foOf Ns) most s' (c :: y.done) [] [] := hI5
      have hseen5 : s'.seen.length ≤ pks Ns Ns.length + 4 * tot s'.lists nn := by
        rcases hcase with ⟨_, e1, e2⟩ | ⟨_, e1, e2⟩
        · rw [e1, e2]; exact yn
        · rw [e1, tot_upd, if_pos hcn]; omega
      have hdl5 : (c :: y.done).length ≤ s'.seen.length := sub_len _ _ hI5.dnd hI5.dsub
      have htot5 := tot_le hI5.len nn
      refine WT.nil ?_
      refine ⟨⟨r', s', c :: y.done⟩, ?_, SubK.of_map rfl, OwnLe.skip _ (OwnLe.refl _), hl5, hI5, hb5, hseen5⟩
      show pks Ns Ns.length + 4 * (nn * most) + 1 - (c :: y.done).length < pks Ns Ns.length + 4 * (nn * most) + 1 - y.done.length
      simp only [List.length_cons] at hdl5 ⊢
      omega
  intro y F3 hF3 hP3
  obtain ⟨yl, yF⟩ := hP3
  obtain ⟨ps, hps⟩ : ∃ ps, y.r.pss[root]? = some ps := ⟨_, List.getElem?_eq_getElem (by have : y.r.pss.length = nn := yl.rlen; omega)⟩
  obtain ⟨va, vn, vc, VB, b1, b2, hvk, hbs, hVB, hput⟩ := yl.rows.split hps
  have htr := yl.trees root ps hps
  have hvn := hVB.len
  have htrl := htr.len
  have hrm := yF.len
  refine AW.seq ?_; refine AW.draw (ps := []) zr zr ?_; refine zA ?_; refine zl hT 0 zr zr zr zr zr zr me zr ?_; refine zA ?_; refine zl hT 1 zr zr zr zr zr zr me zr ?_
  refine WT.le (lrB_own (⟨li, na, nn, nc, root, most, lo, bif nn == 0 then 0 else 1, is, iw⟩ : LP) y.r _) ?_
  refine WT.idxA (j := root) (s := 1) hT zr zr zr zr zr zr zr zr zr (show root < nn by omega) ?_
  refine WT.loadAt hT 1 zr zr zr zr zr zr (List.mem_cons_self ..) rfl rfl (v := .slice va vn vc) (by rw [Nat.zero_add, Nat.mul_one]; exact hvk) ?_
  refine zA ?_; refine And.intro trivial ?_; refine zA ?_; refine zl hT 6 zr zr zr zr zr zr me zr ?_
  have hN3 := yl.nodes
  refine WT.callV Tryz.func65 zr zr zr zr zr zr (count_spec _ hok hpr hN3 root hroot) (fun v hv => ?_)
  obtain ⟨cn, rfl, hcn⟩ := hv
  refine zA ?_
  refine WT.split 132 rfl (fun hc => ?_) (fun hc => ?_)
  rotate_left
  · have hc : vn = most := by simp at hc; omega
    (iterate 7 refine zx zr zr zr zr ?_); refine zA ?_
    refine AW.cond rfl (fun h => (by cases h)) (fun _ => ?_)
    refine zA ?_; refine AW.draw (ps := []) zr zr ?_; refine zA ?_; refine zl hT 0 zr zr zr zr zr zr me zr ?_; refine zA ?_; refine zl hT 6 zr zr zr zr zr zr me zr ?_
    refine WT.idxA (j := root) (s := 1) hT zr zr zr zr zr zr zr zr zr (show root < nn by omega) ?_
    refine WT.loadAt hT 1 zr zr zr zr zr zr (List.mem_cons_self ..) rfl rfl (v := .slice va vn vc) (by rw [Nat.zero_add, Nat.mul_one]; exact hvk) ?_
    refine zA ?_; refine And.intro trivial ?_
    refine AW.range (S := PlT) (fun s => [(16, .slice s.a s.n s.c)]) (fun s => s.B :: s.bs :: ((li, .cells false [.slice na nn nc, .int .i64 root, .int .i64 most, .slice (some ⟨lo, 0, none⟩) nn (bif nn == 0 then 0 else 1), .map (some is), .map (some iw), .slice y.r.qa y.r.qn y.r.qc]) :: y.r.qB) :: [(lo, .cells false y.r.vs)] :: y.r.bs :: [(is, .map y.r.se)] :: [(iw, .map y.r.we)] :: y.r.wbs :: [(i2, .cells false [.slice na nn nc, .int .i64 root])] :: own)
      (fun j s G => Bld tTC E0 s.a s.n s.c s.B s.css ∧ TOwnL s.css s.bs ((y.s.lists root).take j)) vn ⟨none, 0, 0, [], [], []⟩
      zr zr zr zr zr zr zr zr zr zo rfl rfl (fun _ => rfl) (fun _ => rfl) (SubK.of_map rfl) (OwnLe.flat (List.Perm.refl _)) ⟨Bld.nil_ _ _, .nil⟩ ?_ ?_
    · intro j u F5 hF5 hj hP5
      obtain ⟨hb, hL⟩ := hP5
      have hLl := hL.len
      have hbl5 := hb.len
      rw [List.length_take] at hLl
      have hVB5 := (hVB.mono hF5).gb
      obtain ⟨q, hq⟩ : ∃ q, ps[j]? = some q := ⟨_, List.getElem?_eq_getElem zo⟩
      obtain ⟨k, hk⟩ : ∃ k, (y.s.lists root)[j]? = some k := ⟨_, List.getElem?_eq_getElem zo⟩
      have hkm := List.mem_of_getElem? hk
      have hsm := yF.small k hkm
      have hsq := (htr.at_ hq hk).mono hF5
      refine zA ?_
      refine WT.gidx hT hVB5 zr zr zr zr zr zr zr zr zr hj (fun b9 hb9 => ?_)
      refine WT.gld1 (x := q) hT 4 hVB5 hb9 hq zr zr zr zr zr zr (fun z hz => by rw [hbs]; exact List.mem_append_right _ (List.mem_append_left _ hz)) zr zr zr (fun v hv => ?_)
      obtain rfl : v = _ := (List.singleton_inj.1 hv)
      refine zA ?_
      refine WT.callN Tryz.func103 zr zr zr zr zr zr (plain_spec _ k (Nat.lt_succ_self _) (yF.valid k hkm).plain zo F5 q hsq) (fun F6 v B6 hF6 hv => ?_)
      obtain ⟨cs, rfl, hcs⟩ := hv
      obtain ⟨hc3, hc1⟩ := hcs.shape
      obtain ⟨x1, x2, x3, rfl⟩ : ∃ x1 x2 x3, cs = [x1, x2, x3] := by
        match cs, hc3 with
        | [x1, x2, x3], _ => exact ⟨x1, x2, x3, rfl⟩
      skip
      refine WT.buildT hT zr zr zr zr zr zr zr zr zr zr zr zr zr zr (fun i9 hi9 => ?_)
      refine WT.appendT (R := tTC) (ys := [[x1, x2, x3]]) hT 2 (bldT hb) rfl (fun _ => rfl) zr zr zr zr zr zr zr zr zr zr zr (fun h0 s0 => news_own hT s0 0 zr zr zr zr) (Cells.single (R := tTC) ⟨rfl, rfl, hc1⟩) rfl (by decide) zom (fun a3 c3 B3 hB3 => ?_)
      refine zA ?_
      refine ⟨⟨a3, u.n + 1, c3, B3, u.css ++ [[x1, x2, x3]], u.bs ++ B6⟩, SubK.of_map rfl, ?_, bldT hB3, by rw [List.take_add_one, hk]; exact hL.snoc hcs⟩
      refine OwnLe.skip _ (OwnLe.flat ?_)
      simp only [List.flatten_cons, List.append_assoc]
      exact perm_cpU _ _ _ _
    · intro u F5 hF5 hP5
      obtain ⟨hb, hL⟩ := hP5
      rw [List.take_of_length_le zo] at hL
      refine zA ?_
      refine AW.le (own2 := (u.B ++ u.bs) :: own) (OwnLe.trans (OwnLe.flat (List.Perm.of_eq (by simp))) (OwnLe.cons _ (OwnLe.cons _ (OwnLe.skip _ (OwnLe.skip _ (OwnLe.skip _ (OwnLe.skip _ (OwnLe.skip _ (OwnLe.skip _ (OwnLe.skip _ (OwnLe.refl _))))))))))) ?_
      exact AW.ret ⟨_, [_], ⟨_, _, rfl, ⟨_, _, rfl, rfl, rfl⟩, rfl⟩, zsb, _, rfl, _, _, ⟨yF, hcn⟩, .inl ⟨(.inl zo), _, _, _, u.B, u.css, u.bs, rfl, rfl, hb, hL⟩⟩
  have hc : vn < most := by simpa using hc
  refine zA ?_
  refine WT.split 135 rfl (fun hc2 => ?_) (fun hc2 => ?_)
  · have hc2 : cn = -1 := by simpa using hc2
    (iterate 3 refine zx zr zr zr zr ?_); refine zA ?_
    refine AW.cond rfl (fun _ => ?_) (fun h => (by cases h))
    refine zA ?_
    refine AW.le (own2 := [] :: own) (OwnLe.trans (OwnLe.flat (List.Perm.refl _)) (OwnLe.skip _ (OwnLe.skip _ (OwnLe.skip _ (OwnLe.skip _ (OwnLe.skip _ (OwnLe.skip _ (OwnLe.skip _ (OwnLe.refl _))))))))) ?_
    exact AW.ret ⟨_, [_], ⟨_, _, rfl, ⟨_, _, rfl, rfl, rfl⟩, rfl⟩, zsb, _, rfl, _, _, ⟨yF, hcn⟩, .inr ⟨by omega, .inl hc2, rfl⟩⟩
  have hc2 : cn ≠ -1 := by simpa using hc2
  refine zA ?_
  refine AW.cond rfl (fun hc3 => ?_) (fun hc3 => ?_)
  · have hc3 : (vn : Int) < cn := by simpa using hc3
    refine zA ?_
    refine AW.le (own2 := [] :: own) (OwnLe.trans (OwnLe.flat (List.Perm.refl _)) (OwnLe.skip _ (OwnLe.skip _ (OwnLe.skip _ (OwnLe.skip _ (OwnLe.skip _ (OwnLe.skip _ (OwnLe.skip _ (OwnLe.refl _))))))))) ?_
    exact AW.ret ⟨_, [_], ⟨_, _, rfl, ⟨_, _, rfl, rfl, rfl⟩, rfl⟩, zsb, _, rfl, _, _, ⟨yF, hcn⟩, .inr ⟨by omega, .inr (by rw [htrl, ← hvn]; exact hc3), rfl⟩⟩
  · have hc3 : cn ≤ (vn : Int) := by simpa using hc3
    refine zA ?_; refine AW.draw (ps := []) zr zr ?_; refine zA ?_; refine zl hT 0 zr zr zr zr zr zr me zr ?_; refine zA ?_; refine zl hT 6 zr zr zr zr zr zr me zr ?_
    refine WT.idxA (j := root) (s := 1) hT zr zr zr zr zr zr zr zr zr (show root < nn by omega) ?_
    refine WT.loadAt hT 1 zr zr zr zr zr zr (List.mem_cons_self ..) rfl rfl (v := .slice va vn vc) (by rw [Nat.zero_add, Nat.mul_one]; exact hvk) ?_
    refine zA ?_; refine And.intro trivial ?_
    refine AW.range (S := PlT) (fun s => [(16, .slice s.a s.n s.c)]) (fun s => s.B :: s.bs :: ((li, .cells false [.slice na nn nc, .int .i64 root, .int .i64 most, .slice (some ⟨lo, 0, none⟩) nn (bif nn == 0 then 0 else 1), .map (some is), .map (some iw), .slice y.r.qa y.r.qn y.r.qc]) :: y.r.qB) :: [(lo, .cells false y.r.vs)] :: y.r.bs :: [(is, .map y.r.se)] :: [(iw, .map y.r.we)] :: y.r.wbs :: [(i2, .cells false [.slice na nn nc, .int .i64 root])] :: own)
      (fun j s G => Bld tTC E0 s.a s.n s.c s.B s.css ∧ TOwnL s.css s.bs ((y.s.lists root).take j)) vn ⟨none, 0, 0, [], [], []⟩
      zr zr zr zr zr zr zr zr zr zo rfl rfl (fun _ => rfl) (fun _ => rfl) (SubK.of_map rfl) (OwnLe.flat (List.Perm.refl _)) ⟨Bld.nil_ _ _, .nil⟩ ?_ ?_
    · intro j u F5 hF5 hj hP5
      obtain ⟨hb, hL⟩ := hP5
      have hLl := hL.len
      have hbl5 := hb.len
      rw [List.length_take] at hLl
      have hVB5 := (hVB.mono hF5).gb
      obtain ⟨q, hq⟩ : ∃ q, ps[j]? = some q := ⟨_, List.getElem?_eq_getElem zo⟩
      obtain ⟨k, hk⟩ : ∃ k, (y.s.lists root)[j]? = some k := ⟨_, List.getElem?_eq_getElem zo⟩
      have hkm := List.mem_of_getElem? hk
      have hsm := yF.small k hkm
      have hsq := (htr.at_ hq hk).mono hF5
      refine zA ?_
      refine WT.gidx hT hVB5 zr zr zr zr zr zr zr zr zr hj (fun b9 hb9 => ?_)
      refine WT.gld1 (x := q) hT 4 hVB5 hb9 hq zr zr zr zr zr zr (fun z hz => by rw [hbs]; exact List.mem_append_right _ (List.mem_append_left _ hz)) zr zr zr (fun v hv => ?_)
      obtain rfl : v = _ := (List.singleton_inj.1 hv)
      refine zA ?_
      refine WT.callN Tryz.func103 zr zr zr zr zr zr (plain_spec _ k (Nat.lt_succ_self _) (yF.valid k hkm).plain zo F5 q hsq) (fun F6 v B6 hF6 hv => ?_)
      obtain ⟨cs, rfl, hcs⟩ := hv
      obtain ⟨hc3, hc1⟩ := hcs.shape
      obtain ⟨x1, x2, x3, rfl⟩ : ∃ x1 x2 x3, cs = [x1, x2, x3] := by
        match cs, hc3 with
        | [x1, x2, x3], _ => exact ⟨x1, x2, x3, rfl⟩
      skip
      refine WT.buildT hT zr zr zr zr zr zr zr zr zr zr zr zr zr zr (fun i9 hi9 => ?_)
      refine WT.appendT (R := tTC) (ys := [[x1, x2, x3]]) hT 2 (bldT hb) rfl (fun _ => rfl) zr zr zr zr zr zr zr zr zr zr zr (fun h0 s0 => news_own hT s0 0 zr zr zr zr) (Cells.single (R := tTC) ⟨rfl, rfl, hc1⟩) rfl (by decide) zom (fun a3 c3 B3 hB3 => ?_)
      refine zA ?_
      refine ⟨⟨a3, u.n + 1, c3, B3, u.css ++ [[x1, x2, x3]], u.bs ++ B6⟩, SubK.of_map rfl, ?_, bldT hB3, by rw [List.take_add_one, hk]; exact hL.snoc hcs⟩
      refine OwnLe.skip _ (OwnLe.flat ?_)
      simp only [List.flatten_cons, List.append_assoc]
      exact perm_cpU _ _ _ _
    · intro u F5 hF5 hP5
      obtain ⟨hb, hL⟩ := hP5
      rw [List.take_of_length_le zo] at hL
      refine zA ?_
      refine AW.le (own2 := (u.B ++ u.bs) :: own) (OwnLe.trans (OwnLe.flat (List.Perm.of_eq (by simp))) (OwnLe.cons _ (OwnLe.cons _ (OwnLe.skip _ (OwnLe.skip _ (OwnLe.skip _ (OwnLe.skip _ (OwnLe.skip _ (OwnLe.skip _ (OwnLe.skip _ (OwnLe.refl _))))))))))) ?_
      exact AW.ret ⟨_, [_], ⟨_, _, rfl, ⟨_, _, rfl, rfl, rfl⟩, rfl⟩, zsb, _, rfl, _, _, ⟨yF, hcn⟩, .inl ⟨(.inr ⟨hc2, by rw [htrl, ← hvn]; exact hc3⟩), _, _, _, u.B, u.css, u.bs, rfl, rfl, hb, hL⟩⟩

/-! ### trees are told by their rules -/
mutual
theorem TreeOf.end_uniq {g : Gram} {w : List Nat} : ∀ {t : Tree} {s : Sym} {i j j' : Nat}, TreeOf g w s t i j → TreeOf g w s t i j' → j = j'
  | .mk _ _ _, _, _, _, _, .leaf _, h => by cases h with
    | leaf _ => rfl
  | .mk _ _ ks, _, _, _, _, .node h h2, h' => by
    generalize hs : (⟨false, _⟩ : Sym) = s at h'
    cases h' with
    | node g1 g2 =>
      rw [h] at g1; cases g1
      exact TreesOf.end_uniq h2 g2
theorem TreesOf.end_uniq {g : Gram} {w : List Nat} : ∀ {ts : List Tree} {l : List Sym} {i j j' : Nat}, TreesOf g w l ts i j → TreesOf g w l ts i j' → j = j'
  | [], _, _, _, _, .nil, h => by cases h; rfl
  | _ :: _, _, _, _, _, .cons h1 h2, h => by
    cases h with
    | cons g1 g2 =>
      obtain rfl := TreeOf.end_uniq h1 g1
      exact TreesOf.end_uniq h2 g2
end

mutual
theorem TreeOf.dec {g : Gram} {w : List Nat} : ∀ {t u : Tree} {s : Sym} {i j i' j' : Nat} {x y : List Int}, TreeOf g w s t i j → TreeOf g w s u i' j' → t.pre ++ x = u.pre ++ y → t = u ∧ x = y
  | .mk _ _ _, u, _, _, _, _, _, x, y, .leaf _, h, e => by
    cases h with
    | leaf _ =>
      have e : (-1 : Int) :: ([] ++ x) = -1 :: ([] ++ y) := e
      exact ⟨rfl, by simpa using e⟩
  | .mk _ _ ks, u, _, _, _, _, _, x, y, .node h h2, h', e => by
    generalize hs : (⟨false, _⟩ : Sym) = s at h'
    cases h' with
    | leaf _ => cases hs
    | @node k' r' kids' _ _ g1 g2 =>
      have e : ((_ : Nat) : Int) :: (preL ks ++ x) = (k' : Int) :: (preL kids' ++ y) := e
      injection e with e1 e2
      have e1 := Int.ofNat_inj.1 e1
      subst e1
      rw [h] at g1; cases g1
      obtain ⟨rfl, rfl⟩ := TreesOf.dec h2 g2 e2
      exact ⟨rfl, rfl⟩
theorem TreesOf.dec {g : Gram} {w : List Nat} : ∀ {ts us : List Tree} {l : List Sym} {i j i' j' : Nat} {x y : List Int}, TreesOf g w l ts i j → TreesOf g w l us i' j' → preL ts ++ x = preL us ++ y → ts = us ∧ x = y
  | [], us, _, _, _, _, _, x, y, .nil, h, e => by
    cases h
    exact ⟨rfl, by simpa [preL] using e⟩
  | t :: ts, us, _, _, _, _, _, x, y, .cons h1 h2, h, e => by
    cases h with
    | @cons _ _ u us _ _ _ g1 g2 =>
      have e : (t.pre ++ preL ts) ++ x = (u.pre ++ preL us) ++ y := e
      rw [List.append_assoc, List.append_assoc] at e
      obtain ⟨rfl, e2⟩ := TreeOf.dec h1 g1 e
      obtain ⟨rfl, rfl⟩ := TreesOf.dec h2 g2 e2
      exact ⟨rfl, rfl⟩
end

/-! ### a forest's trees are trees of the word -/
section
variable {g : Gram} {w : List Nat} {E : List (List Nat)} {root : Key} {S : List Key}

theorem foOf_at {v : Nat} {k : Key} (hk : S[v]? = some k) : (foOf (S.map (mkNode g w E S))).leaf v = (if k.sym.term = true then some k.sym.n else none) ∧ (foOf (S.map (mkNode g w E S))).packs v = (packsOf g w E k).map (numPack S) := by
  unfold foOf
  simp only [List.getElem?_map, hk]
  exact ⟨rfl, rfl⟩

theorem trees_bound {to : Nat} : ∀ {l : List Sym} {i : Nat} {ks : List Key} {ts : List Tree}, (∀ q ∈ ks, q ∈ S) → NTs (foOf (S.map (mkNode g w E S))) (ks.map (place S)) ts → ks ∈ splits w E to l i →
    (∀ (q : Key) (t : Tree), q ∈ ks → t ∈ ts → NT (foOf (S.map (mkNode g w E S))) (place S q) t → TreeOf g w q.sym t q.frm q.to) → TreesOf g w l ts i to := by
  intro l
  induction l with
  | nil =>
    intro i ks ts hq hN h hS
    unfold splits at h
    split at h
    · rename_i e
      subst e
      rw [List.mem_singleton.1 h] at hN
      cases hN
      exact .nil
    · cases h
  | cons s l ih =>
    intro i ks ts hq hN h hS
    unfold splits at h
    obtain ⟨m, _, hm⟩ := List.mem_flatMap.1 h
    split at hm
    · obtain ⟨ks', h2, rfl⟩ := List.mem_map.1 hm
      cases hN with
      | cons h3 h4 =>
        exact .cons (hS ⟨s, i, m⟩ _ (List.mem_cons_self ..) (List.mem_cons_self ..) h3) (ih (fun q hq' => hq q (List.mem_cons_of_mem _ hq')) h4 h2 fun q t h5 h6 h7 => hS q t (List.mem_cons_of_mem _ h5) (List.mem_cons_of_mem _ h6) h7)
    · cases hm

theorem NT.tree (hK : Keys g w E root S) (hrs : StepK w E root) : ∀ (N : Nat) (T : Tree) (k : Key), T.pre.length < N → k ∈ S → NT (foOf (S.map (mkNode g w E S))) (place S k) T → TreeOf g w k.sym T k.frm k.to
  | 0, _, _, h, _, _ => by omega
  | N + 1, T, k, hN, hk, h => by
    have hat := place_at hk
    obtain ⟨hl, hp⟩ := foOf_at (g := g) (w := w) (E := E) hat
    cases h with
    | @leaf _ t h1 h2 =>
      rw [hl] at h2
      split at h2
      · rename_i ht
        cases h2
        have hst := stepB_iff.1 ((hK.reach k hk).step hrs)
        unfold Step at hst
        rw [if_pos ht] at hst
        obtain ⟨⟨st, sn⟩, kf, kt⟩ := k
        simp only at ht hst ⊢
        subst ht
        obtain ⟨h3, rfl⟩ := hst
        exact .leaf h3
      · cases h2
    | @node _ p ts h1 h2 h3 h4 =>
      rw [hp] at h3
      obtain ⟨kp, hkp, rfl⟩ := List.mem_map.1 h3
      obtain ⟨r, hr, e1, e2, e3⟩ := mem_packsOf.1 hkp
      have hsub : ∀ q ∈ kp.kids, q ∈ S := fun q hq => hK.closed k hk kp hkp q hq
      have hTs := trees_bound hsub h4 e3 (fun q t hq hm ht => NT.tree hK hrs N t q (by
        have h5 := preL_mem hm
        have h6 : (Tree.mk ((numPack S kp).rule : Int) 0 ts).pre.length = (preL ts).length + 1 := rfl
        omega) (hsub q hq) ht)
      have := TreeOf.node (g := g) (w := w) (k := kp.rule) hr hTs
      obtain ⟨⟨st, sn⟩, kf, kt⟩ := k
      simp only at e1 e2 this ⊢
      rw [e2, ← e1]
      exact this

theorem kids_uniq (hS : ∀ (T : Tree) (k : Key), k ∈ S → NT (foOf (S.map (mkNode g w E S))) (place S k) T → TreeOf g w k.sym T k.frm k.to) {to : Nat} :
    ∀ {l : List Sym} {i : Nat} {ks ks2 : List Key} {ts : List Tree}, ks ∈ splits w E to l i → ks2 ∈ splits w E to l i → (∀ q ∈ ks, q ∈ S) → (∀ q ∈ ks2, q ∈ S) →
      NTs (foOf (S.map (mkNode g w E S))) (ks.map (place S)) ts → NTs (foOf (S.map (mkNode g w E S))) (ks2.map (place S)) ts → ks = ks2 := by
  intro l
  induction l with
  | nil =>
    intro i ks ks2 ts h h2 _ _ _ _
    unfold splits at h h2
    split at h
    · rename_i e
      rw [if_pos e] at h2
      rw [List.mem_singleton.1 h, List.mem_singleton.1 h2]
    · cases h
  | cons s l ih =>
    intro i ks ks2 ts h h2 hq hq2 hN hN2
    unfold splits at h h2
    obtain ⟨m, _, hm⟩ := List.mem_flatMap.1 h
    obtain ⟨m2, _, hm2⟩ := List.mem_flatMap.1 h2
    split at hm
    · split at hm2
      · obtain ⟨ks', h3, rfl⟩ := List.mem_map.1 hm
        obtain ⟨ks2', h4, rfl⟩ := List.mem_map.1 hm2
        cases hN with
        | cons a1 a2 =>
          cases hN2 with
          | cons b1 b2 =>
            have c1 := hS _ ⟨s, i, m⟩ (hq _ (List.mem_cons_self ..)) a1
            have c2 := hS _ ⟨s, i, m2⟩ (hq2 _ (List.mem_cons_self ..)) b1
            obtain rfl : m = m2 := TreeOf.end_uniq c1 c2
            rw [ih h3 h4 (fun q hq' => hq q (List.mem_cons_of_mem _ hq')) (fun q hq' => hq2 q (List.mem_cons_of_mem _ hq')) a2 b2]
      · cases hm2
    · cases hm

theorem packs_nodup (g : Gram) (w : List Nat) (E : List (List Nat)) (k : Key) : (packsOf g w E k).Nodup := by
  rw [List.nodup_iff_pairwise_ne]
  refine (packs_sorted g w E k).imp ?_
  rintro a b hab rfl
  have irr : ∀ l : List Key, ¬ KLt l l := by
    intro l
    induction l with
    | nil => intro h; cases h
    | cons q l ih =>
      intro h
      cases h with
      | here _ _ h => omega
      | next h => exact ih h
  rcases hab with h | h
  · omega
  · exact irr _ h.2

theorem fo_good (hg : Valid g) (hK : Keys g w E root S) (hrs : StepK w E root) : (foOf (S.map (mkNode g w E S))).Good := by
  have hnn : (foOf (S.map (mkNode g w E S))).n = S.length := by unfold foOf; simp
  have hS : ∀ (T : Tree) (k : Key), k ∈ S → NT (foOf (S.map (mkNode g w E S))) (place S k) T → TreeOf g w k.sym T k.frm k.to := fun T k hk h => NT.tree hK hrs _ T k (Nat.lt_succ_self _) hk h
  have at_ : ∀ v, v < (foOf (S.map (mkNode g w E S))).n → ∃ k, S[v]? = some k ∧ k ∈ S ∧ place S k = v := fun v hv => by
    rw [hnn] at hv
    have h1 : S[v]? = some S[v] := List.getElem?_eq_getElem hv
    exact ⟨_, h1, List.mem_of_getElem? h1, place_of hK.nodup h1⟩
  have nt_lt : ∀ v T, NT (foOf (S.map (mkNode g w E S))) v T → v < (foOf (S.map (mkNode g w E S))).n := fun v T h => by
    cases h <;> assumption
  refine ⟨fun v hv p hp => ?_, fun v T T' h h' e => ?_, fun v hv hl a b p q ha hb he ts h h' => ?_⟩
  · obtain ⟨k, hk, hkm, hpl⟩ := at_ v hv
    obtain ⟨_, hps⟩ := foOf_at (g := g) (w := w) (E := E) hk
    rw [hps] at hp
    obtain ⟨kp, hkp, rfl⟩ := List.mem_map.1 hp
    obtain ⟨r, hr, e1, e2, e3⟩ := mem_packsOf.1 hkp
    have hr4 := (hg.right r (List.mem_of_getElem? hr)).2.1
    have hkl := splits_kids e3
    refine ⟨by show (kp.kids.map _).length ≤ 4; rw [List.length_map, hkl]; exact hr4, fun u hu => ?_⟩
    obtain ⟨q, hq, rfl⟩ := List.mem_map.1 (show u ∈ kp.kids.map (place S) from hu)
    rw [hnn]
    exact List.idxOf_lt_length_of_mem (hK.closed k hkm kp hkp q hq)
  · obtain ⟨k, hk, hkm, hpl⟩ := at_ v (nt_lt v T h)
    subst hpl
    have h1 := hS T k hkm h
    have h2 := hS T' k hkm h'
    exact (TreeOf.dec (x := []) (y := []) h1 h2 (by rw [e])).1
  · obtain ⟨k, hk, hkm, hpl⟩ := at_ v hv
    obtain ⟨_, hps⟩ := foOf_at (g := g) (w := w) (E := E) hk
    rw [hps, List.getElem?_map] at ha hb
    cases hka : (packsOf g w E k)[a]? with
    | none => rw [hka] at ha; cases ha
    | some kp =>
      cases hkb : (packsOf g w E k)[b]? with
      | none => rw [hkb] at hb; cases hb
      | some kq =>
        rw [hka] at ha
        rw [hkb] at hb
        obtain rfl := Option.some.inj ha
        obtain rfl := Option.some.inj hb
        have hkpm := List.mem_of_getElem? hka
        have hkqm := List.mem_of_getElem? hkb
        obtain ⟨r, hr, e1, e2, e3⟩ := mem_packsOf.1 hkpm
        obtain ⟨r2, hr2, f1, f2, f3⟩ := mem_packsOf.1 hkqm
        have he : kp.rule = kq.rule := he
        rw [he, hr2] at hr
        cases hr
        have hks : kp.kids = kq.kids := kids_uniq hS e3 f3 (fun q hq => hK.closed k hkm kp hkpm q hq) (fun q hq => hK.closed k hkm kq hkqm q hq) h h'
        have hpq : kp = kq := by cases kp; cases kq; simp only at he hks; subst he hks; rfl
        rw [← hpq] at hkb
        exact nodup_at (packs_nodup g w E k) hka hkb

theorem leaf_nopacks (hK : Keys g w E root S) : ∀ v, (foOf (S.map (mkNode g w E S))).leaf v ≠ none → (foOf (S.map (mkNode g w E S))).packs v = [] := fun v hv => by
  cases hk : S[v]? with
  | none =>
    unfold foOf at hv
    simp [hk] at hv
  | some k =>
    obtain ⟨h1, h2⟩ := foOf_at (g := g) (w := w) (E := E) hk
    rw [h1] at hv
    rw [h2]
    split at hv
    · rename_i ht
      rw [packsOf_term ht]; rfl
    · exact absurd rfl hv

theorem pks_packSum : ∀ (L : List Key), (L.map fun k => (mkNode g w E S k).packs.length).sum = packSum g w E L
  | [] => rfl
  | k :: L => by
    have := pks_packSum L
    unfold packSum at this ⊢
    simp only [List.map_cons, List.sum_cons, this]
    simp [mkNode]
end

/-! ### as many trees as are counted -/
/-! ### the first trees of a word -/
def WTrees (g : Gram) (w : List Nat) (most : Nat) (L : List Tree) (c : Int) : Prop :=
  CountVal (fun d => symT g w d ⟨false, g.start⟩ 0 w.length) c ∧
    (((∀ E, EndsOf g w E → stepB w E ⟨false, g.start⟩ 0 w.length = false) ∧ L = []) ∨ (most = 0 ∧ L = []) ∨
      ∃ E S, EndsOf g w E ∧ stepB w E ⟨false, g.start⟩ 0 w.length = true ∧ Keys g w E (rootKey g w) S ∧ Firsts (foOf (S.map (mkNode g w E S))) (place S (rootKey g w)) most L)

def OkC (most : Nat) (L : List Tree) (c : Int) : Prop := L.length = most ∨ (c ≠ -1 ∧ c ≤ L.length)
def FailC (most : Nat) (L : List Tree) (c : Int) : Prop := L.length < most ∧ (c = -1 ∨ (L.length : Int) < c)

theorem still_of_bound {T : Nat → Nat} (hm : ∀ d, T d ≤ T (d + 1)) (hb : ¬ Unbound T) : ∃ n, Still T n := by
  have aux : ∀ k d, (∀ e, T e < T d + k) → ∃ n, Still T n := by
    intro k
    induction k with
    | zero => intro d h; exact absurd (h d) zo
    | succ k ih =>
      intro d h
      by_cases h2 : ∃ e, d ≤ e ∧ T d < T e
      · obtain ⟨e, h3, h4⟩ := h2
        exact ih e fun e' => by have := h e'; omega
      · refine ⟨T d, d, fun e he => ?_⟩
        have h3 := mono_le hm he
        rcases Nat.lt_or_ge (T d) (T e) with h4 | h4
        · exact (h2 ⟨e, he, h4⟩).elim
        · omega
  by_cases h : ∃ B, ∀ d, T d < B
  · obtain ⟨B, h⟩ := h
    exact aux B 0 fun e => by have := h e; omega
  · refine (hb fun B => ?_).elim
    by_cases h2 : ∃ d, B ≤ T d
    · exact h2
    · exact (h ⟨B, fun d => by
        rcases Nat.lt_or_ge (T d) B with h3 | h3
        · exact h3
        · exact (h2 ⟨d, h3⟩).elim⟩).elim

theorem ends_uniqT {g : Gram} {w : List Nat} {E E' : List (List Nat)} (h : EndsOf g w E) (h' : EndsOf g w E') : E = E' := by
  refine List.ext_getElem (by rw [h.ok.size, h'.ok.size]) fun n h1 h2 => ?_
  have l1 := h.ok.row _ (List.getElem_mem h1)
  have l2 := h'.ok.row _ (List.getElem_mem h2)
  refine List.ext_getElem (by rw [l1, l2]) fun i h3 h4 => ?_
  refine Nat.eq_of_testBit_eq fun q => ?_
  rw [Bool.eq_iff_iff]
  have e1 : (E[n][i]).testBit q = true ↔ Der g w ⟨false, n⟩ i q := by
    rw [← h.iff n i q zo]
    constructor
    · intro hb; exact ⟨_, _, List.getElem?_eq_getElem h1, List.getElem?_eq_getElem h3, hb⟩
    · rintro ⟨row, x, r1, r2, r3⟩
      rw [List.getElem?_eq_getElem h1] at r1; cases r1
      rw [List.getElem?_eq_getElem h3] at r2; cases r2
      exact r3
  have e2 : (E'[n][i]).testBit q = true ↔ Der g w ⟨false, n⟩ i q := by
    rw [← h'.iff n i q zo]
    constructor
    · intro hb; exact ⟨_, _, List.getElem?_eq_getElem h2, List.getElem?_eq_getElem h4, hb⟩
    · rintro ⟨row, x, r1, r2, r3⟩
      rw [List.getElem?_eq_getElem h2] at r1; cases r1
      rw [List.getElem?_eq_getElem h4] at r2; cases r2
      exact r3
  rw [e1, e2]

section
variable {g : Gram} {w : List Nat} {most : Nat} {L : List Tree} {c : Int}

theorem WTrees.len (h : WTrees g w most L c) : L.length ≤ most := by
  rcases h.2 with ⟨_, rfl⟩ | ⟨_, rfl⟩ | ⟨E, S, hE, hst, hK, hF⟩
  · exact Nat.zero_le _
  · exact Nat.zero_le _
  · exact hF.len

theorem WTrees.cut {n : Nat} {K : List Tree} {c' : Int} (h : WTrees g w most L c) (h2 : WTrees g w n K c') (hmn : most ≤ n) : L = K.take most := by
  rcases h.2 with ⟨h1, rfl⟩ | ⟨rfl, rfl⟩ | ⟨E, S, hE, hst, hK, hF⟩
  · rcases h2.2 with ⟨_, rfl⟩ | ⟨_, rfl⟩ | ⟨E', S', hE', hst', _⟩
    · simp
    · simp
    · rw [h1 E' hE'] at hst'; cases hst'
  · simp
  · rcases h2.2 with ⟨g1, _⟩ | ⟨rfl, rfl⟩ | ⟨E', S', hE', hst', hK', hF'⟩
    · rw [g1 E hE] at hst; cases hst
    · have := hF.len
      obtain rfl : L = [] := List.eq_nil_of_length_eq_zero zo
      simp
    · obtain rfl := ends_uniqT hE hE'
      obtain rfl := keys_uniq hK hK'
      exact firsts_prefix hF hF' hmn

theorem WTrees.cuniq {n : Nat} {K : List Tree} {c' : Int} (h : WTrees g w most L c) (h2 : WTrees g w n K c') : c = c' :=
  CountVal.uniq (fun d => symT_mono g w d _ _ _) h.1 h2.1
end

/-! ### core.Trees of a word's forest -/
theorem ctreesNone_spec (F : Frz) (m : Nat) : Abs.Spec CC 68 [.agg ⟨[.slice none 0 0, .int .i64 (-1)]⟩, .int .i64 (m : Nat)] F [] fun F' v o => o = [] ∧ v = .tuple ⟨[.slice none 0 0, .bool true]⟩ := by
  refine Abs.Spec.fn (n := 161) Tryz.func68 rfl rfl fun own => ?_
  refine AW.seq (AW.reg ?_)
  refine WT.boxT zr zr zr zr zr zr (fun i2 hi2 => ?_)
  refine zA ?_; refine zl hT 0 zr zr zr zr zr zr me zr ?_; refine zA ?_; (iterate 2 refine zx zr zr zr zr ?_); refine zA ?_
  refine AW.cond rfl (fun _ => ?_) (fun h => (by cases h))
  refine zA ?_
  exact AW.ret ⟨_, [], ⟨_, _, rfl, ⟨_, _, rfl, rfl, rfl⟩, rfl⟩, zsb, rfl, rfl⟩

theorem ctreesZero_spec (F : Frz) (na : Option Addr) (nn nc root : Nat) : Abs.Spec CC 68 [.agg ⟨[.slice na nn nc, .int .i64 root]⟩, .int .i64 ((0 : Nat) : Int)] F [] fun F' v o => o = [] ∧ v = .tuple ⟨[.slice none 0 0, .bool true]⟩ := by
  refine Abs.Spec.fn (n := 161) Tryz.func68 rfl rfl fun own => ?_
  refine AW.seq (AW.reg ?_)
  refine WT.boxT zr zr zr zr zr zr (fun i2 hi2 => ?_)
  refine zA ?_; refine zl hT 0 zr zr zr zr zr zr me zr ?_; refine zA ?_
  refine AW.cond rfl (fun _ => ?_) (fun h => (by cases h))
  refine zA ?_
  exact AW.ret ⟨_, [], ⟨_, _, rfl, ⟨_, _, rfl, rfl, rfl⟩, rfl⟩, zsb, rfl, rfl⟩

theorem Spec.addNil {f : FuncId} {args : List Value} {F : Frz} {P : Frz → Value → Prop} (h : Abs.Spec CC f args F [] fun F' v o => o = [] ∧ P F' v) : Abs.Spec CC f args F [] fun F' v o => o = [[]] ∧ P F' v := by
  intro own h0 hs
  obtain ⟨v, h', F', oout, h1, h2, h3, rfl, h4⟩ := h own h0 hs
  exact ⟨v, h', F', [[]], h1, h2, by simpa [St] using h3, rfl, h4⟩

theorem coreTrees_spec (F : Frz) (g : Gram) (hg : Valid g) {w : List Nat} (hw12 : w.length ≤ 12) {E : List (List Nat)} (hE : EndsOf g w E) {fa : Option Addr} {fn fc : Nat} {fr : Int} (hV : ForestV g w E F (.agg ⟨[.slice fa fn fc, .int .i64 fr]⟩)) {most : Nat} (hm : most ≤ 100) :
    Abs.Spec CC 68 [.agg ⟨[.slice fa fn fc, .int .i64 fr]⟩, .int .i64 (most : Nat)] F [] fun F' v o => ∃ B', o = [B'] ∧ ∃ L c, WTrees g w most L c ∧
      ((OkC most L c ∧ ∃ a n d B css bs, v = .tuple ⟨[.slice a n d, .bool true]⟩ ∧ B' = B ++ bs ∧ Bld tTC E0 a n d B css ∧ TOwnL css bs L) ∨ (FailC most L c ∧ v = .tuple ⟨[.slice none 0 0, .bool false]⟩)) := by
  rcases hV with ⟨hst, hv⟩ | ⟨hst, S, a, n, c, hv, hK, hA⟩
  · cases hv
    refine (Spec.addNil (ctreesNone_spec F most)).mono fun F' v o _ ⟨ho, hv⟩ => ⟨[], ho, [], 0, ⟨?_, .inl ⟨fun E' hE' => by rw [ends_uniqT hE' hE]; exact hst, rfl⟩⟩, .inl ⟨.inr ⟨by decide, by simp⟩, none, 0, 0, [], [], [], hv, rfl, Bld.nil_ _ _, .nil⟩⟩
    refine .inl ⟨0, still_zero fun d => ?_, rfl⟩
    rcases Nat.eq_zero_or_pos (symT g w d ⟨false, g.start⟩ 0 w.length) with e | e
    · exact e
    · have := (step_der hE (Nat.zero_le _)).2 (symT_der e)
      rw [hst] at this; cases this
  · cases hv
    have hroot := root_good hg w
    have hrm := hK.first
    have hpl := place_at hrm
    have hlt := (List.getElem?_eq_some_iff.1 hpl).1
    have e : (fun d => nodeT (S.map (mkNode g w E S)) d (place S (rootKey g w))) = fun d => symT g w d ⟨false, g.start⟩ 0 w.length := by
      funext d
      exact node_sym hg hE hK hroot hst d _ hrm
    have hok := nodes_ok hg hw12 hK hroot
    have hpr := nodes_prod hg hE hK hroot hst
    rcases Nat.eq_zero_or_pos most with h0 | h0
    · subst h0
      obtain ⟨cc, hcc⟩ : ∃ c, CountVal (fun d => symT g w d ⟨false, g.start⟩ 0 w.length) c := by
        by_cases hb : Unbound (fun d => symT g w d ⟨false, g.start⟩ 0 w.length)
        · exact ⟨-1, .inr ⟨hb, rfl⟩⟩
        · obtain ⟨n, hn⟩ := still_of_bound (fun d => symT_mono g w d ⟨false, g.start⟩ 0 w.length) hb
          exact ⟨_, .inl ⟨n, hn, rfl⟩⟩
      exact (Spec.addNil (ctreesZero_spec F fa fn fc _)).mono fun F' v o _ ⟨ho, hv⟩ => ⟨[], ho, [], cc, ⟨hcc, .inr (.inl ⟨rfl, rfl⟩)⟩, .inl ⟨.inl rfl, none, 0, 0, [], [], [], hv, rfl, Bld.nil_ _ _, .nil⟩⟩
    · refine (ctrees_spec F (fo_good hg hK hst) hok hpr hA (place S (rootKey g w)) (by rw [List.length_map]; exact hlt) (by rw [(foOf_at hpl).1]; rfl) (leaf_nopacks hK) ?_ h0 hm).mono fun F' v o _ ⟨B', ho, L, c, ⟨hF, hc⟩, hres⟩ => ⟨B', ho, L, c, ⟨by rw [← e]; exact hc, .inr (.inr ⟨E, S, hE, hst, hK, hF⟩)⟩, ?_⟩
      · have := pks_packSum (g := g) (w := w) (E := E) (S := S) S
        unfold pks
        rw [List.take_length, List.map_map]
        show (S.map fun k => (mkNode g w E S k).packs.length).sum ≤ _
        rw [this]
        exact Nat.le_trans (few_packs hg hw12 hK.nodup hK.reach) (by decide)
      · rcases hres with ⟨h1, h2⟩ | ⟨h1, h2, h3⟩
        · exact .inl ⟨h1, h2⟩
        · exact .inr ⟨⟨h1, h2⟩, h3⟩

/-! ### mean.Trees, and equal trees -/
def TreesRes (g : Gram) (w : List Nat) (most : Nat) (v : Value) (o : List (List (Nat × Blk))) : Prop :=
  ∃ B', o = [B'] ∧ ∃ L c, WTrees g w most L c ∧
      ((OkC most L c ∧ ∃ a n d B css bs, v = .tuple ⟨[.slice a n d, .int .i64 0]⟩ ∧ B' = B ++ bs ∧ Bld tTC E0 a n d B css ∧ TOwnL css bs L) ∨ (FailC most L c ∧ v = .tuple ⟨[.slice none 0 0, .int .i64 2]⟩))

theorem mtrees_spec (F : Frz) (hL : Laid F) (g : Gram) (hg : Valid g) {ga : Option Addr} {gm gc : Nat} (hr : Arr tRule F ga gm gc g.rules) {b : Option Addr} {n d : Nat} {w : List Nat} (hw : Arr tNat F b n d w) (hw12 : w.length ≤ 12) (hw2 : ∀ t ∈ w, t < g.terms) {most : Nat} (hm : most ≤ 100) :
    Abs.Spec CC 26 [.agg ⟨gramCells g ga gm gc⟩, .slice b n d, .int .i64 (most : Nat)] F [] fun F' v o => TreesRes g w most v o := by
  unfold gramCells
  refine Abs.Spec.fn (n := 34) Tryz.func26 rfl rfl fun own => ?_
  refine AW.seq (AW.reg ?_)
  refine WT.boxT zr zr zr zr zr zr (fun i3 hi3 => ?_)
  refine zA ?_; refine zl hT 0 zr zr zr zr zr zr me zr ?_; refine zA ?_
  refine WT.callV Tryz.func66 zr zr zr zr zr zr (mcheck_spec _ g hg hr hw hw12 hw2) (fun v hv => ?_)
  subst hv
  refine zA ?_
  refine AW.cond rfl (fun h => (by cases h)) (fun h => ?_)
  refine zA ?_
  refine AW.cond rfl (fun h => (by exfalso; simp at h; omega)) (fun h => ?_)
  refine zA ?_; refine zl hT 0 zr zr zr zr zr zr me zr ?_; refine zA ?_
  refine WT.callF0 Tryz.func67 zr zr zr zr zr zr (meanOf_spec _ hL g hg hr hw hw12) (fun F2 v hF2 hv => ?_)
  obtain ⟨E, hE, hv⟩ := hv
  have hform : ∃ fa fn fc fr, v = .agg ⟨[.slice fa fn fc, .int .i64 fr]⟩ := by
    rcases hv with ⟨_, rfl⟩ | ⟨_, S, a, n', c, rfl, _⟩
    · exact ⟨_, _, _, _, rfl⟩
    · exact ⟨_, _, _, _, rfl⟩
  obtain ⟨fa, fn, fc, fr, rfl⟩ := hform
  refine zA ?_
  refine WT.callN Tryz.func68 zr zr zr zr zr zr (coreTrees_spec _ g hg hw12 hE hv hm) (fun F3 v B3 hF3 hv3 => ?_)
  obtain ⟨L, c, hW, hres⟩ := hv3
  rcases hres with ⟨hok, a, n', d', B, css, bs, rfl, rfl, hB, hT'⟩ | ⟨hf, rfl⟩
  · refine zA ?_
    refine AW.cond rfl (fun h => (by cases h)) (fun h => ?_)
    refine zA ?_
    refine AW.ret ⟨_, [_], ⟨_, _, rfl, ⟨_, _, rfl, rfl, rfl⟩, rfl⟩, List.Sublist.cons_cons _ zsb, _, rfl, L, c, hW, .inl ⟨hok, _, _, _, _, _, _, rfl, rfl, hB, hT'⟩⟩
  · refine zA ?_
    refine AW.cond rfl (fun _ => ?_) (fun h => (by cases h))
    refine zA ?_
    refine AW.ret ⟨_, [_], ⟨_, _, rfl, ⟨_, _, rfl, rfl, rfl⟩, rfl⟩, List.Sublist.cons_cons _ zsb, _, rfl, L, c, hW, .inr ⟨hf, rfl⟩⟩

theorem treeEqF_spec (F : Frz) {a b : Option Addr} {m c d : Nat} {xs : List Tree} (hx : Arr tTree F a m c xs) (hy : Arr tTree F b m d xs) (hm : m ≤ 1000000)
    (hcmp : ∀ G lx ly (x : Tree), x ∈ xs → tTree.rel G lx x → tTree.rel G ly x → Abs.Spec CC 29 [.agg ⟨lx⟩, .agg ⟨ly⟩] G [] fun _ v o => o = [] ∧ v = .bool true) :
    Abs.Spec CC 28 [.slice a m c, .slice b m d, .func (.func 29) ⟨[]⟩ ⟨[]⟩] F [] fun _ v o => o = [] ∧ v = .bool true := by
  refine Abs.Spec.fn (n := 32) Tryz.func28 rfl rfl fun own => ?_
  have hxlen := hx.len
  refine zA ?_
  refine AW.cond rfl (fun h => (by exfalso; simp at h)) (fun _ => ?_)
  refine zA ?_
  refine AW.range (S := Unit) (fun _ => []) (fun _ => own) (fun j _ G => True) m () zr zr zr zr zr zr zr zr zr zo rfl rfl (fun _ => rfl) (fun _ => rfl) (SubK.of_map rfl) (OwnLe.refl _) trivial ?_ ?_
  · intro j _ F1 hF1 hj hP
    have hx1 := hx.mono hF1
    have hy1 := hy.mono hF1
    refine zA ?_
    refine WT.idxL hT hx1 zr zr zr zr zr zr zr zr zr zo (fun x hxj b1 off ro cs lx hb hp1 hrel => ?_)
    have hrelx := hrel
    obtain ⟨xr, xt, xks⟩ := x
    obtain ⟨xa, xn, xc, rfl, _⟩ := tTree_cases hrel
    refine zi (fo := 0) hT (by assumption) (by assumption) zr zr zr zr zr zr ?_
    refine WT.allocT hT zr zr zr zr zr zr (fun i8 hi8 => ?_)
    refine zA ?_; refine zs hT 0 0 zr zr zr zr zr zr zr zr zr zr zr zr ?_; refine zA ?_
    refine WT.idxL hT hy1 zr zr zr zr zr zr zr zr zr zo (fun y hyj b2 off2 ro2 cs2 ly hb2 hp2 hrel => ?_)
    obtain rfl : y = .mk xr xt xks := by rw [hxj] at hyj; exact (Option.some.inj hyj).symm
    have hrely := hrel
    obtain ⟨ya, yn, yc, rfl, _⟩ := tTree_cases hrel
    refine zi (fo := 0) hT (by assumption) (by assumption) zr zr zr zr zr zr ?_
    refine WT.allocT hT zr zr zr zr zr zr (fun i9 hi9 => ?_)
    refine zs hT 0 0 zr zr zr zr zr zr zr zr zr zr zr zr ?_; refine zA ?_; refine zl hT 1 zr zr zr zr zr zr me zr ?_; refine zl hT 0 zr zr zr zr zr zr me zr ?_
    refine WT.callC Tryz.func29 zr zr zr zr zr zr zr zr (hcmp _ _ _ _ (List.mem_of_getElem? hxj) hrelx hrely) (fun v hv => ?_)
    subst hv
    refine zA ?_
    refine AW.cond rfl (fun h => (by cases h)) (fun _ => ?_)
    refine AW.skip ?_
    exact ⟨(), SubK.of_map rfl, OwnLe.skip _ (OwnLe.skip _ (OwnLe.refl _)), trivial⟩
  · intro _ F1 hF1 hP
    refine zA ?_
    exact AW.ret ⟨_, [], ⟨_, _, rfl, rfl, rfl⟩, zsb, rfl, rfl⟩

theorem sameTree_spec : ∀ (N : Nat) (F : Frz) (lx ly : List Value) (x : Tree), x.pre.length < N → tTree.rel F lx x → tTree.rel F ly x → Abs.Spec CC 29 [.agg ⟨lx⟩, .agg ⟨ly⟩] F [] fun _ v o => o = [] ∧ v = .bool true
  | 0, _, _, _, _, h, _, _ => by omega
  | N + 1, F, lx, ly, .mk r t ks, hN, hx, hy => by
    obtain ⟨xa, xn, xc, rfl, hxa, hkb⟩ := tTree_cases hx
    obtain ⟨ya, yn, yc, rfl, hya, _⟩ := tTree_cases hy
    obtain rfl : yn = xn := by rw [hxa.len, hya.len]
    have hxl := hxa.len
    have hpe : (Tree.mk r t ks).pre.length = (preL ks).length + 1 := rfl
    refine Abs.Spec.fn (n := 24) Tryz.func29 rfl rfl fun own => ?_
    refine AW.seq (AW.reg ?_)
    refine WT.boxT zr zr zr zr zr zr (fun i2 hi2 => ?_)
    refine WT.boxT zr zr zr zr zr zr (fun i3 hi3 => ?_)
    refine zA ?_; refine zl hT 1 zr zr zr zr zr zr me zr ?_; refine zA ?_; refine zl hT 0 zr zr zr zr zr zr me zr ?_; refine zA ?_
    refine WT.know (v' := .bool true) 10 rfl (by congr 1; simp) ?_
    refine zA ?_; refine zl hT 1 zr zr zr zr zr zr me zr ?_; refine zA ?_; refine zl hT 0 zr zr zr zr zr zr me zr ?_; refine zA ?_
    refine WT.know (v' := .bool true) 17 rfl (by congr 1; simp) ?_
    refine zA ?_; refine zl hT 1 zr zr zr zr zr zr me zr ?_; refine zA ?_; refine zl hT 0 zr zr zr zr zr zr me zr ?_
    refine WT.callV Tryz.func28 zr zr zr zr zr zr (treeEqF_spec _ hxa hya zo (fun G lx ly x hm h1 h2 => sameTree_spec N G lx ly x (by have := preL_mem hm; omega) h1 h2)) (fun v hv => ?_)
    subst hv
    refine zA ?_
    exact AW.ret ⟨_, [], ⟨_, _, rfl, rfl, rfl⟩, zsb, rfl, rfl⟩

theorem sameTrees_spec (F : Frz) {a b : Option Addr} {m c d : Nat} {xs : List Tree} (hx : Arr tTree F a m c xs) (hy : Arr tTree F b m d xs) (hm : m ≤ 1000000) :
    Abs.Spec CC 28 [.slice a m c, .slice b m d, .func (.func 29) ⟨[]⟩ ⟨[]⟩] F [] fun _ v o => o = [] ∧ v = .bool true :=
  treeEqF_spec F hx hy hm fun G lx ly x _ h1 h2 => sameTree_spec _ G lx ly x (Nat.lt_succ_self _) h1 h2

/-! ### few packs in a short word -/
theorem splits_few {w : List Nat} {E : List (List Nat)} {to : Nat} : ∀ {l : List Sym} {i : Nat}, (splits w E to l i).length ≤ (to + 1) ^ (l.length - 1)
  | [], i => by
    unfold splits
    split <;> simp
  | [s], i => by
    unfold splits
    have : ∀ n, ((List.range n).flatMap fun m => if stepB w E s i m = true then (splits w E to [] m).map (⟨s, i, m⟩ :: ·) else []).length ≤ if to < n then 1 else 0 := by
      intro n
      induction n with
      | zero => simp
      | succ n ih =>
        rw [List.range_succ, List.flatMap_append, List.length_append]
        have h1 : ([n].flatMap fun m => if stepB w E s i m = true then (splits w E to [] m).map (⟨s, i, m⟩ :: ·) else []).length ≤ if n = to then 1 else 0 := by
          rw [List.flatMap_cons, List.flatMap_nil, List.append_nil]
          split
          · rw [List.length_map]
            unfold splits
            split <;> simp
          · simp
        split at ih <;> split at h1 <;> split <;> omega
    refine Nat.le_trans (this (to + 1)) ?_
    simp
  | s :: t :: l, i => by
    unfold splits
    have : ∀ n, ((List.range n).flatMap fun m => if stepB w E s i m = true then (splits w E to (t :: l) m).map (⟨s, i, m⟩ :: ·) else []).length ≤ n * (to + 1) ^ l.length := by
      intro n
      induction n with
      | zero => simp
      | succ n ih =>
        rw [List.range_succ, List.flatMap_append, List.length_append, Nat.add_mul, Nat.one_mul]
        refine Nat.add_le_add ih ?_
        rw [List.flatMap_cons, List.flatMap_nil, List.append_nil]
        split
        · rw [List.length_map]
          exact splits_few (l := t :: l)
        · simp
    refine Nat.le_trans (this (to + 1)) ?_
    show _ ≤ (to + 1) ^ (l.length + 1)
    rw [Nat.pow_succ, Nat.mul_comm]
    exact Nat.le_refl _

theorem sum_add {α : Type} (f h : α → Nat) : ∀ l : List α, (l.map fun x => f x + h x).sum = (l.map f).sum + (l.map h).sum
  | [] => rfl
  | x :: l => by
    rw [List.map_cons, List.map_cons, List.map_cons, List.sum_cons, List.sum_cons, List.sum_cons, sum_add f h l]
    omega

theorem sum_some {α : Type} (p : α → Bool) (f : α → Nat) (M : Nat) : ∀ l : List α, (∀ x ∈ l, f x ≤ M) → (∀ x ∈ l, p x = false → f x = 0) → (l.map f).sum ≤ (l.filter p).length * M
  | [], _, _ => by simp
  | x :: l, h, h2 => by
    have ih := sum_some p f M l (fun y hy => h y (List.mem_cons_of_mem _ hy)) (fun y hy => h2 y (List.mem_cons_of_mem _ hy))
    have h3 := h x (List.mem_cons_self ..)
    rw [List.map_cons, List.sum_cons]
    cases hp : p x with
    | true =>
      rw [List.filter_cons_of_pos hp, List.length_cons, Nat.add_mul, Nat.one_mul]
      omega
    | false =>
      rw [List.filter_cons_of_neg (by simp [hp]), h2 x (List.mem_cons_self ..) hp]
      omega

theorem sum_none {α : Type} {f : α → Nat} : ∀ {l : List α}, (∀ x ∈ l, f x = 0) → (l.map f).sum = 0
  | [], _ => rfl
  | x :: l, h => by
    rw [List.map_cons, List.sum_cons, h x (List.mem_cons_self ..), sum_none fun y hy => h y (List.mem_cons_of_mem _ hy)]

theorem packs_small {g : Gram} (hs : Small g) {w : List Nat} (hw : w.length ≤ 5) {E : List (List Nat)} {L : List Key} (hn : L.Nodup) (hL : ∀ k ∈ L, GoodKey g w k) : packSum g w E L ≤ 20000 := by
  have key : ∀ i, (L.map fun k => (packsAt g w E k i).length).sum ≤ 1296 := by
    intro i
    cases hr : g.rules[i]? with
    | none =>
      have : (L.map fun k => (packsAt g w E k i).length).sum = 0 := by
        refine sum_none fun k _ => ?_
        unfold packsAt
        rw [hr]; rfl
      omega
    | some r =>
      have hok := hs.ok r (List.mem_of_getElem? hr)
      refine Nat.le_trans (sum_some (fun k => decide (k.sym = ⟨false, r.left⟩)) _ 36 L (fun k hk => ?_) (fun k hk hp => ?_)) ?_
      · unfold packsAt
        rw [hr]
        show (if r.left = k.sym.n ∧ k.sym.term = false then (splits w E k.to r.right k.frm).map (KPack.mk i) else []).length ≤ 36
        split
        · rw [List.length_map]
          refine Nat.le_trans splits_few ?_
          have h1 := (hL k hk).2.2
          refine Nat.le_trans (Nat.pow_le_pow_left (show k.to + 1 ≤ 6 by omega) _) ?_
          exact Nat.pow_le_pow_right (n := 6) (by decide) (show r.right.length - 1 ≤ 2 by have := hok.2.1; omega)
        · simp
      · unfold packsAt
        rw [hr]
        show (if r.left = k.sym.n ∧ k.sym.term = false then (splits w E k.to r.right k.frm).map (KPack.mk i) else []).length = 0
        rw [if_neg ?_]
        · rfl
        · rintro ⟨h1, h2⟩
          have : k.sym ≠ ⟨false, r.left⟩ := by simpa using hp
          apply this
          obtain ⟨⟨b, n⟩, _, _⟩ := k
          simp only at h1 h2
          rw [h1, h2]
      · have hc : (L.filter fun k => decide (k.sym = ⟨false, r.left⟩)).length ≤ 36 := by
          have h := nodup_lt 36 ((L.filter fun k => decide (k.sym = ⟨false, r.left⟩)).map fun k => k.frm * 6 + k.to) ?_ ?_
          · rwa [List.length_map] at h
          · rw [List.nodup_iff_pairwise_ne, List.pairwise_map]
            refine (List.nodup_iff_pairwise_ne.1 (hn.filter _)).imp_of_mem ?_
            intro a b ha hb hne he
            apply hne
            obtain ⟨a1, a2⟩ := List.mem_filter.1 ha
            obtain ⟨b1, b2⟩ := List.mem_filter.1 hb
            have a3 := (hL a a1).2
            have b3 := (hL b b1).2
            obtain ⟨sa, af, ao⟩ := a
            obtain ⟨sb, bf, bo⟩ := b
            have a2 : sa = ⟨false, r.left⟩ := by simpa using a2
            have b2 : sb = ⟨false, r.left⟩ := by simpa using b2
            simp only at he a3 b3
            simp only [Key.mk.injEq]
            exact ⟨by rw [a2, b2], by omega, by omega⟩
          · intro x hx
            obtain ⟨k, hk, rfl⟩ := List.mem_map.1 hx
            have h1 := (hL k (List.mem_filter.1 hk).1).2
            omega
        omega
  have all : ∀ n, (L.map fun k => ((List.range n).flatMap (packsAt g w E k)).length).sum ≤ n * 1296 := by
    intro n
    induction n with
    | zero =>
      have : (L.map fun k => ((List.range 0).flatMap (packsAt g w E k)).length).sum = 0 := by
        exact sum_none fun k _ => rfl
      omega
    | succ n ih =>
      have e : (fun k => ((List.range (n + 1)).flatMap (packsAt g w E k)).length) = fun k => ((List.range n).flatMap (packsAt g w E k)).length + (packsAt g w E k n).length := by
        funext k
        rw [List.range_succ, List.flatMap_append, List.length_append, List.flatMap_cons, List.flatMap_nil, List.append_nil]
      rw [e, sum_add, Nat.add_mul, Nat.one_mul]
      exact Nat.add_le_add ih (key n)
  have := all g.rules.length
  unfold packSum packsOf
  have := hs.rules.2
  have : g.rules.length * 1296 ≤ 8 * 1296 := Nat.mul_le_mul_right _ this
  omega

/-! ### every place of the word is a leaf of the forest -/
section
variable {g : Gram} {w : List Nat} {E : List (List Nat)} {root : Key} {S : List Key}

mutual
theorem der_keys (hE : EndsOf g w E) (hK : Keys g w E root S) : ∀ {s : Sym} {i j : Nat}, Der g w s i j → j ≤ w.length → ⟨s, i, j⟩ ∈ S → ∀ p, i ≤ p → p < j → ∃ t, w[p]? = some t ∧ (⟨⟨true, t⟩, p, p + 1⟩ : Key) ∈ S
  | _, i, _, .term h, hj, hS, p, h1, h2 => by
    obtain rfl : p = i := by omega
    exact ⟨_, h, hS⟩
  | _, i, j, .non (r := r) hr hd, hj, hS, p, h1, h2 => by
    obtain ⟨ks, hks, hall⟩ := ders_keys hE hK hd hj
    obtain ⟨q, hq⟩ := List.getElem?_of_mem hr
    have hp : (⟨q, ks⟩ : KPack) ∈ packsOf g w E ⟨⟨false, r.left⟩, i, j⟩ := mem_packsOf.2 ⟨r, hq, rfl, rfl, hks⟩
    exact hall (fun x hx => hK.closed _ hS _ hp x hx) p h1 h2
theorem ders_keys (hE : EndsOf g w E) (hK : Keys g w E root S) : ∀ {l : List Sym} {i j : Nat}, Ders g w l i j → j ≤ w.length → ∃ ks ∈ splits w E j l i, ((∀ x ∈ ks, x ∈ S) → ∀ p, i ≤ p → p < j → ∃ t, w[p]? = some t ∧ (⟨⟨true, t⟩, p, p + 1⟩ : Key) ∈ S)
  | _, i, _, .nil, hj => ⟨[], by unfold splits; simp, fun _ p h1 h2 => by omega⟩
  | _, i, j, .cons (s := s) (l := l) (m := m) h1 h2, hj => by
    obtain ⟨ks, hks, hall⟩ := ders_keys hE hK h2 hj
    have him := der_le h1
    have hmj : m ≤ j := ders_le h2
    refine ⟨⟨s, i, m⟩ :: ks, ?_, fun hS p hp1 hp2 => ?_⟩
    · unfold splits
      refine List.mem_flatMap.2 ⟨m, List.mem_range.2 zo, ?_⟩
      rw [if_pos ((step_der hE zo).2 h1)]
      exact List.mem_map.2 ⟨ks, hks, rfl⟩
    · rcases Nat.lt_or_ge p m with h | h
      · exact der_keys hE hK h1 zo (hS _ (List.mem_cons_self ..)) p hp1 h
      · exact hall (fun x hx => hS x (List.mem_cons_of_mem _ hx)) p h hp2
end

theorem leaf_at (hE : EndsOf g w E) (hK : Keys g w E (rootKey g w) S) (hst : stepB w E ⟨false, g.start⟩ 0 w.length = true) {p : Nat} (hp : p < w.length) : ∃ t, w[p]? = some t ∧ (⟨⟨true, t⟩, p, p + 1⟩ : Key) ∈ S :=
  der_keys hE hK ((step_der hE (Nat.zero_le _)).1 hst) (Nat.le_refl _) hK.first p (Nat.zero_le _) hp

theorem leaf_is (hK : Keys g w E (rootKey g w) S) (hst : stepB w E ⟨false, g.start⟩ 0 w.length = true) {k : Key} (hk : k ∈ S) (ht : k.sym.term = true) : w[k.frm]? = some k.sym.n := by
  have h := (hK.reach k hk).step (root := rootKey g w) hst
  have h2 := stepB_iff.1 h
  unfold Step at h2
  rw [if_pos ht] at h2
  exact h2.1
end

/-- What a forest's own word is, as far as its leaves are seen. -/
structure WordSeen (w : List Nat) (N : List Key) (j : Nat) (xs : List Int) : Prop where
  len : xs.length = w.length
  seen : ∀ q k, q < j → N[q]? = some k → k.sym.term = true → xs[k.frm]? = some (k.sym.n : Int)

theorem WordSeen.mono {w : List Nat} {N : List Key} {j : Nat} {xs : List Int} (h : WordSeen w N j xs) (h2 : ∀ k, N[j]? = some k → k.sym.term = false) : WordSeen w N (j + 1) xs :=
  ⟨h.len, fun q k hq hk ht => by
    rcases Nat.lt_or_ge q j with h3 | h3
    · exact h.seen q k h3 hk ht
    · obtain rfl : q = j := by omega
      rw [h2 k hk] at ht; cases ht⟩

theorem WordSeen.put {w : List Nat} {N : List Key} {j : Nat} {xs : List Int} (h : WordSeen w N j xs) {k : Key} (hk : N[j]? = some k) (hlt : k.frm < w.length) (hw : ∀ k ∈ N, k.sym.term = true → w[k.frm]? = some k.sym.n) (ht : k.sym.term = true) : WordSeen w N (j + 1) (xs.set k.frm k.sym.n) :=
  ⟨by rw [List.length_set]; exact h.len, fun q k2 hq hk2 ht2 => by
    by_cases e : k.frm = k2.frm
    · rw [← e, List.getElem?_set_self (by rw [h.len]; exact hlt)]
      have h1 := hw k (List.mem_of_getElem? hk) ht
      have h2 := hw k2 (List.mem_of_getElem? hk2) ht2
      rw [e, h2] at h1
      rw [Option.some.inj h1]
    · rw [List.getElem?_set_ne e]
      rcases Nat.lt_or_ge q j with h3 | h3
      · exact h.seen q k2 h3 hk2 ht2
      · obtain rfl : q = j := by omega
        rw [hk] at hk2
        cases hk2
        exact absurd rfl e⟩

theorem arr_nats {F : Frz} {a : Option Addr} {n c : Nat} {xs : List Int} {w : List Nat} (h : Arr tInt F a n c xs) (hl : xs.length = w.length) (hx : ∀ (p t : Nat), w[p]? = some t → xs[p]? = some (t : Int)) : Arr tNat F a n c w :=
  ⟨by rw [h.len, hl], h.cap, h.zero, h.nil, h.spot, fun j x hj => h.el j x (hx j x hj)⟩

/-! ### products of small numbers -/
theorem mask32 {x : Nat} (h : x < 4294967296) : intBinA .and .u64 (x : Int) 4294967295 = some (.int .u64 (x : Int)) := by
  have := and64 (x := x) (y := 4294967295) zo (by decide)
  rw [show x &&& 4294967295 = x by
    have := Nat.and_two_pow_sub_one_eq_mod x 32
    rw [show 2 ^ 32 - 1 = 4294967295 from rfl] at this
    rw [this]; exact Nat.mod_eq_of_lt h] at this
  exact this
theorem sh32z {x : Nat} (h : x < 4294967296) : shiftA .shr .u64 (x : Int) 32 = some (.int .u64 0) := by
  have := shr64 (x := x) (y := 32) (by decide)
  rw [Nat.div_eq_of_lt (by exact h)] at this
  exact this
theorem mulz (y : Nat) : intBinA .mul .u64 0 (y : Int) = some (.int .u64 0) := by
  have := mul64 0 y; rw [Nat.zero_mul] at this; exact this
theorem zmul (y : Nat) : intBinA .mul .u64 (y : Int) 0 = some (.int .u64 0) := by
  have := mul64 y 0; rw [Nat.mul_zero] at this; exact this
theorem muls {x y : Nat} (h : x * y < 18446744073709551616) : intBinA .mul .u64 (x : Int) (y : Int) = some (.int .u64 ((x * y : Nat) : Int)) := by
  rw [mul64, Nat.mod_eq_of_lt h]

theorem mul64_spec (F : Frz) (x y : Nat) (hx : x < 65536) (hy : y < 65536) : Abs.Spec CC 169 [.int .u64 x, .int .u64 y] F [] fun _ v o => o = [] ∧ v = .tuple ⟨[.int .u64 0, .int .u64 ((x * y : Nat) : Int)]⟩ := by
  have hxy : x * y < 4294967296 := Nat.mul_lt_mul'' hx hy
  refine Abs.Spec.fn (n := 51) Tryz.func169 rfl rfl fun own => ?_
  refine zA ?_
  refine WT.binV zr zr zr zr zr zr (by decide) (mask32 zo) ?_
  refine zA ?_
  refine WT.shV zr zr zr zr zr zr (by decide) (sh32z zo) ?_
  refine zA ?_
  refine WT.binV zr zr zr zr zr zr (by decide) (mask32 zo) ?_
  refine zA ?_
  refine WT.shV zr zr zr zr zr zr (by decide) (sh32z zo) ?_
  refine zA ?_
  refine WT.binV zr zr zr zr zr zr (by decide) (muls zo) ?_
  refine zA ?_
  refine WT.binV zr zr zr zr zr zr (by decide) (mulz y) ?_
  refine zA ?_
  refine WT.shV zr zr zr zr zr zr (by decide) (sh32z hxy) ?_
  refine WT.binV (v := .int .u64 0) zr zr zr zr zr zr (by decide) rfl ?_
  refine zA ?_
  refine WT.binV (v := .int .u64 0) zr zr zr zr zr zr (by decide) rfl ?_
  refine zA ?_
  refine WT.shV (v := .int .u64 0) zr zr zr zr zr zr (by decide) rfl ?_
  refine zA ?_
  refine WT.binV zr zr zr zr zr zr (by decide) (zmul x) ?_
  refine WT.binV (v := .int .u64 0) zr zr zr zr zr zr (by decide) rfl ?_
  refine zA ?_
  refine WT.binV (v := .int .u64 0) zr zr zr zr zr zr (by decide) rfl ?_
  refine zA ?_
  refine WT.binV (v := .int .u64 0) zr zr zr zr zr zr (by decide) rfl ?_
  refine zA ?_
  refine WT.shV (v := .int .u64 0) zr zr zr zr zr zr (by decide) rfl ?_
  refine WT.binV (v := .int .u64 0) zr zr zr zr zr zr (by decide) rfl ?_
  refine zA ?_
  refine WT.binV zr zr zr zr zr zr (by decide) (muls zo) ?_
  refine zA ?_
  exact AW.ret ⟨_, [], ⟨_, _, rfl, ⟨_, _, rfl, rfl, rfl⟩, rfl⟩, zsb, rfl, rfl⟩

theorem mul_spec (F : Frz) (x y : Nat) (hx : x < 65536) (hy : y < 65536) : Abs.Spec CC 135 [.int .u64 x, .int .u64 y] F [] fun _ v o => o = [] ∧ v = .tuple ⟨[.int .u64 0, .int .u64 ((x * y : Nat) : Int)]⟩ := by
  refine Abs.Spec.fn (n := 30) Tryz.func135 rfl rfl fun own => ?_
  refine zA ?_
  refine AW.cond rfl (fun h => (by cases h)) (fun _ => ?_)
  refine zA ?_
  refine WT.callV Tryz.func169 zr zr zr zr zr zr (mul64_spec _ x y hx hy) (fun v hv => ?_)
  subst hv
  refine zA ?_
  exact AW.ret ⟨_, [], ⟨_, _, rfl, ⟨_, _, rfl, rfl, rfl⟩, rfl⟩, zsb, rfl, rfl⟩

theorem repeat_spec (F : Frz) {b : Nat} {ro : Bool} {z : Int} (hb : F b = some (.cells ro [.int .i64 z])) (n : Nat) (hn : n < 65536) :
    Abs.Spec CC 98 [.slice (some ⟨b, 0, none⟩) 1 1, .int .i64 n] F [] fun F' v o => ∃ B', o = [B'] ∧ ∃ i, v = .slice (some ⟨i, 0, none⟩) n (bif n == 0 then 0 else 1) ∧ B' = [(i, .cells false (List.replicate n (.int .i64 z)))] := by
  refine Abs.Spec.fn (n := 48) Tryz.func98 rfl rfl fun own => ?_
  refine zA ?_
  refine AW.cond rfl (fun h => (by simp at h; omega)) (fun _ => ?_)
  refine zA ?_
  refine WT.conv hT (k2 := .u64) zr zr zr zr zr zr zr zr (wrapU64 (by decide)) ?_
  refine zA ?_
  refine WT.conv hT (k2 := .u64) zr zr zr zr zr zr zr zr (wrapU64 zo) ?_
  refine WT.callV Tryz.func135 zr zr zr zr zr zr (mul_spec _ 1 n (by decide) hn) (fun v hv => ?_)
  rw [Nat.one_mul] at hv
  subst hv
  (iterate 5 (refine WT.easy hT zr zr zr zr zr ?_))
  refine WT.nil ?_
  refine AW.seq (AW.seq (AW.reg ?_))
  (iterate 4 (refine WT.easy hT zr zr zr zr zr ?_))
  refine WT.binV (v := .bool false) zr zr zr zr zr zr (by decide) ?_ ?_
  · simp only [intBinA, Option.some.injEq, Value.bool.injEq, decide_eq_false_iff_not]; omega
  refine zA ?_
  refine AW.cond rfl (fun h => (by cases h)) (fun _ => ?_)
  refine zA ?_
  refine WT.conv hT (k2 := .i64) zr zr zr zr zr zr zr zr (wrap64 zo) ?_
  refine WT.makeT (by_ := 8) hT zr zr zr zr zr zr zr zr zr zr zr zr zo (fun i7 hi7 => ?_)
  refine zA ?_
  by_cases hn0 : n = 0
  · subst hn0
    refine WT.copy0 hT zr zr zr zr zr zr (fun p hp => by cases hp; rfl) zr zr zr zr ?_
    refine zA ?_
    refine AW.block ?_
    refine AW.loopR (S := Unit) (fun _ => []) (fun _ => _) (fun _ _ => True) (fun _ => 0) () (SubK.of_map rfl) (OwnLe.refl _) trivial ?_
    intro _ F2 hF2 _
    refine zA ?_
    refine AW.cond rfl (fun h => (by cases h)) (fun h => ?_)
    refine AW.exit ?_
    refine zA ?_
    exact AW.ret ⟨_, [_], ⟨_, _, rfl, rfl, rfl⟩, zsb, _, rfl, _, rfl, rfl⟩
  · have hmin : Nat.min 1 n = 1 := Nat.min_eq_left zo
    refine WT.copyOwn (m := 1) (new := [.int .i64 z]) hT 0 zr zr zr zr zr zr zr zr zr zr zr (fun h0 s0 => ?_) rfl (by simp) (by simp; omega) rfl ?_
    · rw [hmin]
      simp [firstA, cellsAt, s0.frz _ _ hb, partL]
    refine WT.know (v' := .int .i64 ((1 : Nat) : Int)) 33 rfl (by rw [hmin]) ?_
    refine zA ?_
    refine AW.block ?_
    refine AW.loopR (S := Nat) (fun j => [(8, .int .i64 (j : Nat))]) (fun j => [(i7, .cells false (List.replicate j (.int .i64 z) ++ List.replicate (n - j) (.int .i64 0)))] :: own) (fun j _ => 1 ≤ j ∧ j ≤ n) (fun j => n - j) 1
      (SubK.of_map rfl) (OwnLe.flat (List.Perm.of_eq ?_)) ⟨Nat.le_refl _, by omega⟩ ?_
    · have := spliceL_rep (x := .int .i64 z) (z := .int .i64 0) 0 n 1 zo
      simp only [List.replicate_zero, List.nil_append, Nat.zero_add] at this
      rw [← this]
      rfl
    intro j F2 hF2 ⟨hj1, hj2⟩
    refine zA ?_
    refine AW.cond rfl (fun h => ?_) (fun h => ?_)
    · have h : j < n := by simpa using h
      refine AW.skip ?_
      refine AW.block ?_
      refine AW.draw (ps := []) rfl rfl ?_
      refine zA ?_
      refine WT.slice zr zr zr zr zr zr zr zr (fun h0 => sliceA_some (lo := j) (hi := n) hT zr zr zr zr zr zo (Nat.le_refl _) (by cases n <;> simp) h0) ?_
      refine zA ?_
      refine WT.slice zr zr zr zr zr zr zr zr (fun h0 => sliceA_some (lo := 0) (hi := j) hT zr zr zr zr zr (Nat.zero_le _) zo (by cases n <;> simp) h0) ?_
      skip
      obtain ⟨q, hq⟩ : ∃ q, Nat.min (j - 0) (n - j) = q := ⟨_, rfl⟩
      have hq1 : q ≤ n - j := by rw [← hq]; exact Nat.min_le_right _ _
      have hq2 : q ≤ j := by rw [← hq]; exact Nat.min_le_left (j - 0) (n - j)
      have hq3 : 0 < q := by
        have : 0 < min (j - 0) (n - j) := by rw [Nat.lt_min]; omega
        rw [← hq]; exact this
      have hfit : 0 + j * 1 + (List.replicate q (Value.int .i64 z)).length ≤ (List.replicate j (Value.int .i64 z) ++ List.replicate (n - j) (Value.int .i64 0)).length := by
        simp only [List.length_append, List.length_replicate]; omega
      refine WT.copyOwn (m := j - 0) (new := List.replicate q (.int .i64 z)) hT 0 zr zr zr zr zr zr zr zr zr zr zr (fun h0 s0 => ?_) (by simp [Go.Abs.one]) (by intro e; have := congrArg List.length e; simp at this; omega) hfit rfl ?_
      · have hb2 := s0.has (p := 0) rfl (List.mem_cons_self ..)
        have e0 : (q == 0) = false := by simpa using Nat.ne_of_gt hq3
        rw [hq]
        simp only [firstA, e0, cond_false, cellsAt, hb2, Nat.mul_one]
        exact partL_rep _ _ _ hq2
      rw [show 0 + j * 1 = j by omega, spliceL_rep _ _ _ hq1, hq]
      refine WT.addT zr zr zr zr zr zr zo ?_
      refine WT.know (v' := .int .i64 ((j + q : Nat) : Int)) 46 rfl (by rw [Int.natCast_add]) ?_
      refine zA ?_; refine And.intro trivial ?_
      refine ⟨j + q, by omega, SubK.of_map rfl, OwnLe.flat (List.Perm.of_eq ?_), by omega, by omega⟩
      rw [show n - (j + q) = n - j - q by omega]
    · have h : j = n := by simp at h; omega
      subst h
      skip
      refine AW.exit ?_
      refine zA ?_
      rw [Nat.sub_self]
      simp only [List.replicate_zero, List.append_nil]
      exact AW.ret ⟨_, [_], ⟨_, _, rfl, rfl, rfl⟩, zsb, _, rfl, _, rfl, rfl⟩

theorem vec_rep {F : Frz} {i n : Nat} (z : Int) : Vec tInt F (some ⟨i, 0, none⟩) n (bif n == 0 then 0 else 1) [(i, .cells false (List.replicate n (.int .i64 z)))] (List.replicate n z) := by
  refine ⟨by simp, ?_, fun h => ?_, fun h => (by cases h), fun p hp => (by cases hp; rfl), .inr ⟨i, _, rfl, rfl, ?_, by decide⟩⟩
  · cases n <;> simp [tInt]
  · cases n with
    | zero => rfl
    | succ n => simp at h
  · induction n with
    | zero => exact .nil
    | succ n ih =>
      rw [List.replicate_succ, List.replicate_succ]
      exact Cells.cons (R := tInt) (l := [.int .i64 z]) rfl ih

structure LSt where
  O : List Int
  B : List (Nat × Blk)
  again : Bool

/-! ### forest.Check, forest.valid, forest.Count, forest.Trees of a word's own forest -/
/-- What forest.Of returns of a word with few packs. -/
structure FV (g : Gram) (w : List Nat) (F : Frz) (a : Option Addr) (n c : Nat) (r : Int) : Prop where
  res : ∃ E, EndsOf g w E ∧ MakeRes g w E F (.tuple ⟨[.agg ⟨[.slice a n c, .int .i64 r]⟩, .int .i64 0]⟩)

theorem FV.mono {g : Gram} {w : List Nat} {F G : Frz} {a : Option Addr} {n c : Nat} {r : Int} (h : FV g w F a n c r) (hF : Frz.le F G) : FV g w G a n c r := by
  obtain ⟨E, hE, h⟩ := h.res
  refine ⟨E, hE, ?_⟩
  rcases h with ⟨s, xa, xn, xc, xr, h1, h2, h3, h4⟩ | ⟨h1, _⟩
  · exact .inl ⟨s, xa, xn, xc, xr, h1, h2, h3.mono hF, h4⟩
  · cases h1

theorem FV.cases {g : Gram} {w : List Nat} {F : Frz} {a : Option Addr} {n c : Nat} {r : Int} (h : FV g w F a n c r) : ∃ E, EndsOf g w E ∧ ForestV g w E F (.agg ⟨[.slice a n c, .int .i64 r]⟩) := by
  obtain ⟨E, hE, h⟩ := h.res
  rcases h with ⟨s, xa, xn, xc, xr, h1, h2, h3, h4⟩ | ⟨h1, _⟩
  · cases h2
    exact ⟨E, hE, h3⟩
  · cases h1

theorem fcheck_spec (F : Frz) (hL : Laid F) (g : Gram) (hg : Valid g) {ga : Option Addr} {gm gc : Nat} (hr : Arr tRule F ga gm gc g.rules) {b : Option Addr} {n d : Nat} {w : List Nat} (hw : Arr tNat F b n d w) (hw12 : w.length ≤ 12) (hw2 : ∀ t ∈ w, t < g.terms)
    {fa : Option Addr} {fn fc : Nat} {fr : Int} (hf : FV g w F fa fn fc fr) :
    Abs.Spec CC 70 [.agg ⟨gramCells g ga gm gc⟩, .slice b n d, .agg ⟨[.slice fa fn fc, .int .i64 fr]⟩] F [] fun F' v o => o = [] ∧ v = .int .i64 0 := by
  unfold gramCells
  refine Abs.Spec.fn (n := 22) Tryz.func70 rfl rfl fun own => ?_
  refine AW.seq (AW.reg ?_)
  refine WT.boxT zr zr zr zr zr zr (fun i3 hi3 => ?_)
  refine WT.boxT zr zr zr zr zr zr (fun i5 hi5 => ?_)
  refine zA ?_; refine zl hT 1 zr zr zr zr zr zr me zr ?_; refine zA ?_
  refine WT.callF0 Tryz.func21 zr zr zr zr zr zr (forestOf_spec _ hL g hg hr hw hw12 hw2) (fun F1 v hF1 hv => ?_)
  obtain ⟨E, hE, hv⟩ := hv
  obtain ⟨E', hE', hv'⟩ := (hf.mono hF1).res
  obtain rfl := ends_uniqT hE hE'
  obtain ⟨xa, xn, xc, xr, xe, rfl⟩ := makeRes_form hv
  obtain ⟨rfl, rfl, rfl, hn, Ns, hNs, hA, hA'⟩ := makeRes_pair hg hw12 hv' hv
  refine zA ?_
  refine WT.allocT hT zr zr zr zr zr zr (fun i7 hi7 => ?_)
  refine zs hT 0 0 zr zr zr zr zr zr zr zr zr zr zr zr ?_; refine zA ?_
  refine AW.cond rfl (fun h => (by cases h)) (fun h => ?_)
  refine zA ?_; refine zl hT 1 zr zr zr zr zr zr me zr ?_; refine zl hT 0 zr zr zr zr zr zr me zr ?_
  refine WT.callV Tryz.func19 zr zr zr zr zr zr (same_spec _ hNs hn hA hA') (fun v hv => ?_)
  subst hv
  refine zA ?_
  refine AW.cond rfl (fun h => (by cases h)) (fun h => ?_)
  refine zA ?_
  exact AW.ret ⟨_, [], ⟨_, _, rfl, rfl, rfl⟩, zsb, rfl, rfl⟩

theorem fvalid_spec (F : Frz) (hL : Laid F) (g : Gram) (hg : Valid g) {ga : Option Addr} {gm gc : Nat} (hr : Arr tRule F ga gm gc g.rules) {w : List Nat} (hw12 : w.length ≤ 12) (hw2 : ∀ t ∈ w, t < g.terms)
    {fa : Option Addr} {fn fc : Nat} {fr : Int} (hf : FV g w F fa fn fc fr) :
    Abs.Spec CC 64 [.agg ⟨gramCells g ga gm gc⟩, .agg ⟨[.slice fa fn fc, .int .i64 fr]⟩] F [] fun F' v o => o = [] ∧ v = .int .i64 0 := by
  unfold gramCells
  obtain ⟨E, hE, hV⟩ := hf.cases
  refine Abs.Spec.fn (n := 83) Tryz.func64 rfl rfl fun own => ?_
  refine AW.seq (AW.reg ?_)
  refine WT.boxT zr zr zr zr zr zr (fun i2 hi2 => ?_)
  refine WT.boxT zr zr zr zr zr zr (fun i3 hi3 => ?_)
  refine zA ?_; refine zl hT 1 zr zr zr zr zr zr me zr ?_
  refine WT.callV Tryz.func97 zr zr zr zr zr zr (check_spec _ g hg.range hr) (fun v hv => ?_)
  rw [hg.no_err] at hv
  subst hv
  refine zA ?_
  refine AW.cond rfl (fun h => (by cases h)) (fun h => ?_)
  rcases hV with ⟨hst, hv⟩ | ⟨hst, S, a, n, c, hv, hK, hA⟩
  · cases hv
    refine zA ?_; refine zl hT 0 zr zr zr zr zr zr me zr ?_; refine zA ?_; refine zl hT 0 zr zr zr zr zr zr me zr ?_; refine zA ?_
    refine AW.cond rfl (fun _ => ?_) (fun h => (by cases h))
    refine zA ?_
    exact AW.ret ⟨_, [], ⟨_, _, rfl, rfl, rfl⟩, zsb, rfl, rfl⟩
  · cases hv
    have hrm := hK.first
    have hpl := place_at hrm
    have hlt := (List.getElem?_eq_some_iff.1 hpl).1
    have hal := hA.len
    rw [List.length_map] at hal
    have hok := nodes_ok hg hw12 hK (root_good hg w)
    have hfew := hok.few
    rw [List.length_map] at hfew
    have hpm : (S.map (mkNode g w E S))[place S (rootKey g w)]? = some (mkNode g w E S (rootKey g w)) := by rw [List.getElem?_map, hpl]; rfl
    generalize hq : place S (rootKey g w) = root at *
    refine zA ?_; refine zl hT 0 zr zr zr zr zr zr me zr ?_; refine zA ?_; (iterate 4 refine zx zr zr zr zr ?_); refine zA ?_
    refine AW.cond rfl (fun h => ?_) (fun h => ?_)
    · exfalso
      simp at h
    refine zA ?_; refine zl hT 0 zr zr zr zr zr zr me zr ?_; refine zA ?_; refine zl hT 0 zr zr zr zr zr zr me zr ?_; refine zA ?_; refine zl hT 0 zr zr zr zr zr zr me zr ?_; refine zA ?_
    refine AW.cond rfl (fun h => ?_) (fun h => ?_)
    · exfalso
      simp at h
      omega
    refine zA ?_; refine zl hT 0 zr zr zr zr zr zr me zr ?_; refine zA ?_; refine zl hT 0 zr zr zr zr zr zr me zr ?_
    refine WT.idxL hT hA zr zr zr zr zr zr zr zr zr (by rw [List.length_map]; exact hlt) (fun nd hnd b5 off5 ro5 cs5 lx5 hb5 hp5 hrel5 => ?_)
    obtain rfl : nd = mkNode g w E S (rootKey g w) := by rw [hpm] at hnd; exact (Option.some.inj hnd).symm
    obtain ⟨pa, pn, pc, rfl, hpa⟩ := hrel5
    refine zA ?_; refine zi hT (by assumption) (by assumption) zr zr zr zr zr zr ?_; refine zA ?_
    refine AW.cond rfl (fun h => ?_) (fun h => ?_)
    · exfalso
      have e : (mkNode g w E S (rootKey g w)).key.to = w.length := rfl
      simp [e] at h
      omega
    refine zA ?_
    refine WT.buildT hT zr zr zr zr zr zr zr zr zr zr zr zr zr zr (fun i11 hi11 => ?_)
    refine WT.freezeAll 0 rfl rfl (fun F1 hF1 hB1 => ?_)
    have hi11 := hB1 i11 _ (List.mem_cons_self ..)
    refine zA ?_
    refine WT.know (v' := .int .i64 (w.length : Nat)) 49 rfl rfl ?_
    refine WT.callN Tryz.func98 zr zr zr zr zr zr (repeat_spec _ hi11 w.length zo) (fun F2 v B2 hF2 hv => ?_)
    obtain ⟨io, rfl, rfl⟩ := hv
    have hv0 := vec_rep (F := F2) (i := io) (n := w.length) (-1)
    have hpos : ∀ k ∈ S, k.sym.term = true → w[k.frm]? = some k.sym.n := fun k hk ht => leaf_is hK hst hk ht
    refine zA ?_; refine zl hT 2 zr zr zr zr zr zr me zr ?_; refine zA ?_
    refine AW.range (S := List Int × List (Nat × Blk)) (fun _ => []) (fun s => s.2 :: [] :: [(i3, .cells false [.slice fa fn fc, .int .i64 (root : Nat)])] :: [(i2, .cells false [.int .i64 g.terms, .int .i64 g.nons, .int .i64 g.start, .slice ga gm gc])] :: own)
      (fun j s G => Vec tInt G (some ⟨io, 0, none⟩) w.length (bif w.length == 0 then 0 else 1) s.2 s.1 ∧ WordSeen w S j s.1) fn (_, _)
      zr zr zr zr zr zr zr zr zr zo rfl rfl (fun _ => rfl) (fun _ => rfl) (SubK.of_map rfl) (OwnLe.refl _) ⟨hv0, by simp, fun q k hq => by omega⟩ ?_ ?_
    · intro j s F3 hF3 hj hP
      obtain ⟨xs, B⟩ := s
      obtain ⟨hv, hsn⟩ := hP
      dsimp only at hv hsn
      have hA3 := ((hA.mono hF1).mono hF2).mono hF3
      have hjS : j < S.length := by omega
      refine zA ?_
      refine WT.idxL hT hA3 zr zr zr zr zr zr zr zr zr (by rw [List.length_map]; exact hjS) (fun nd3 hnd3 b6 off6 ro6 cs6 lx6 hb6 hp6 hrel6 => ?_)
      obtain ⟨k, hk, rfl⟩ : ∃ k, S[j]? = some k ∧ nd3 = mkNode g w E S k := ⟨S[j], List.getElem?_eq_getElem hjS, by rw [List.getElem?_map, List.getElem?_eq_getElem hjS] at hnd3; exact (Option.some.inj hnd3).symm⟩
      have hkS := List.mem_of_getElem? hk
      obtain ⟨pa3, pn3, pc3, rfl, hpa3⟩ := hrel6
      refine zi (fo := 0) hT (by assumption) (by assumption) zr zr zr zr zr zr ?_
      refine WT.allocT hT zr zr zr zr zr zr (fun i9 hi9 => ?_)
      refine zs hT 0 0 zr zr zr zr zr zr zr zr zr zr zr zr ?_; refine zA ?_; refine zl hT 0 zr zr zr zr zr zr me zr ?_; refine WT.nil ?_
      refine AW.cond rfl (fun h => ?_) (fun h => ?_)
      · have hterm : k.sym.term = true := h
        have hwk := hpos k hkS hterm
        have hlt2 := (List.getElem?_eq_some_iff.1 hwk).1
        have e2 : (mkNode g w E S k).key = k := rfl
        refine zA ?_; refine zl hT 0 zr zr zr zr zr zr me zr ?_; refine zA ?_; refine zl hT 0 zr zr zr zr zr zr me zr ?_; refine zA ?_
        have e3 : (mkNode g w E S (rootKey g w)).key.to = w.length := rfl
        refine AW.cond rfl (fun h => ?_) (fun h => ?_)
        · exfalso
          simp [e2, e3] at h
          omega
        refine zA ?_; refine zl hT 0 zr zr zr zr zr zr me zr ?_; refine zA ?_; refine zl hT 0 zr zr zr zr zr zr me zr ?_
        obtain ⟨z, hz⟩ : ∃ z, xs[k.frm]? = some z := ⟨_, List.getElem?_eq_getElem (by rw [hsn.len]; exact hlt2)⟩
        refine WT.vidx (j := k.frm) hT hv zr zr zr zr zr zr zr zr zr hlt2 (fun b7 hb7 => ?_)
        refine WT.vst (y := (k.sym.n : Int)) hT 1 hv hb7 hz zr zr zr zr zr zr zr (fun _ => rfl) rfl (fun B7 hB7 => ?_)
        refine WT.nil ?_
        exact ⟨(xs.set k.frm k.sym.n, B7), SubK.of_map rfl, zow, hB7, hsn.put hk hlt2 hpos hterm⟩
      · have hterm : k.sym.term = false := h
        refine AW.skip ?_
        exact ⟨(xs, B), SubK.of_map rfl, zow, hv, hsn.mono fun k2 hk2 => by rw [hk] at hk2; cases hk2; exact hterm⟩
    intro s F3 hF3 hP
    obtain ⟨xs, B⟩ := s
    obtain ⟨hv, hsn⟩ := hP
    dsimp only at hv hsn
    refine zA ?_; refine zl hT 3 zr zr zr zr zr zr me zr ?_; refine zA ?_; refine zl hT 2 zr zr zr zr zr zr me zr ?_
    refine WT.freezeAll 0 rfl rfl (fun F4 hF4 hB4 => ?_)
    have hx4 := hv.arr hF4 hB4
    have hw4 : Arr tNat F4 (some ⟨io, 0, none⟩) w.length (bif w.length == 0 then 0 else 1) w := arr_nats hx4 hsn.len fun p t hpt => by
      obtain ⟨hp1, _⟩ := List.getElem?_eq_some_iff.1 hpt
      obtain ⟨t', ht', hm⟩ := leaf_at hE hK hst hp1
      rw [hpt] at ht'
      cases ht'
      obtain ⟨q, hq⟩ := List.getElem?_of_mem hm
      have := (List.getElem?_eq_some_iff.1 hq).1
      exact hsn.seen q _ zo hq rfl
    have hF14 := hF1.trans (hF2.trans (hF3.trans hF4))
    refine WT.callV Tryz.func70 zr zr zr zr zr zr (fcheck_spec _ (hL.mono hF14) g hg (hr.mono hF14) hw4 hw12 hw2 (hf.mono hF14)) (fun v hv => ?_)
    subst hv
    refine zA ?_
    refine AW.cond rfl (fun h => (by cases h)) (fun _ => ?_)
    refine zA ?_
    exact AW.ret ⟨_, [], ⟨_, _, rfl, rfl, rfl⟩, zsb, rfl, rfl⟩

theorem coreCount_spec (F : Frz) (g : Gram) (hg : Valid g) {w : List Nat} (hw12 : w.length ≤ 12) {E : List (List Nat)} (hE : EndsOf g w E) {fa : Option Addr} {fn fc : Nat} {fr : Int} (hV : ForestV g w E F (.agg ⟨[.slice fa fn fc, .int .i64 fr]⟩)) :
    Abs.Spec CC 65 [.agg ⟨[.slice fa fn fc, .int .i64 fr]⟩] F [] fun F' v o => o = [] ∧ ∃ c, v = .int .i64 c ∧ CountVal (fun d => symT g w d ⟨false, g.start⟩ 0 w.length) c := by
  rcases hV with ⟨h1, hv⟩ | ⟨h1, S, a, n, c, hv, hK, hA⟩
  · cases hv
    refine (countNone_spec F).mono fun F' v o _ ⟨ho, hv⟩ => ⟨ho, 0, hv, .inl ⟨0, still_zero fun d => ?_, rfl⟩⟩
    rcases Nat.eq_zero_or_pos (symT g w d ⟨false, g.start⟩ 0 w.length) with e | e
    · exact e
    · have := (step_der hE (Nat.zero_le _)).2 (symT_der e)
      rw [h1] at this; cases this
  · cases hv
    have hroot := root_good hg w
    have hrm := hK.first
    have hpl := place_at hrm
    have hlt := (List.getElem?_eq_some_iff.1 hpl).1
    refine (count_spec _ (nodes_ok hg hw12 hK hroot) (nodes_prod hg hE hK hroot h1) hA (place S (rootKey g w)) (by rw [List.length_map]; exact hlt)).mono fun F' v o _ ⟨ho, c', hv, hc⟩ => ⟨ho, c', hv, ?_⟩
    have : (fun d => nodeT (S.map (mkNode g w E S)) d (place S (rootKey g w))) = fun d => symT g w d ⟨false, g.start⟩ 0 w.length := by
      funext d
      exact node_sym hg hE hK hroot h1 d _ hrm
    rw [this] at hc
    exact hc

theorem fcount_spec (F : Frz) (hL : Laid F) (g : Gram) (hg : Valid g) {ga : Option Addr} {gm gc : Nat} (hr : Arr tRule F ga gm gc g.rules) {w : List Nat} (hw12 : w.length ≤ 12) (hw2 : ∀ t ∈ w, t < g.terms)
    {fa : Option Addr} {fn fc : Nat} {fr : Int} (hf : FV g w F fa fn fc fr) :
    Abs.Spec CC 23 [.agg ⟨gramCells g ga gm gc⟩, .agg ⟨[.slice fa fn fc, .int .i64 fr]⟩] F [] fun F' v o => o = [] ∧ ∃ c, v = .tuple ⟨[.int .i64 c, .int .i64 0]⟩ ∧ CountVal (fun d => symT g w d ⟨false, g.start⟩ 0 w.length) c := by
  unfold gramCells
  obtain ⟨E, hE, hV⟩ := hf.cases
  refine Abs.Spec.fn (n := 15) Tryz.func23 rfl rfl fun own => ?_
  refine AW.seq (AW.reg ?_)
  refine WT.boxT zr zr zr zr zr zr (fun i2 hi2 => ?_)
  refine WT.boxT zr zr zr zr zr zr (fun i3 hi3 => ?_)
  refine zA ?_; refine zl hT 1 zr zr zr zr zr zr me zr ?_; refine zl hT 0 zr zr zr zr zr zr me zr ?_
  refine WT.callV Tryz.func64 zr zr zr zr zr zr (fvalid_spec _ hL g hg hr hw12 hw2 hf) (fun v hv => ?_)
  subst hv
  refine zA ?_
  refine AW.cond rfl (fun h => (by cases h)) (fun h => ?_)
  refine zA ?_; refine zl hT 0 zr zr zr zr zr zr me zr ?_
  refine WT.callV Tryz.func65 zr zr zr zr zr zr (coreCount_spec _ g hg hw12 hE hV) (fun v hv => ?_)
  obtain ⟨c, rfl, hc⟩ := hv
  refine zA ?_
  exact AW.ret ⟨_, [], ⟨_, _, rfl, ⟨_, _, rfl, rfl, rfl⟩, rfl⟩, zsb, rfl, c, rfl, hc⟩

theorem ftrees_spec (F : Frz) (hL : Laid F) (g : Gram) (hg : Valid g) {ga : Option Addr} {gm gc : Nat} (hr : Arr tRule F ga gm gc g.rules) {w : List Nat} (hw12 : w.length ≤ 12) (hw2 : ∀ t ∈ w, t < g.terms)
    {fa : Option Addr} {fn fc : Nat} {fr : Int} (hf : FV g w F fa fn fc fr) {most : Nat} (hm : most ≤ 100) :
    Abs.Spec CC 25 [.agg ⟨gramCells g ga gm gc⟩, .agg ⟨[.slice fa fn fc, .int .i64 fr]⟩, .int .i64 (most : Nat)] F [] fun F' v o => TreesRes g w most v o := by
  unfold gramCells
  obtain ⟨E, hE, hV⟩ := hf.cases
  refine Abs.Spec.fn (n := 32) Tryz.func25 rfl rfl fun own => ?_
  refine AW.seq (AW.reg ?_)
  refine WT.boxT zr zr zr zr zr zr (fun i3 hi3 => ?_)
  refine WT.boxT zr zr zr zr zr zr (fun i4 hi4 => ?_)
  refine zA ?_; refine zl hT 1 zr zr zr zr zr zr me zr ?_; refine zl hT 0 zr zr zr zr zr zr me zr ?_
  refine WT.callV Tryz.func64 zr zr zr zr zr zr (fvalid_spec _ hL g hg hr hw12 hw2 hf) (fun v hv => ?_)
  subst hv
  refine zA ?_
  refine AW.cond rfl (fun h => (by cases h)) (fun h => ?_)
  refine zA ?_
  refine AW.cond rfl (fun h => (by exfalso; simp at h; omega)) (fun h => ?_)
  refine zA ?_; refine zl hT 0 zr zr zr zr zr zr me zr ?_; refine zA ?_
  refine WT.callN Tryz.func68 zr zr zr zr zr zr (coreTrees_spec _ g hg hw12 hE hV hm) (fun F3 v B3 hF3 hv3 => ?_)
  obtain ⟨L, c, hW, hres⟩ := hv3
  rcases hres with ⟨hok, a, n', d', B, css, bs, rfl, rfl, hB, hT'⟩ | ⟨hf, rfl⟩
  · refine zA ?_
    refine AW.cond rfl (fun h => (by cases h)) (fun h => ?_)
    refine zA ?_
    refine AW.ret ⟨_, [_], ⟨_, _, rfl, ⟨_, _, rfl, rfl, rfl⟩, rfl⟩, List.Sublist.cons_cons _ zsb, _, rfl, L, c, hW, .inl ⟨hok, _, _, _, _, _, _, rfl, rfl, hB, hT'⟩⟩
  · refine zA ?_
    refine AW.cond rfl (fun _ => ?_) (fun h => (by cases h))
    refine zA ?_
    refine AW.ret ⟨_, [_], ⟨_, _, rfl, ⟨_, _, rfl, rfl, rfl⟩, rfl⟩, List.Sublist.cons_cons _ zsb, _, rfl, L, c, hW, .inr ⟨hf, rfl⟩⟩

theorem trees_same {g : Gram} {w : List Nat} {most : Nat} {L K : List Tree} {c c' : Int} (h : WTrees g w most L c) (h' : WTrees g w most K c') : L = K ∧ c = c' := by
  refine ⟨?_, h.cuniq h'⟩
  rw [h.cut h' (Nat.le_refl _), List.take_of_length_le h'.len]

theorem ok_fail {most : Nat} {L : List Tree} {c : Int} (h : OkC most L c) (h' : FailC most L c) : False := by
  unfold OkC at h
  unfold FailC at h'
  omega

theorem forestTrees_law (F : Frz) (hL : Laid F) {a b : Option Addr} {m n c d : Nat} {l w0 : List Int} (hl : Arr tInt F a m c l) (hw0 : Arr tInt F b n d w0) (hm : n ≤ 9223372036854775807) (x0 : Int) :
    Abs.Spec CC 5 [.slice a m c, .slice b n d, .int .i64 x0] F [] fun _ v o => o = [] ∧ v = .bool true := by
  refine Abs.Spec.fn (n := 82) Tryz.func5 rfl rfl fun own => ?_
  refine zA ?_
  refine WT.callF0 Tryz.func8 zr zr zr zr zr zr (made_spec _ hl hw0 hm 5 (by decide)) (fun F1 v hF1 hv => ?_)
  obtain ⟨g, ga, gm, gc, wa, wn, wc, w, rfl, hg, hr, hw, hw1, hw2⟩ := hv
  have hL1 := hL.mono hF1
  have hgv := hg.valid
  unfold gramCells
  refine zA ?_
  refine WT.allocT hT zr zr zr zr zr zr (fun i7 hi7 => ?_)
  refine zs hT 0 0 zr zr zr zr zr zr zr zr zr zr zr zr ?_; refine zA ?_
  refine WT.callV Tryz.func22 zr zr zr zr zr zr (below_spec _ x0 20 zo zo) (fun v hv2 => ?_)
  subst hv2
  have hk := below_lt x0 (m := 20) zo
  generalize below x0 20 = most at hk ⊢
  refine zA ?_; refine zl hT 0 zr zr zr zr zr zr me zr ?_; refine zA ?_
  refine WT.callF0 Tryz.func21 zr zr zr zr zr zr (forestOf_spec _ hL1 g hgv hr hw zo hw2) (fun F2 v hF2 hv => ?_)
  obtain ⟨E, hE, hv⟩ := hv
  obtain ⟨fa, fn, fc, fr, rfl, hf⟩ : ∃ fa fn fc fr, v = .tuple ⟨[.agg ⟨[.slice fa fn fc, .int .i64 fr]⟩, .int .i64 0]⟩ ∧ FV g w F2 fa fn fc fr := by
    have hv0 := hv
    rcases hv with ⟨s, xa, xn, xc, xr, rfl, rfl, h3, h4⟩ | ⟨_, _, L, h1, h2, h3⟩
    · exact ⟨_, _, _, _, rfl, E, hE, hv0⟩
    · exfalso
      have := packs_small hg hw1 (E := E) h1 fun k hk => (h2 k hk).good hgv (root_good hgv w)
      omega
  clear hv
  have hL2 := hL1.mono hF2
  have hr2 := hr.mono hF2
  have hwB := hw.mono hF2
  refine zA ?_
  refine WT.allocT hT zr zr zr zr zr zr (fun i8 hi8 => ?_)
  refine zs hT 0 0 zr zr zr zr zr zr zr zr zr zr zr zr ?_; refine zA ?_; refine zl hT 1 zr zr zr zr zr zr me zr ?_; refine zl hT 0 zr zr zr zr zr zr me zr ?_
  refine WT.callV Tryz.func23 zr zr zr zr zr zr (fcount_spec _ hL2 g hgv hr2 zo hw2 hf) (fun v hv => ?_)
  obtain ⟨c1, rfl, hc1⟩ := hv
  refine zA ?_; refine zl hT 1 zr zr zr zr zr zr me zr ?_; refine zA ?_
  refine WT.callV Tryz.func24 zr zr zr zr zr zr (mcount_spec _ hL2 g hgv hr2 hwB zo hw2) (fun v hv => ?_)
  obtain ⟨c2, rfl, hc2⟩ := hv
  obtain rfl := CountVal.uniq (symT_mono g w · _ _ _) hc1 hc2
  refine zA ?_; refine zl hT 1 zr zr zr zr zr zr me zr ?_; refine zl hT 0 zr zr zr zr zr zr me zr ?_; refine zA ?_
  refine WT.callN Tryz.func25 zr zr zr zr zr zr (ftrees_spec _ hL2 g hgv hr2 zo hw2 hf (most := most) zo) (fun F3 v B3 hF3 hv3 => ?_)
  obtain ⟨L, c3, hW, hres⟩ := hv3
  have hform : ∃ a n d e, v = .tuple ⟨[.slice a n d, .int .i64 e]⟩ := by
    rcases hres with ⟨_, a, n', d', B, css, bs, rfl, _⟩ | ⟨_, rfl⟩ <;> exact ⟨_, _, _, _, rfl⟩
  obtain ⟨ta, tn, tc, te, rfl⟩ := hform
  refine zA ?_; refine zl hT 2 zr zr zr zr zr zr me zr ?_; refine zA ?_
  refine WT.callN Tryz.func26 zr zr zr zr zr zr (mtrees_spec _ (hL2.mono hF3) g hgv (hr2.mono hF3) (hwB.mono hF3) zo hw2 (most := most) zo) (fun F4 v B4 hF4 hv4 => ?_)
  obtain ⟨L', c4, hW', hres'⟩ := hv4
  obtain ⟨rfl, rfl⟩ := trees_same hW hW'
  have hL4 := (hL2.mono hF3).mono hF4
  have hll := hW.len
  rcases hres with ⟨hok, a1, n1, d1, B1, css1, bs1, hv1, rfl, hB1, hT1⟩ | ⟨hf1, hv1⟩
  · cases hv1
    rcases hres' with ⟨hok', a2, n2, d2, B2, css2, bs2, rfl, rfl, hB2, hT2⟩ | ⟨hf2, rfl⟩
    · refine zA ?_
      refine WT.callV Tryz.func27 zr zr zr zr zr zr (Abs.Spec.fact rfl hL4) (fun v hv => ?_)
      subst hv
      refine zA ?_
      refine WT.know (v' := .bool true) 72 rfl (by congr 1; simp) ?_
      refine zA ?_
      refine WT.freezeAll 0 rfl rfl (fun F5 hF5 hB5 => ?_)
      refine WT.freezeAll 1 rfl rfl (fun F6 hF6 hB6 => ?_)
      have A2 := (hT2.frozen hB2 (fun i b hm => hB5 i b (List.mem_append_left _ hm)) (fun i b hm => hB5 i b (List.mem_append_right _ hm))).mono hF6
      have A1 := hT1.frozen hB1 (fun i b hm => hB6 i b (List.mem_append_left _ hm)) (fun i b hm => hB6 i b (List.mem_append_right _ hm))
      have e1 := A1.len
      have e2 := A2.len
      obtain rfl : n2 = tn := by rw [e2, e1]
      refine WT.callV Tryz.func28 zr zr zr zr zr zr (sameTrees_spec _ A1 A2 zo) (fun v hv => ?_)
      subst hv
      refine zA ?_
      exact AW.ret ⟨_, [], ⟨_, _, rfl, rfl, rfl⟩, zsb, rfl, rfl⟩
    · exact (ok_fail hok hf2).elim
  · cases hv1
    rcases hres' with ⟨hok', a2, n2, d2, B2, css2, bs2, rfl, rfl, hB2, hT2⟩ | ⟨hf2, rfl⟩
    · exact (ok_fail hok' hf1).elim
    · refine zA ?_
      refine WT.callV Tryz.func27 zr zr zr zr zr zr (Abs.Spec.fact rfl hL4) (fun v hv => ?_)
      subst hv
      refine zA ?_
      refine WT.know (v' := .bool true) 72 rfl (by congr 1; simp) ?_
      refine zA ?_
      refine WT.callV Tryz.func28 zr zr zr zr zr zr (sameTrees_spec _ (Arr.nil_ _ _) (Arr.nil_ _ _) zo) (fun v hv => ?_)
      subst hv
      refine zA ?_
      exact AW.ret ⟨_, [], ⟨_, _, rfl, rfl, rfl⟩, zsb, rfl, rfl⟩
end Go.Proofs.D

