/-
  Walks: what functions of the program do, over the abstract machine.
-/
import Derived.Test.YtpoochgjdeefdaaDoorWk0
set_option linter.unusedVariables false
set_option maxRecDepth 20000
set_option maxHeartbeats 0
open Go Go.Abs Go.Proofs Go.Proofs.D
namespace Go.Proofs.D
theorem Sets.cut{g:Gram}{w:List Nat}{L:Nat→List Item}(h:Sets g w L)(j:Nat):Sets g (w.take j) L where
 ok:=fun k hk=>h.ok k (by rw[List.length_take] at hk;omega)
 start:=h.start
 closed:=fun k hk=>h.closed k (by rw[List.length_take] at hk;omega)
 scan:=fun k t hk=>h.scan k t (by
  rw[List.getElem?_take] at hk
  split at hk
  ·exact hk
  ·cases hk)
def QP(g:Gram)(w:List Nat):Nat→Item→Prop:=fun k x=>ItemOk g.rules k x∧(k≤w.length→∀L,Sets g (w.take k) L→x∈L k)
theorem QP_inv(g:Gram)(w:List Nat):QInv g (QP g w) where
 ok:=fun _ _ h=>h.1
 predict:=fun k x n i r hx hn hr hl=>⟨⟨r,hr,Nat.zero_le _,Nat.le_refl _⟩,fun hk L hL=>(hL.closed k (by rw[List.length_take];omega) x (hx.2 hk L hL)).1 n i r hn hr hl⟩
 complete:=fun k x y r hx hr hd hy hn=>by
  refine⟨(QI_inv g).complete k x y r hx.1 hr hd hy.1 hn,fun hk L hL=>?_⟩
  obtain⟨_,_,_,hf⟩:=hx.1
  refine(hL.closed k (by rw[List.length_take];omega) x (hx.2 hk L hL)).2 r hr hd y ?_ hn
  refine hy.2 zo L ?_
  have:=hL.cut x.frm
  rw[List.take_take,show min x.frm k=x.frm by omega] at this
  exact this
theorem QP_more{g:Gram}{w:List Nat}{m:Nat}(hm:m=w.length)(t:Nat):∀k x,k≤m→QP g w k x→QP g (w++[t]) k x:=fun k x hk hx=>
 ⟨hx.1,fun _ L hL=>hx.2 zo L (by rw[List.take_append_of_le_length zo] at hL;exact hL)⟩
theorem QP_scan{g:Gram}{w:List Nat}{m:Nat}(hm:m=w.length)(t:Nat):∀x,QP g (w++[t]) m x→nextOf g.rules x=some ⟨true,t⟩→QP g (w++[t]) (m+1) (stepItem x):=fun x hx hn=>by
 subst hm
 refine⟨QI_scan g _ t x hx.1 hn,fun hk L hL=>?_⟩
 rw[List.take_of_length_le (by simp)] at hL
 refine hL.scan w.length t (by simp) x (hx.2 (by simp) L ?_) hn
 exact hL.cut _
structure FZ where
 fi:Nat
 ga:Option Addr
 gm:Nat
 gc:Nat
 q:ChP
 s:SSt
 wa:Option Addr
 wn:Nat
 wc:Nat
 BW:List (Nat×Blk)
 w:List Nat
 E:List Bool
def zCells(g:Gram)(f:FZ):List Value:=[.int .i64 g.terms,.int .i64 g.nons,.int .i64 g.start,.slice f.ga f.gm f.gc,.pointer (some ⟨f.q.ic,0,none⟩),.slice f.wa f.wn f.wc]
def zB(g:Gram)(f:FZ):List (Nat×Blk):=(f.fi,.cells false (zCells g f))::(f.BW++shB (trimmed f.E g) f.q f.s)
structure ZOk(g:Gram)(F:Frz)(f:FZ):Prop where
 rules:Arr tRule F f.ga f.gm f.gc g.rules
 ends:EndsIn g f.E
 chart:SOk (trimmed f.E g) (QP (trimmed f.E g) f.w) f.q F f.s
 k:f.s.k=f.w.length
 sets:Sets (trimmed f.E g) f.w (LZ f.s)
 word:GB tNat F f.wa f.wn f.wc f.BW f.w
 ok:∀t∈f.w,t<g.terms
theorem ZOk.mono{g:Gram}{F G:Frz}{f:FZ}(h:ZOk g F f)(hF:Frz.le F G):ZOk g G f:=⟨h.rules.mono hF,h.ends,h.chart.mono hF,h.k,h.sets,h.word.mono hF,h.ok⟩
structure NextZ(g:Gram)(f:FZ)(xs:List Bool):Prop where
 len:xs.length=g.terms+1
 term:∀t,t<g.terms→(xs[t]?=some true↔∃x∈LZ f.s f.s.k,nextOf (trimmed f.E g).rules x=some ⟨true,t⟩)
 done:xs[g.terms]?=some (derives g f.w g.start 0 f.w.length)
theorem zsubW{g:Gram}{f:FZ}:∀z,z∈f.BW→z∈zB g f:=fun z hz=>by unfold zB;simp[hz]
theorem zsubC{g:Gram}{f:FZ}:∀z,z∈shB (trimmed f.E g) f.q f.s→z∈zB g f:=fun z hz=>by unfold zB;simp[hz]
theorem own_zeed(a:Nat×Blk)(BW C:List (Nat×Blk))(own:Own):OwnLe ([a]::BW::C::own) ((a::(BW++C))::own):=OwnLe.flat (List.Perm.of_eq (by simp))
theorem own_zeed'(a:Nat×Blk)(BW C:List (Nat×Blk))(own:Own):OwnLe ((a::(BW++C))::own) ([a]::BW::C::own):=OwnLe.flat (List.Perm.of_eq (by simp))
theorem zNew_spec(F:Frz)(g:Gram)(hg:Valid g){a:Option Addr}{m c:Nat}(hr:Arr tRule F a m c g.rules) :
  Abs.Spec CC 13 [.agg ⟨gramCells g a m c⟩] F [] fun F' v o=>∃B',o=[B']∧∃f,v=.tuple ⟨[.pointer (some ⟨f.fi,0,none⟩),.int .i64 0]⟩∧B'=zB g f∧ZOk g F' f∧f.w=[]:=by
 have hrl:=hr.len
 have hgr:=hg.range.rules
 have hr4:∀r∈g.rules,r.right.length≤1000000:=fun r h=>by have:=(hg.right r h).2.1;omega
 unfold gramCells
 refine Abs.Spec.fn (n:=28) Tryd.func13 rfl rfl fun own=>?_
 refine AW.seq (AW.reg ?_)
 refine WT.boxT Z Z Z Z Z Z (fun i1 hi1=>?_)
 refine zB4 ?_
 refine WT.callF0 Tryd.func37 Z Z Z Z Z Z (uends_spec _ g hg hr) (fun F1 v hF1 hv=>?_)
 obtain⟨ea,ec,E,rfl,hE,hEi⟩:=hv
 have hr1:=hr.mono hF1
 refine zB4 ?_
 refine WT.allocT hT Z Z Z Z Z Z (fun i4 hi4=>?_)
 refine zB4 ?_
 refine AW.cond Z (fun h=>(by cases h)) (fun _=>?_)
 refine zB4 ?_
 refine WT.callN Tryd.func38 Z Z Z Z Z Z (copy_spec _ g hr1 zo hr4) (fun F2 v B2 hF2 hv=>?_)
 obtain⟨ca,cc,rfl,hc⟩:=hv
 have hr2:=hr1.mono hF2
 have hE2:=hE.mono hF2
 unfold gramCells
 skip
 refine WT.allocT hT Z Z Z Z Z Z (fun i6 hi6=>?_)
 refine zB6 ?_
 refine WT.freezeAll 2 Z Z (fun F3 hF3 hB3=>?_)
 have hie:=hB3 i4 _ me
 have hr3:=hr2.mono hF3
 have hE3:=hE2.mono hF3
 refine WT.callF (oin:=[B2]) Tryd.func39 Z Z Z Z Z Z (deleteFunc_spec F3 (hc.mono hF3) zo (fun r=>r.right.any fun y=>!y.term&&!(E.getD y.n false)) (first:=[]) (capt:=[.pointer (some ⟨i4,0,none⟩)]) Tryd.func40 Z (fun G hG r hrg b n d hb=>feed1_spec G (hG _ _ hie) (hE3.mono hG) r (fun y hy=>?_) hb (by have:=hb.len;have:=(hg.right r hrg).2.1;omega))) (List.Perm.swap _ _ _) (fun F4 v oout hF4 hv=>?_)
 ·have:=(hg.right r hrg).2.2 y hy
  unfold SymOk at this
  cases hty:y.term with
  | true=>exact .inl rfl
  | false=>rw[if_neg (by simp[hty])] at this;rw[hEi.len];exact .inr this
 obtain⟨rfl,xa,xn,xc,rfl,hx⟩:=hv
 have hr4':=hr3.mono hF4
 refine zB6 ?_
 refine AW.draw (ps:=[(2,1)]) Z Z ?_
 refine zB6 ?_
 refine WT.callN Tryd.func38 Z Z Z Z Z Z (copy_spec _ g hr4' zo hr4) (fun F5 v B5 hF5 hv=>?_)
 obtain⟨da,dc,rfl,hd⟩:=hv
 refine WT.freezeAll 0 Z Z (fun F6 hF6 hB6=>?_)
 have hd6:=hd.frozen hF6 hB6
 have hx6:=(hx.mono hF5).mono hF6
 unfold gramCells
 refine zB6 ?_
 refine WT.callN Tryd.func43 Z Z Z Z Z Z (cstart_spec F6 (trimmed E g) (trim_right hg E) (trim_len hg E) (QP_inv (trimmed E g) []) (fun i r hr' hl=>⟨⟨r,hr',Nat.zero_le _,Nat.le_refl _⟩,fun _ L hL=>hL.start i r hr' hl⟩) hx6) (fun F7 v B7 hF7 hv=>?_)
 obtain⟨q,s,rfl,rfl,hs,hk,hin,hcl⟩:=hv
 refine zB6 ?_
 refine WT.boxT Z Z Z Z Z Z (fun fi hfi=>?_)
 refine zB6 ?_
 refine⟨zrC,?_⟩
 skip
 have hfew:=hs.few (trim_right hg E) (trim_len hg E) (QP_inv (trimmed E g) [])
 refine AW.le (own2:=zB g ⟨fi,da,m,dc,q,restOf s,none,0,0,[],[],E⟩::s.BX::own) (OwnLe.trans (b:=[(fi,.cells false (zCells g ⟨fi,da,m,dc,q,restOf s,none,0,0,[],[],E⟩))]::cB (trimmed E g) q s::own) (OwnLe.trans (OwnLe.flat (List.Perm.of_eq (by simp[zB]))) (OwnLe.cons _ (own_rest (g:=trimmed E g) (q:=q) (s:=s) own))) (OwnLe.cons _ (OwnLe.cons _ zow))) ?_
 refine AW.freezeAll 1 Z Z (fun F8 hF8 hB8=>?_)
 refine AW.le (own2:=zB g ⟨fi,da,m,dc,q,restOf s,none,0,0,[],[],E⟩::own) (OwnLe.flat (List.Perm.of_eq (by simp))) ?_
 have hls:LZ (restOf s) 0=s.last:=by rw[LZ_rest hs.oldl];unfold LS;rw[if_pos hk.symm]
 refine AW.ret ⟨_,[_],⟨_,_,rfl,⟨_,_,rfl,rfl,rfl⟩,rfl⟩,zsb,_,rfl,⟨fi,da,m,dc,q,restOf s,none,0,0,[],[],E⟩,rfl,rfl,⟨(hd6.mono hF7).mono hF8,hEi,hs.rest zo hF8 hB8,hk,⟨?_,?_,?_,?_⟩,(Bld.nil_ _ _).gb,fun t h=>by cases h⟩,rfl⟩
 ·intro k hk0 x hx
  obtain rfl:k=0:=Nat.le_zero.1 hk0
  rw[hls] at hx
  have:=(hs.qlast x hx).1
  rw[hk] at this;exact this
 ·intro i r hr' hl
  rw[hls];exact hin i r hr' hl
 ·intro k hk0 x hx
  obtain rfl:k=0:=Nat.le_zero.1 hk0
  rw[hls] at hx
  have:=hcl x hx
  rw[hk,←LZ_rest hs.oldl] at this;exact this
 ·intro k t h;simp at h
theorem znextC_spec'(G:Frz)(g:Gram)(hg:Valid g){f:FZ}(h:ZOk g G f)(hB:∀i b,(i,b)∈shB (trimmed f.E g) f.q f.s→G i=some b) :
  Abs.Spec CC 44 [.pointer (some ⟨f.q.ic,0,none⟩)] G [] fun F' v o=>
   ∃B',o=[B']∧∃a' c' xs,v=.slice a' g.terms c'∧Vec tBool F' a' g.terms c' B' xs∧∀t,t<g.terms→(xs[t]?=some true↔∃x∈LZ f.s f.s.k,nextOf (trimmed f.E g).rules x=some ⟨true,t⟩):=by
 have hgt:=hg.range.terms
 have hc:=h.chart
 have hll:=hc.len
 obtain⟨last,hlast⟩:∃l,f.s.lists[f.s.k]?=some l:=⟨_,gE zo⟩
 obtain⟨xa,xn,xc,huk,hxa⟩:=hc.olds _ _ hlast
 have e:LZ f.s f.s.k=last:=by unfold LZ;rw[List.getD_eq_getElem?_getD,hlast];rfl
 rw[e]
 exact cnextA_spec G (trimmed f.E g) (trim_right hg _) (by show g.terms≤1000;omega) (trim_sym hg _) (hB _ _ me) hc.rules (hc.list.arr (Frz.le.refl G) (fun i b hb=>hB i b (List.mem_cons_of_mem _ (List.mem_append_right _ hb)))) huk hxa (fun x hx=>(hc.all _ _ hlast x hx).1) (hc.olen _ _ hlast) hc.small
theorem znextC_spec(G:Frz)(g:Gram)(hg:Valid g){f:FZ}(h:ZOk g G f)(hB:∀i b,(i,b)∈zB g f→G i=some b) :
  Abs.Spec CC 44 [.pointer (some ⟨f.q.ic,0,none⟩)] G [] fun F' v o=>
   ∃B',o=[B']∧∃a' c' xs,v=.slice a' g.terms c'∧Vec tBool F' a' g.terms c' B' xs∧∀t,t<g.terms→(xs[t]?=some true↔∃x∈LZ f.s f.s.k,nextOf (trimmed f.E g).rules x=some ⟨true,t⟩):=
 znextC_spec' G g hg h fun i b hb=>hB i b (zsubC _ hb)
theorem zNext_spec(G:Frz)(hL:Laid G)(g:Gram)(hg:Valid g){f:FZ}(h:ZOk g G f)(hw:f.w.length≤12)(hB:∀i b,(i,b)∈zB g f→G i=some b) :
  Abs.Spec CC 15 [.pointer (some ⟨f.fi,0,none⟩)] G [] fun F' v o=>∃B',o=[B']∧∃a' c' xs,v=.slice a' (g.terms+1) c'∧Vec tBool F' a' (g.terms+1) c' B' xs∧NextZ g f xs:=by
 have hfi:G f.fi=some (.cells false [.int .i64 g.terms,.int .i64 g.nons,.int .i64 g.start,.slice f.ga f.gm f.gc,.pointer (some ⟨f.q.ic,0,none⟩),.slice f.wa f.wn f.wc]):=hB _ _ me
 have hgt:=hg.range.terms
 have hgn:=hg.range.nons
 have hgs:=hg.range.start
 have hwa:=h.word.arr (Frz.le.refl G) (fun i b hb=>hB i b (zsubW _ hb))
 have hwl:=hwa.len
 refine Abs.Spec.fn (n:=36) Tryd.func15 rfl rfl fun own=>?_
 refine zB4 ?_
 refine AW.draw (ps:=[(8,4),(12,4),(18,4),(18,13),(26,4),(26,13),(27,4),(27,13)]) Z Z ?_
 refine zB4 ?_
 refine WT.callN Tryd.func44 Z Z Z Z Z Z (znextC_spec G g hg h hB) (fun F1 v B1 hF1 hv=>?_)
 obtain⟨na,nc,xs,rfl,hv,hxs⟩:=hv
 have hfi1:=hF1 _ _ hfi
 have hL1:=hL.mono hF1
 have hwa1:=hwa.mono hF1
 refine zB4 ?_
 refine WT.callF0 Tryd.func31 Z Z Z Z Z Z (ends_spec F1 hL1 g hg (h.rules.mono hF1) hwa1 zo) (fun F2 v hF2 hv2=>?_)
 obtain⟨ea,ec,E,rfl,hE,hE2⟩:=hv2
 have hfi2:=hF2 _ _ hfi1
 have hElen:=hE2.ok.size
 refine zB4 ?_
 refine WT.idxL hT hE Z Z Z Z Z Z Z Z Z zo (fun row hrow b1 off ro cs lx hb1 hp1 hrel=>?_)
 obtain⟨a2,n2,c2,rfl,hrow2⟩:=hrel
 have hrl:=hE2.ok.row row (gM hrow)
 refine zB4 ?_
 refine WT.idxL (j:=0) hT hrow2 Z Z Z Z Z Z Z Z Z zo (fun x hx b3 off3 ro3 cs3 lx3 hb3 hp3 hrel3=>?_)
 obtain rfl:lx3=_:=hrel3
 have hxb:=hE2.ok.bit row (gM hrow) x (gM hx)
 have pwl:2 ^ (f.w.length+1)≤4294967296:=Nat.pow_le_pow_right (j:=32) (by decide) zo
 have e:derives g f.w g.start 0 f.w.length=x.testBit f.wn:=by
  rw[Bool.eq_iff_iff,derives_iff,←hE2.iff _ _ _ (Nat.zero_le _),←hwl]
  constructor
  ·rintro⟨row',x',h3,h4,h5⟩
   rw[hrow] at h3;cases h3
   rw[hx] at h4;cases h4
   exact h5
  ·intro hb;exact⟨row,x,hrow,hx,hb⟩
 have e2:(((x / 2 ^ f.wn &&& 1:Nat):Int)==1)=derives g f.w g.start 0 f.w.length:=by
  rw[shift_bit,e];cases x.testBit f.wn<;>rfl
 refine zB4 ?_
 refine WT.shr32 (x:=x) (y:=f.wn) Z Z Z Z Z Z zo ?_
 refine WT.and32 (x:=x / 2 ^ f.wn) (y:=1) Z Z Z Z Z Z (Nat.lt_of_le_of_lt (Nat.div_le_self _ _) zo) (by decide) ?_
 have hxne:xs≠[]:=by
  intro e;subst e
  have h1:=hv.len
  have h2:(trimmed f.E g).terms=g.terms:=rfl
  simp at h1;omega
 have hvb:=(hv.mono hF2).bld hxne
 have hxl:xs.length=g.terms:=hv.len.symm
 refine zB4 ?_
 refine WT.buildT hT Z Z Z Z Z Z Z Z Z Z Z Z Z Z (fun i9 hi9=>?_)
 refine WT.appendT (ys:=[((x / 2 ^ f.wn &&& 1:Nat):Int)==1]) hT 1 hvb Z (fun _=>rfl) Z Z Z Z Z Z Z Z Z Z Z (fun h0 s0=>news_own hT s0 0 Z Z Z Z) (Cells.single (R:=tBool) (x:=(((x / 2 ^ f.wn &&& 1:Nat):Int)==1)) rfl) Z (by decide) (by show (g.terms+1)*1≤_;omega) (fun a3 c3 B3 hB3=>?_)
 refine zB4 ?_
 refine⟨zrC,?_⟩
 skip
 refine AW.ret ⟨_,[_],⟨_,_,rfl,rfl,rfl⟩,zsb,_,rfl,a3,c3,_,rfl,hB3.vec,⟨?_,fun t ht=>?_,?_⟩⟩
 ·simp[hxl]
 ·rw[List.getElem?_append_left zo]
  exact hxs t ht
 ·rw[List.getElem?_append_right zo,hxl,Nat.sub_self]
  exact congrArg some e2
theorem sets_putZ{g:Gram}{w:List Nat}{t:Nat}{s s':SSt}{last new:List Item}(h:Sets g w (LZ s))(hw:s.k=w.length)(hk:s'.k=s.k+1)(hlen:s.lists.length=s.k+1)(hlast:s.lists[s.k]?=some last)(ho:s'.lists=s.lists++[new])
  (hok:∀x∈new,ItemOk g.rules (s.k+1) x) (hsc:∀x∈last,nextOf g.rules x=some ⟨true,t⟩→stepItem x∈new) (hcl:∀x∈new,ItemClosed g.rules (LZ s') s'.k x):Sets g (w++[t]) (LZ s'):=by
 have hL:∀j,j≤s.k→LZ s' j=LZ s j:=fun j hj=>by
  unfold LZ
  rw[ho,List.getD_eq_getElem?_getD,List.getD_eq_getElem?_getD,List.getElem?_append_left zo]
 have hN:LZ s' (s.k+1)=new:=by
  unfold LZ
  rw[ho,List.getD_eq_getElem?_getD,List.getElem?_append_right zo,show s.k+1-s.lists.length=0 by omega];rfl
 have hS:LZ s s.k=last:=by unfold LZ;rw[List.getD_eq_getElem?_getD,hlast];rfl
 refine⟨fun k hk1 x hx=>?_,fun i r hr hl=>?_,fun k hk1 x hx=>?_,fun k t' ht x hx hn=>?_⟩
 ·simp only[List.length_append,List.length_singleton] at hk1
  rcases Nat.lt_or_ge k (s.k+1) with h1 | h1
  ·rw[hL k zo] at hx;exact h.ok k zo x hx
  ·obtain rfl:k=s.k+1:=by omega
   rw[hN] at hx;exact hok x hx
 ·rw[hL 0 (Nat.zero_le _)];exact h.start i r hr hl
 ·simp only[List.length_append,List.length_singleton] at hk1
  rcases Nat.lt_or_ge k (s.k+1) with h1 | h1
  ·rw[hL k zo] at hx
   obtain⟨c1,c2⟩:=h.closed k zo x hx
   obtain⟨_,_,_,hf⟩:=h.ok k zo x hx
   refine⟨fun n i r hn hr hl=>?_,fun r hr hd y hy hn=>?_⟩
   ·rw[hL k zo];exact c1 n i r hn hr hl
   ·rw[hL x.frm zo] at hy
    rw[hL k zo];exact c2 r hr hd y hy hn
  ·obtain rfl:k=s.k+1:=by omega
   rw[hN] at hx
   have:=hcl x hx
   rw[hk] at this;exact this
 ·rcases Nat.lt_or_ge k w.length with h1 | h1
  ·rw[List.getElem?_append_left h1] at ht
   rw[hL k zo] at hx
   have h2:=h.scan k t' ht x hx hn
   rw[hL (k+1) zo];exact h2
  ·rw[List.getElem?_append_right h1] at ht
   have:=(gS ht).1
   simp at this
   have e:k=s.k:=by omega
   subst e
   rw[hw,Nat.sub_self] at ht
   obtain rfl:t=t':=by simpa using ht
   rw[hL _ (Nat.le_refl _),hS] at hx
   rw[hN];exact hsc x hx hn
theorem zPut_spec(F:Frz)(g:Gram)(hg:Valid g){f:FZ}(h:ZOk g F f)(hw:f.w.length<12)(t:Nat)(ht:t<g.terms) :
  Abs.Spec CC 19 [.pointer (some ⟨f.fi,0,none⟩),.int .i64 t] F [zB g f] fun F' v o=>∃B',o=[B']∧∃f',B'=zB g f'∧ZOk g F' f'∧f'.fi=f.fi∧f'.E=f.E∧
   (((∃x∈LZ f.s f.s.k,nextOf (trimmed f.E g).rules x=some ⟨true,t⟩)∧v=.int .i64 0∧f'.w=f.w++[t])∨((¬∃x∈LZ f.s f.s.k,nextOf (trimmed f.E g).rules x=some ⟨true,t⟩)∧v=.int .i64 10∧f'.w=f.w)):=by
 have hgt:=hg.range.terms
 have hwl:=h.word.len
 have hk:=h.k
 refine Abs.Spec.fn (n:=47) Tryd.func19 rfl rfl fun own=>?_
 refine AW.le (own_zeed _ _ _ _) ?_
 refine zB4 ?_
 refine AW.cond Z (fun h=>(by simp at h;omega)) (fun _=>?_)
 refine zB4 ?_
 refine AW.cond Z (fun h=>(by simp at h;omega)) (fun _=>?_)
 refine zB4 ?_
 refine WT.callLendN (P:=fun v B'=>∃a' c' xs,v=.slice a' g.terms c'∧Vec tBool F a' g.terms c' B' xs∧∀t,t<g.terms→(xs[t]?=some true↔∃x∈LZ f.s f.s.k,nextOf (trimmed f.E g).rules x=some ⟨true,t⟩)) 2 Tryd.func44 Z Z Z Z Z Z Z (fun G hG hBG=>Spec.mono (znextC_spec' G g hg (h.mono hG) hBG) (fun F' v o _ hv=>by
  obtain⟨B',e,a2,c2,xs,e2,hv,hx⟩:=hv
  exact⟨B',e,a2,c2,xs,e2,Vec.boolAny hv,hx⟩)) (fun v BN hv=>?_)
 obtain⟨na,nc,xs,rfl,hv,hxs⟩:=hv
 have hxl:xs.length=g.terms:=hv.len.symm
 obtain⟨z,hz⟩:∃z,xs[t]?=some z:=⟨_,gE zo⟩
 refine zB4 ?_
 refine WT.vidx hT hv Z Z Z Z Z Z Z Z Z ht (fun b5 hb5=>?_)
 refine WT.vld1 hT 0 hv hb5 hz Z Z Z Z Z Z Z Z Z (fun l h=>h) ?_
 refine zB4 ?_
 refine AW.cond Z (fun hc=>?_) (fun hc=>?_)
 ·have hc:z=false:=by simpa using hc
  have hno:¬∃x∈LZ f.s f.s.k,nextOf (trimmed f.E g).rules x=some ⟨true,t⟩:=by
   rw[←hxs t ht,hz,hc];simp
  refine zB4 ?_
  refine AW.le (OwnLe.skip _ (own_zeed' _ _ _ _)) ?_
  exact AW.ret ⟨_,[_],⟨_,_,rfl,rfl,rfl⟩,zsb,_,rfl,f,rfl,h,rfl,rfl,.inr ⟨hno,rfl,rfl⟩⟩
 ·have hc:z=true:=by simpa using hc
  have hyes:∃x∈LZ f.s f.s.k,nextOf (trimmed f.E g).rules x=some ⟨true,t⟩:=by
   rw[←hxs t ht,hz,hc]
  refine zB4 ?_
  refine WT.call1F 3 Tryd.func55 Z Z Z Z Z Z Z (fun _=>rfl) (cputS_spec F (trimmed f.E g) (trim_right hg _) (trim_len hg _) (QP_inv _ (f.w++[t])) (h.chart.weaken (QP_more hk t)) zo t (QP_scan hk t)) (fun F1 v B1 hF1 hv1=>?_)
  obtain⟨s',rfl,hs',hk',last,new,hlast,hold,hsc,hcl⟩:=hv1
  refine zB4 ?_
  refine WT.buildT hT Z Z Z Z Z Z Z Z Z Z Z Z Z Z (fun i43 hi43=>?_)
  refine WT.appendG (ys:=[t]) hT 3 (h.word.mono hF1) Z (fun _=>rfl) Z Z Z Z Z Z Z Z Z Z Z (fun h0 s0=>news_own hT s0 0 Z Z Z Z) (Cells.single (R:=tNat) (x:=t) rfl) Z (by decide) zom (fun wa' wc' BW' hBW'=>?_)
  refine zB4 ?_
  refine AW.le (OwnLe.skip _ (OwnLe.skip _ (own_zeed' _ _ _ _))) ?_
  refine AW.ret ⟨_,[_],⟨_,_,rfl,rfl,rfl⟩,zsb,_,rfl,{ f with s:=s',wa:=wa',wn:=f.wn+1,wc:=wc',BW:=BW',w:=f.w++[t] },rfl,⟨h.rules.mono hF1,h.ends,hs',?_,?_,hBW'.gb,?_⟩,rfl,rfl,.inl ⟨hyes,rfl,rfl⟩⟩
  ·show s'.k=(f.w++[t]).length
   rw[hk',hk];simp
  ·exact sets_putZ h.sets hk hk' h.chart.len hlast hold (fun x hx=>(hs'.all _ _ (by rw[hold,List.getElem?_append_right (by have:=h.chart.len;omega),show f.s.k+1-f.s.lists.length=0 by have:=h.chart.len;omega];rfl) x hx).1) hsc hcl
  ·intro t' ht'
   rcases List.mem_append.1 ht' with h1 | h1
   ·exact h.ok t' h1
   ·simp at h1;subst h1;exact ht
def hCells(g:Gram)(q:ChP)(s:CSt):List Value:=[.int .i64 g.terms,.int .i64 g.nons,.int .i64 g.start,.slice q.ra q.rm q.rc,.slice s.la (s.k+1) s.lc]
def hB(g:Gram)(q:ChP)(s:CSt):List (Nat×Blk):=(q.ic,.cells false (hCells g q s))::(s.BL++s.BX)
structure HOk(g:Gram)(Q:Nat→Item→Prop)(q:ChP)(F:Frz)(s:CSt):Prop where
 rules:Arr tRule F q.ra q.rm q.rc g.rules
 list:Bld tRaw F s.la (s.k+1) s.lc s.BL (s.us++[.slice s.xa s.xn s.xc])
 usl:s.us.length=s.k
 oldl:s.old.length=s.k
 olds:∀(j:Nat) (l:List Item),s.old[j]?=some l→∃a n c,s.us[j]?=some (.slice a n c)∧Arr tItem F a n c l
 last:Bld tItem F s.xa s.xn s.xc s.BX s.last
 nodup:s.last.Nodup
 qold:∀(j:Nat) (l:List Item),s.old[j]?=some l→∀x∈l,Q j x
 qlast:∀x∈s.last,Q s.k x
 small:s.k≤20
 olen:∀(j:Nat) (l:List Item),s.old[j]?=some l→l.length≤3360
 ndold:∀(j:Nat) (l:List Item),s.old[j]?=some l→l.Nodup
theorem HOk.mono{g:Gram}{Q:Nat→Item→Prop}{q:ChP}{F G:Frz}{s:CSt}(h:HOk g Q q F s)(hF:Frz.le F G):HOk g Q q G s:=
 ⟨h.rules.mono hF,h.list.mono hF,h.usl,h.oldl,fun j l hj=>by obtain⟨a,n,c,h1,h2⟩:=h.olds j l hj;exact⟨a,n,c,h1,h2.mono hF⟩,h.last.mono hF,h.nodup,h.qold,h.qlast,h.small,h.olen,h.ndold⟩
theorem HOk.few{g:Gram}(hg:∀r∈g.rules,r.right.length≤4)(hgl:g.rules.length≤32){Q:Nat→Item→Prop}(hQ:QInv g Q){q:ChP}{F:Frz}{s:CSt}(h:HOk g Q q F s):s.last.length≤g.rules.length*5*(s.k+1)∧g.rules.length*5*(s.k+1)≤3360:=by
 refine⟨items_few hg h.nodup (fun x hx=>hQ.ok _ _ (h.qlast x hx)),?_⟩
 have h1:g.rules.length*5*(s.k+1)≤160*21:=Nat.mul_le_mul zo (by have:=h.small;omega)
 omega
theorem HOk.uk{g:Gram}{Q:Nat→Item→Prop}{q:ChP}{F:Frz}{s:CSt}(h:HOk g Q q F s):(s.us++[.slice s.xa s.xn s.xc])[s.k]?=some (.slice s.xa s.xn s.xc):=by
 have:=h.usl
 rw[List.getElem?_append_right zo];simp[show s.k-s.us.length=0 by omega]
theorem hsubL{g:Gram}{q:ChP}{s:CSt}:∀z,z∈s.BL→z∈hB g q s:=fun z hz=>by unfold hB;simp[hz]
theorem hsubX{g:Gram}{q:ChP}{s:CSt}:∀z,z∈s.BX→z∈hB g q s:=fun z hz=>by unfold hB;simp[hz]
theorem HOk.at_{g:Gram}{Q:Nat→Item→Prop}{q:ChP}{F:Frz}{s:CSt}(h:HOk g Q q F s){j:Nat}(hj:j≤s.k):∃a n c,(s.us++[.slice s.xa s.xn s.xc])[j]?=some (.slice a n c)∧
  (∀G,Frz.le F G→(∀i b,(i,b)∈hB g q s→G i=some b)→Arr tItem G a n c (LS s j))∧∀x∈LS s j,Q j x:=by
 by_cases hk:j=s.k
 ·subst hk
  refine⟨_,_,_,h.uk,fun G hG hB=>?_,fun x hx=>?_⟩
  ·unfold LS;rw[if_pos rfl]
   exact h.last.frozen hG (fun i b hb=>hB i b (hsubX _ hb))
  ·unfold LS at hx;rw[if_pos rfl] at hx
   exact h.qlast x hx
 ·have hl:j<s.old.length:=by have:=h.oldl;omega
  obtain⟨a,n,c,h1,h2⟩:=h.olds j _ (gE hl)
  have e:LS s j=s.old[j]:=by unfold LS;rw[if_neg hk,List.getD_eq_getElem?_getD,gE hl];rfl
  refine⟨a,n,c,by rw[List.getElem?_append_left (by have:=h.usl;omega)];exact h1,fun G hG _=>by rw[e];exact h2.mono hG,fun x hx=>?_⟩
  rw[e] at hx
  exact h.qold j _ (gE hl) x hx
theorem HOk.few'{g:Gram}(hg:∀r∈g.rules,r.right.length≤4)(hgl:g.rules.length≤32){Q:Nat→Item→Prop}(hQ:QInv g Q){q:ChP}{F:Frz}{s:CSt}(h:HOk g Q q F s)(j:Nat):(LS s j).length≤3360:=by
 unfold LS
 split
 ·have:=h.few hg hgl hQ;omega
 ·rw[List.getD_eq_getElem?_getD]
  cases e:s.old[j]? with
  | none=>simp
  | some l=>simpa using h.olen j l e
theorem hClone_spec(F:Frz){a:Option Addr}{m c:Nat}{xs:List Item}(hx:Arr tItem F a m c xs)(hm:m≤1000000) :
  Abs.Spec CC 81 [.slice a m c] F [] fun F' v o=>∃B',o=[B']∧∃a' c',v=.slice a' m c'∧Vec tItem F' a' m c' B' xs:=by
 refine Abs.Spec.fn (n:=8) Tryd.func81 rfl rfl fun own=>?_
 refine zB4 ?_
 refine WT.sliceNil hT Z Z Z Z Z Z Z Z ?_
 refine zB4 ?_
 refine AW.cond Z (fun h=>?_) (fun h=>?_)
 ·obtain rfl:a=none:=by simpa using h
  obtain⟨rfl,rfl⟩:=hx.nil rfl
  obtain rfl:xs=[]:=List.eq_nil_of_length_eq_zero hx.len.symm
  refine zB4 ?_
  refine AW.le (own2:=[]::own) (OwnLe.flat (List.Perm.refl _)) ?_
  exact AW.ret ⟨_,[[]],⟨_,_,rfl,rfl,rfl⟩,zsb,_,rfl,_,_,rfl,(Bld.nil_ _ _).vec⟩
 ·refine zB4 ?_
  refine WT.buildT hT Z Z Z Z Z Z Z Z Z Z Z Z Z Z (fun i5 hi5=>?_)
  refine zB4 ?_
  obtain⟨ds,hds,hcs⟩:=news_arr hT hx (t:=102) rfl rfl 104
  refine WT.appendE hT Z Z Z Z Z Z Z Z Z Z Z Z (fun h0 s0=>hds _ h0 s0) hcs hx.len (by decide) zom (fun a' c' B' hB' _=>?_)
  refine zB4 ?_
  refine AW.le (OwnLe.cons _ (OwnLe.skip _ oR)) ?_
  exact AW.ret ⟨_,[_],⟨_,_,rfl,rfl,rfl⟩,zsb,_,rfl,_,_,rfl,hB'⟩
theorem hIndex_spec(F:Frz){a:Option Addr}{m c:Nat}{xs:List Item}(hx:Arr tItem F a m c xs)(hm:m≤1000000)(x:Item) :
  Abs.Spec CC 99 [.slice a m c,.agg ⟨[.int .i64 x.rule,.int .i64 x.dot,.int .i64 x.frm]⟩] F [] fun _ v o=>o=[]∧∃i:Int,v=.int .i64 i∧(0≤i↔x∈xs):=by
 refine Abs.Spec.fn (n:=19) Tryd.func99 rfl rfl fun own=>?_
 have hxlen:=hx.len
 refine AW.seq (AW.reg ?_)
 refine WT.boxT Z Z Z Z Z Z (fun i3 hi3=>?_)
 refine zB4 ?_
 refine AW.range (S:=Unit) (fun _=>[]) (fun _=>_) (fun j _ G=>x∉xs.take j) m () Z Z Z Z Z Z Z Z Z zo Z Z (fun _=>rfl) (fun _=>rfl) sM oR (by simp) ?_ ?_
 ·intro j _ F1 hF1 hj hP
  have hx1:=hx.mono hF1
  refine zB4 ?_
  refine WT.idxL hT hx1 Z Z Z Z Z Z Z Z Z zo (fun y hyj b1 off ro cs ly hb hp1 hrel=>?_)
  obtain rfl:ly=_:=hrel
  have he:=item_eq x y
  refine zB4 ?_
  refine AW.cond Z (fun hc=>?_) (fun hc=>?_)
  ·refine zB4 ?_
   have e:x=y:=of_decide_eq_true (he.symm.trans hc)
   subst e
   refine AW.ret ⟨_,[],⟨_,_,rfl,rfl,rfl⟩,zsb,rfl,_,rfl,?_⟩
   exact⟨fun _=>gM hyj,fun _=>by omega⟩
  ·have e:x≠y:=of_decide_eq_false (he.symm.trans hc)
   refine zB4 ?_
   refine⟨(),sM,zow,?_⟩
   show x∉xs.take (j+1)
   rw[List.take_add_one,hyj]
   intro hm
   rcases List.mem_append.1 hm with h | h
   ·exact hP h
   ·exact e (by simpa using h)
 ·intro _ F1 hF1 hP
  rw[List.take_of_length_le zo] at hP
  refine zB4 ?_
  exact AW.ret ⟨_,[],⟨_,_,rfl,rfl,rfl⟩,zsb,rfl,_,rfl,by simp[hP]⟩
theorem hContains_spec(F:Frz){a:Option Addr}{m c:Nat}{xs:List Item}(hx:Arr tItem F a m c xs)(hm:m≤1000000)(x:Item) :
  Abs.Spec CC 93 [.slice a m c,.agg ⟨[.int .i64 x.rule,.int .i64 x.dot,.int .i64 x.frm]⟩] F [] fun _ v o=>o=[]∧v=.bool (decide (x∈xs)):=by
 refine Abs.Spec.fn (n:=9) Tryd.func93 rfl rfl fun own=>?_
 refine AW.seq (AW.reg ?_)
 refine WT.boxT Z Z Z Z Z Z (fun i3 hi3=>?_)
 refine zB4 ?_
 refine WT.callV Tryd.func99 Z Z Z Z Z Z (hIndex_spec _ hx hm x) (fun v hv=>?_)
 obtain⟨i,rfl,hi⟩:=hv
 refine zB4 ?_
 refine AW.ret ⟨_,[],⟨_,_,rfl,rfl,rfl⟩,zsb,rfl,?_⟩
 rw[show decide (x∈xs)=decide (0≤i) from by simp[hi]]
 rfl
theorem hnext_spec(G:Frz)(g:Gram)(hg:∀r∈g.rules,r.right.length≤4){q:ChP}{s:CSt}(hb:G q.ic=some (.cells false (hCells g q s)))(hr:Arr tRule G q.ra q.rm q.rc g.rules){k:Nat}{x:Item}(hx:ItemOk g.rules k x) :
  Abs.Spec CC 52 [.pointer (some ⟨q.ic,0,none⟩),.agg ⟨[.int .i64 x.rule,.int .i64 x.dot,.int .i64 x.frm]⟩] G [] fun _ v o=>o=[]∧
   ((nextOf g.rules x=none∧(∃r,g.rules[x.rule]?=some r∧x.dot=r.right.length)∧v=.tuple ⟨[.agg ⟨[.bool false,.int .i64 0]⟩,.bool false]⟩)∨∃y,nextOf g.rules x=some y∧v=.tuple ⟨[.agg ⟨[.bool y.term,.int .i64 y.n]⟩,.bool true]⟩):=by
 obtain⟨r,hrr,hd,hf⟩:=hx
 have hlt:=(gS hrr).1
 have hrl:=hr.len
 have hr4:=hg r (gM hrr)
 unfold hCells at hb
 refine Abs.Spec.fn (n:=28) Tryd.func52 rfl rfl fun own=>?_
 refine AW.seq (AW.reg ?_)
 refine WT.boxT Z Z Z Z Z Z (fun i3 hi3=>?_)
 refine WT.allocT hT Z Z Z Z Z Z (fun i4 hi4=>?_)
 refine zB4 ?_
 refine WT.idxL hT hr Z Z Z Z Z Z Z Z Z zo (fun r' hr' b off ro cs lx hb1 hp1 hrel=>?_)
 obtain rfl:r=r':=by rw[hrr] at hr';exact Option.some.inj hr'
 obtain⟨ra,rn,rc,rfl,hra⟩:=hrel
 have hral:=hra.len
 refine zB4 ?_
 by_cases hdl:x.dot=rn
 ·refine AW.cond Z (fun h=>(by simp[hdl] at h)) (fun _=>?_)
  refine zB4 ?_
  exact AW.ret ⟨_,[],⟨_,_,⟨_,rfl,fun G h0 s0=>loadA_cells (s0.has (p:=0) rfl me) (readT_ok hT rfl)⟩,⟨_,_,rfl,rfl,rfl⟩,rfl⟩,zsb,rfl,.inl ⟨by unfold nextOf;rw[hrr];show r.right[x.dot]?=none;rw[List.getElem?_eq_none_iff];omega,⟨r,hrr,by omega⟩,rfl⟩⟩
 ·refine AW.cond Z (fun h=>?_) (fun h=>absurd (by simp at h;omega) hdl)
  refine zB4 ?_
  refine WT.idxL hT hra Z Z Z Z Z Z Z Z Z zo (fun y hy b3 off3 ro3 cs3 lx3 hb3 hp3 hrel3=>?_)
  obtain rfl:lx3=_:=hrel3
  refine zB4 ?_
  exact AW.ret ⟨_,[],⟨_,_,⟨_,rfl,fun G h0 s0=>loadA_cells (s0.has (p:=0) rfl me) (readT_ok hT rfl)⟩,⟨_,_,rfl,rfl,rfl⟩,rfl⟩,zsb,rfl,.inr ⟨y,by unfold nextOf;rw[hrr];exact hy,rfl⟩⟩
theorem hadd_spec(F:Frz)(g:Gram){Q:Nat→Item→Prop}{q:ChP}{s:CSt}(h:HOk g Q q F s)(hlen:s.last.length≤100000)(x:Item)(hx:Q s.k x) :
  Abs.Spec CC 80 [.pointer (some ⟨q.ic,0,none⟩),.agg ⟨[.int .i64 x.rule,.int .i64 x.dot,.int .i64 x.frm]⟩] F [hB g q s] fun F' v o=>
   ∃B',o=[B']∧∃s',B'=hB g q s'∧HOk g Q q F' s'∧Grows s s' (fun y=>y=x)∧x∈s'.last:=by
 have hsmall:=h.small
 have hul:=h.list.len
 have hxl:=h.last.len
 have huk:=h.uk
 unfold hB hCells
 refine Abs.Spec.fn (n:=37) Tryd.func80 rfl rfl fun own=>?_
 refine AW.le (own_zeed _ _ _ _) ?_
 refine AW.seq (AW.reg ?_)
 refine WT.boxT Z Z Z Z Z Z (fun i3 hi3=>?_)
 refine zB4 ?_
 refine WT.know (v':=.int .i64 (s.k:Nat)) 15 Z (by congr 1;omega) ?_
 refine WT.know (v':=.int .i64 (s.k:Nat)) 4 Z (by congr 1;omega) ?_
 refine WT.vidx hT h.list.vec Z Z Z Z Z Z Z Z Z zo (fun b5 hb5=>?_)
 refine WT.vld1 (v:=.slice s.xa s.xn s.xc) hT 2 h.list.vec hb5 huk Z Z Z Z Z Z Z Z Z (fun l h=>h.1) ?_
 refine zB4 ?_
 refine WT.callLend 3 Tryd.func93 Z Z Z Z Z Z Z (fun G hG hBG=>hContains_spec G (h.last.frozen hG hBG) zo x) (fun v hv=>?_)
 subst hv
 refine zB4 ?_
 refine AW.cond Z (fun hc=>?_) (fun hc=>?_)
 ·have hin:x∉s.last:=by simpa using hc
  skip
  refine AW.draw (ps:=[(3,13),(3,14),(8,13),(11,13)]) Z Z ?_
  refine zB4 ?_
  refine WT.vidx hT h.list.vec Z Z Z Z Z Z Z Z Z zo (fun b7 hb7=>?_)
  refine WT.vld1 (v:=.slice s.xa s.xn s.xc) hT 2 h.list.vec hb7 huk Z Z Z Z Z Z Z Z Z (fun l h=>h.1) ?_
  refine zB4 ?_
  refine WT.buildT hT Z Z Z Z Z Z Z Z Z Z Z Z Z Z (fun i42 hi42=>?_)
  refine WT.appendT (ys:=[x]) hT 4 h.last Z (fun _=>rfl) Z Z Z Z Z Z Z Z Z Z Z (fun h0 s0=>news_own hT s0 0 Z Z Z Z) (Cells.single (R:=tItem) (x:=x) rfl) Z (by decide) zom (fun xa' xc' BX' hBX'=>?_)
  skip
  refine WT.vidx hT h.list.vec Z Z Z Z Z Z Z Z Z zo (fun b8 hb8=>?_)
  refine WT.vst (y:=.slice xa' (s.xn+1) xc') hT 3 h.list.vec hb8 huk Z Z Z Z Z ⟨rfl,rfl⟩ Z (fun _=>rfl) Z (fun BL' hBL'=>?_)
  have hset:(s.us++[Value.slice s.xa s.xn s.xc]).set s.k (.slice xa' (s.xn+1) xc')=s.us++[.slice xa' (s.xn+1) xc']:=by
   have:=h.usl
   rw[List.set_append_right _ _ zo,show s.k-s.us.length=0 by omega];rfl
  rw[hset] at hBL'
  refine WT.le (OwnLe.skip _ (OwnLe.skip _ (own_zeed' _ _ _ _))) ?_
  refine zB4 ?_
  obtain⟨il,lcs,hla,hBL,_⟩:=h.list.vec.at_ huk
  have hmem:(b7,Blk.cells false lcs)∈s.BL:=by
   rw[hla] at hb7
   injection hb7 with hb7
   injection hb7 with hb7
   rw[hBL,hb7];exact List.mem_cons_self ..
  refine⟨zrA,?_⟩
  skip
  refine⟨_,[_],rfl,zsb,_,rfl,{ s with last:=s.last++[x],la:=s.la,BL:=BL',xa:=xa',xn:=s.xn+1,xc:=xc',BX:=BX' },rfl,?_,⟨rfl,rfl,[x],rfl,fun y hy=>List.mem_singleton.1 hy⟩,by simp⟩
  refine⟨h.rules,hBL'.bld (by simp),h.usl,h.oldl,h.olds,hBX',?_,h.qold,fun y hy=>?_,h.small,h.olen,h.ndold⟩
  ·show (s.last++[x]).Nodup
   rw[List.nodup_append]
   refine⟨h.nodup,by simp,fun a ha b hb=>?_⟩
   obtain rfl:=List.mem_singleton.1 hb
   rintro rfl
   exact hin ha
  ·rcases List.mem_append.1 hy with hy | hy
   ·exact h.qlast y hy
   ·obtain rfl:=List.mem_singleton.1 hy;exact hx
 ·have hin:x∈s.last:=by simpa using hc
  refine AW.le (OwnLe.skip _ (own_zeed' _ _ _ _)) ?_
  refine zB4 ?_
  exact⟨_,[_],rfl,zsb,_,rfl,s,rfl,h,Grows.refl _ _,hin⟩
theorem hpredict_spec(F:Frz)(g:Gram)(hg:∀r∈g.rules,r.right.length≤4)(hgl:g.rules.length≤32){Q:Nat→Item→Prop}(hQ:QInv g Q){q:ChP}{s:CSt}(h:HOk g Q q F s)(y:Sym)
  (hy:y.term=false→∀i r,g.rules[i]?=some r→r.left=y.n→Q s.k ⟨i,0,s.k⟩) :
  Abs.Spec CC 48 [.pointer (some ⟨q.ic,0,none⟩),.agg ⟨[.bool y.term,.int .i64 y.n]⟩] F [hB g q s] fun F' v o=>
   ∃B',o=[B']∧∃s',B'=hB g q s'∧HOk g Q q F' s'∧Grows s s' (fun _=>True)∧∀i r,g.rules[i]?=some r→y.term=false→r.left=y.n→(⟨i,0,s.k⟩:Item)∈s'.last:=by
 have hrl:=h.rules.len
 have hsm:=h.small
 refine Abs.Spec.fn (n:=33) Tryd.func48 rfl rfl fun own=>?_
 refine AW.seq (AW.reg ?_)
 refine WT.boxT Z Z Z Z Z Z (fun i3 hi3=>?_)
 refine zB4 ?_
 refine AW.range (S:=CSt) (fun _=>[]) (fun t=>[(i3,.cells false [.bool y.term,.int .i64 y.n])]::hB g q t::own)
  (fun j t G=>HOk g Q q G t∧Grows s t (fun _=>True)∧∀i r,i<j→g.rules[i]?=some r→y.term=false→r.left=y.n→(⟨i,0,s.k⟩:Item)∈t.last) q.rm s
  Z Z Z Z Z Z Z Z Z zo rfl rfl (fun _=>rfl) (fun _=>rfl) sM oR ⟨h,Grows.refl _ _,fun i r hi=>absurd hi (Nat.not_lt_zero _)⟩ ?_ ?_
 ·intro j t F1 hF1 hj hP
  obtain⟨ht,hgr,hin⟩:=hP
  have htk:=hgr.k
  refine zB4 ?_
  refine WT.idxL hT ht.rules Z Z Z Z Z Z Z Z Z zo (fun r hrj b off ro cs lx hb1 hp1 hrel=>?_)
  obtain⟨ra,rn,rc,rfl,hra⟩:=hrel
  refine zB4 ?_
  refine WT.allocT hT Z Z Z Z Z Z (fun i5 hi5=>?_)
  refine zB4 ?_
  have next:∀u:CSt,Grows t u (fun _=>True)→(y.term=false→r.left=y.n→(⟨j,0,s.k⟩:Item)∈u.last)→∀i r,i<j+1→g.rules[i]?=some r→y.term=false→r.left=y.n→(⟨i,0,s.k⟩:Item)∈u.last:=by
   intro u hu h1 i r' hi hr' hty hl
   rcases Nat.lt_or_ge i j with h2 | h2
   ·exact hu.mem (hin i r' h2 hr' hty hl)
   ·obtain rfl:i=j:=by omega
    rw[hrj] at hr'
    obtain rfl:=Option.some.inj hr'
    exact h1 hty hl
  refine AW.draw (ps:=[(0,3)]) Z Z ?_
  refine zB4 ?_
  refine WT.callV Tryd.func49 Z Z Z Z Z Z (gN_spec _ _) (fun v hv=>?_)
  subst hv
  refine zB4 ?_
  refine⟨zrC,?_⟩
  skip
  have h1:=sym_eq y ⟨false,r.left⟩
  refine AW.cond Z (fun hc=>?_) (fun hc=>?_)
  ·have hz:y=(⟨false,r.left⟩:Sym):=of_decide_eq_true (h1.symm.trans hc)
   have hty:y.term=false:=by rw[hz]
   have hyl:r.left=y.n:=by rw[hz]
   refine zB4 ?_
   refine WT.know (v':=.agg ⟨[.int .i64 (j:Nat),.int .i64 0,.int .i64 (s.k:Nat)]⟩) 30 Z (by rw[show ((t.k+1:Nat):Int)-1=(s.k:Nat) by omega]) ?_
   refine WT.call1F 2 Tryd.func80 Z Z Z Z Z Z Z (fun _=>rfl) (hadd_spec _ g ht (by have:=(ht.few hg hgl hQ);omega) ⟨j,0,s.k⟩ (by rw[htk];exact hy hty j r hrj hyl)) (fun F2 v B2 hF2 hv=>?_)
   obtain⟨u,rfl,hu,hgu,hmem⟩:=hv
   refine zB4 ?_
   have hgu':=hgu.mono (P':=fun _=>True) (fun _ _=>trivial)
   exact⟨u,sM,zow,hu,hgr.trans hgu',next u hgu' (fun _ _=>hmem)⟩
  ·have hz:y≠(⟨false,r.left⟩:Sym):=of_decide_eq_false (h1.symm.trans hc)
   refine zB4 ?_
   exact⟨t,sM,zow,ht,hgr,next t (Grows.refl _ _) (fun h2 h3=>absurd (by cases y;simp only at h2 h3;rw[h2,h3]) hz)⟩
 ·intro t F1 hF1 hP
  obtain⟨ht,hgr,hin⟩:=hP
  exact⟨_,[_],rfl,zsb,_,rfl,t,rfl,ht,hgr,fun i r hr=>hin i r (by have:=(gS hr).1;omega) hr⟩
theorem hcomplete_spec(F:Frz)(g:Gram)(hg:∀r∈g.rules,r.right.length≤4)(hgl:g.rules.length≤32){Q:Nat→Item→Prop}(hQ:QInv g Q){q:ChP}{s0:CSt}(h:HOk g Q q F s0) :
  Abs.Spec CC 50 [.pointer (some ⟨q.ic,0,none⟩)] F [hB g q s0] fun F' v o=>
   ∃B',o=[B']∧∃s',B'=hB g q s'∧HOk g Q q F' s'∧Grows s0 s' (fun _=>True)∧∀x∈s'.last,ItemClosed g.rules (LS s') s'.k x:=by
 have hsm:=h.small
 refine Abs.Spec.fn (n:=115) Tryd.func50 rfl rfl fun own=>?_
 refine zB4 ?_
 refine AW.know (v':=.int .i64 (s0.k:Nat)) 2 Z (by congr 1;omega) ?_
 refine AW.block ?_
 refine AW.loopR (S:=CI) (fun w=>[(3,.int .i64 w.n)]) (fun w=>hB g q w.s::own) (fun w G=>HOk g Q q G w.s∧Grows s0 w.s (fun _=>True)∧w.n≤w.s.last.length∧(w.n=w.s.last.length→∀x∈w.s.last,ItemClosed g.rules (LS w.s) s0.k x))
  (fun w=>2*(g.rules.length*5*(s0.k+1)-w.s.last.length)+(if w.n=w.s.last.length then 0 else 1)) ⟨s0,-1⟩ sM oR ⟨h,Grows.refl _ _,by dsimp only;omega,fun e=>by dsimp only at e;omega⟩ ?_
 intro p F1 hF1 hP
 obtain⟨hs,hgr,hnl,hcl⟩:=hP
 have hk:=hgr.k
 have hfew:=hs.few hg hgl hQ
 have hxl:=hs.last.len
 have huk:=hs.uk
 rw[hk] at huk
 refine zB4 ?_
 refine WT.vidx hT hs.list.vec Z Z Z Z Z Z Z Z Z zo (fun b1 hb1=>?_)
 refine WT.wld1 (v:=.slice p.s.xa p.s.xn p.s.xc) hT 0 hs.list.vec hb1 huk Z Z Z Z Z Z hsubL Z Z Z (fun l h=>h.1) ?_
 refine zB4 ?_
 refine AW.cond Z (fun hne=>?_) (fun heq=>?_)
 ·have hne:p.n≠p.s.last.length:=by simp at hne;omega
  refine zB4 ?_
  refine AW.block ?_
  refine zB4 ?_
  refine WT.vidx hT hs.list.vec Z Z Z Z Z Z Z Z Z zo (fun b2 hb2=>?_)
  refine WT.wld1 (v:=.slice p.s.xa p.s.xn p.s.xc) hT 0 hs.list.vec hb2 huk Z Z Z Z Z Z hsubL Z Z Z (fun l h=>h.1) ?_
  refine zB4 ?_
  refine AW.block ?_
  refine AW.loopR (S:=CJ) (fun w=>[(4,.int .i64 (w.i:Nat))]) (fun w=>hB g q w.s::own) (fun w G=>HOk g Q q G w.s∧Grows p.s w.s (fun _=>True)∧w.i≤w.s.last.length∧(w.s.last=p.s.last→∀x∈p.s.last.take w.i,ItemClosed g.rules (LS w.s) s0.k x))
   (fun w=>g.rules.length*5*(s0.k+1)-w.i) ⟨p.s,0⟩ sM oR ⟨hs,Grows.refl _ _,Nat.zero_le _,fun _ x hx=>by simp at hx⟩ ?_
  intro c F2 hF2 hP2
  obtain⟨ht,hgt,hil,hcl2⟩:=hP2
  have hk2:c.s.k=s0.k:=hgt.k.trans hk
  have hfew2:=ht.few hg hgl hQ
  rw[hk2] at hfew2
  have hxl2:=ht.last.len
  have huk2:=ht.uk
  rw[hk2] at huk2
  refine zB4 ?_
  refine WT.vidx hT ht.list.vec Z Z Z Z Z Z Z Z Z zo (fun b3 hb3=>?_)
  refine WT.wld1 (v:=.slice c.s.xa c.s.xn c.s.xc) hT 0 ht.list.vec hb3 huk2 Z Z Z Z Z Z hsubL Z Z Z (fun l h=>h.1) ?_
  refine zB4 ?_
  refine AW.cond Z (fun hlt=>?_) (fun hge=>?_)
  ·have hlt:c.i<c.s.last.length:=by simp at hlt;omega
   obtain⟨x,hx⟩:∃x,c.s.last[c.i]?=some x:=⟨_,gE hlt⟩
   have hQx:=ht.qlast x (gM hx)
   rw[hk2] at hQx
   have hxok:=hQ.ok _ _ hQx
   have fin:∀(u:CSt) (G:Frz),HOk g Q q G u→Grows c.s u (fun _=>True)→(u.last=c.s.last→ItemClosed g.rules (LS u) s0.k x)→
     HOk g Q q G u∧Grows p.s u (fun _=>True)∧c.i+1≤u.last.length∧(u.last=p.s.last→∀z∈p.s.last.take (c.i+1),ItemClosed g.rules (LS u) s0.k z):=by
    intro u G hu hgu hx2
    refine⟨hu,hgt.trans hgu,?_,fun e z hz=>?_⟩
    ·obtain⟨new,e,_⟩:=hgu.last
     rw[e,List.length_append];omega
    ·have e1:c.s.last=p.s.last:=by
      obtain⟨n1,e1,_⟩:=hgt.last
      obtain⟨n2,e2,_⟩:=hgu.last
      rw[e2,e1] at e
      have:=congrArg List.length e
      simp only[List.length_append] at this
      have:n1=[]:=List.eq_nil_of_length_eq_zero zo
      rw[e1,this,List.append_nil]
     have eL:LS u=LS c.s:=by
      funext j
      unfold LS
      rw[hgu.k,hgu.old,e,e1]
     rw[List.take_add_one,←e1,hx] at hz
     rcases List.mem_append.1 hz with hz | hz
     ·rw[eL];rw[e1] at hz;exact hcl2 e1 z hz
     ·simp at hz;subst hz;exact hx2 (e.trans e1.symm)
   refine zB4 ?_
   refine AW.block ?_
   refine zB4 ?_
   refine WT.vidx hT ht.list.vec Z Z Z Z Z Z Z Z Z zo (fun b4 hb4=>?_)
   refine WT.wld1 (v:=.slice c.s.xa c.s.xn c.s.xc) hT 0 ht.list.vec hb4 huk2 Z Z Z Z Z Z hsubL Z Z Z (fun l h=>h.1) ?_
   refine zB4 ?_
   refine WT.vidx hT ht.last.vec Z Z Z Z Z Z Z Z Z zo (fun b5 hb5=>?_)
   refine WT.wldS hT 0 ht.last.vec hb5 hx Z Z Z Z Z Z hsubX Z Z Z (fun l hl=>?_)
   obtain rfl:l=_:=hl
   skip
   refine WT.allocT hT Z Z Z Z Z Z (fun i5 hi5=>?_)
   refine zB4 ?_
   refine WT.callLend 1 Tryd.func52 Z Z Z Z Z Z Z (fun G hG hBG=>hnext_spec G g hg (hBG _ _ me) (ht.rules.mono hG) hxok) (fun v hv=>?_)
   rcases hv with ⟨hno,⟨r,hr,hd⟩,rfl⟩ | ⟨y,hyn,rfl⟩
   ·refine zB4 ?_
    refine WT.allocT hT Z Z Z Z Z Z (fun i6 hi6=>?_)
    refine zB4 ?_
    refine AW.cond Z (fun h=>(by cases h)) (fun _=>?_)
    have hfk:x.frm≤c.s.k:=by obtain⟨_,_,_,h3⟩:=hxok;omega
    obtain⟨a',n',c',hat,harr,hqs⟩:=ht.at_ hfk
    have hfl:=ht.few' hg hgl hQ x.frm
    refine zB4 ?_
    refine WT.vidx hT ht.list.vec Z Z Z Z Z Z Z Z Z zo (fun b6 hb6=>?_)
    refine WT.wld1 (v:=.slice a' n' c') hT 2 ht.list.vec hb6 hat Z Z Z Z Z Z hsubL Z Z Z (fun l h=>h.1) ?_
    refine WT.callLendN (P:=fun v B'=>∃a2 c2,v=.slice a2 n' c2∧Vec tItem F2 a2 n' c2 B' (LS c.s x.frm)) 2 Tryd.func81 Z Z Z Z Z Z Z (fun G hG hBG=>Spec.mono (hClone_spec G (harr G hG hBG) (by have:=(harr G hG hBG).len;omega)) (fun F' v o _ hv=>by
     obtain⟨B',e,a2,c2,e2,hv⟩:=hv
     exact⟨B',e,a2,c2,e2,Vec.itemAny hv⟩)) (fun v BC hv=>?_)
    obtain⟨a2,c2,rfl,hcv⟩:=hv
    refine WT.freezeAll 0 Z Z (fun F3 hF3 hB3=>?_)
    have hya:=hcv.arr hF3 hB3
    have hyl:=hya.len
    have ht3:=ht.mono hF3
    refine zB4 ?_
    refine AW.range (S:=CSt) (fun _=>[]) (fun u=>[]::[(i6,.cells false [.bool false,.int .i64 0])]::[(i5,.cells false [.int .i64 x.rule,.int .i64 x.dot,.int .i64 x.frm])]::hB g q u::own)
     (fun j u G=>HOk g Q q G u∧Grows c.s u (fun _=>True)∧∀y∈(LS c.s x.frm).take j,nextOf g.rules y=some ⟨false,r.left⟩→stepItem y∈u.last) n' c.s
     Z Z Z Z Z Z Z Z Z zo rfl rfl (fun _=>rfl) (fun _=>rfl) sM oR ⟨ht3,Grows.refl _ _,fun y hy=>by simp at hy⟩ ?_ ?_
    ·intro j u F4 hF4 hj hP4
     obtain⟨hu,hgu,hin⟩:=hP4
     have hku:u.k=s0.k:=hgu.k.trans hk2
     have hya4:=hya.mono hF4
     have hfew4:=hu.few hg hgl hQ
     refine zB6 ?_
     refine WT.idxL hT hya4 Z Z Z Z Z Z Z Z Z zo (fun y hyj b7 off7 ro7 cs7 lx7 hb7 hp7 hrel7=>?_)
     obtain rfl:lx7=_:=hrel7
     have hQy:=hqs y (gM hyj)
     have hyok:=hQ.ok _ _ hQy
     have next:∀w:CSt,Grows u w (fun _=>True)→(nextOf g.rules y=some ⟨false,r.left⟩→stepItem y∈w.last)→∀z∈(LS c.s x.frm).take (j+1),nextOf g.rules z=some ⟨false,r.left⟩→stepItem z∈w.last:=by
      intro w hw h1 z hz hn
      rw[List.take_add_one,hyj] at hz
      rcases List.mem_append.1 hz with hz | hz
      ·exact hw.mem (hin z hz hn)
      ·simp at hz;subst hz;exact h1 hn
     refine zB6 ?_
     refine WT.allocT hT Z Z Z Z Z Z (fun i9 hi9=>?_)
     refine zB6 ?_
     refine WT.callLend 4 Tryd.func52 Z Z Z Z Z Z Z (fun G hG hBG=>hnext_spec G g hg (hBG _ _ me) (hu.rules.mono hG) hyok) (fun v hv=>?_)
     rcases hv with ⟨hno2,_,rfl⟩ | ⟨z,hzn,rfl⟩
     ·refine zB6 ?_
      refine WT.allocT hT Z Z Z Z Z Z (fun i10 hi10=>?_)
      refine zB6 ?_
      refine AW.draw (ps:=[(2,13)]) Z Z ?_
      refine zB6 ?_
      refine⟨zrC,?_⟩
      skip
      refine AW.cond Z (fun h=>(by cases h)) (fun _=>?_)
      refine zB6 ?_
      exact⟨u,sM,zow,hu,hgu,next u (Grows.refl _ _) (fun h=>by rw[hno2] at h;cases h)⟩
     ·refine zB6 ?_
      refine WT.allocT hT Z Z Z Z Z Z (fun i10 hi10=>?_)
      refine zB6 ?_
      refine AW.draw (ps:=[(2,13)]) Z Z ?_
      refine zB6 ?_
      refine WT.idxL hT hu.rules Z Z Z Z Z Z Z Z Z (by have:=(gS hr).1;have:=hu.rules.len;omega) (fun r2 hr2 b8 off8 ro8 cs8 lx8 hb8 hp8 hrel8=>?_)
      obtain rfl:r=r2:=by rw[hr] at hr2;exact Option.some.inj hr2
      obtain⟨ra,rn,rc,rfl,hra⟩:=hrel8
      refine zB6 ?_
      refine WT.callV Tryd.func49 Z Z Z Z Z Z (gN_spec _ _) (fun v hv=>?_)
      subst hv
      refine zB6 ?_
      refine⟨zrC,?_⟩
      skip
      refine AW.cond Z (fun hc=>?_) (fun hc=>?_)
      ·have hz:z=(⟨false,r.left⟩:Sym):=by
        have h1:=sym_eq z ⟨false,r.left⟩
        rw[show ((z.term==false)&&(((z.n:Int)==(r.left:Int))&&true))=true from hc] at h1
        exact of_decide_eq_true h1.symm
       have hyd:y.dot≤4:=by
        obtain⟨ry,hy1,hy2,_⟩:=hyok
        have:=hg ry (gM hy1)
        omega
       refine zB6 ?_
       refine WT.know (v':=.agg ⟨[.int .i64 (y.rule:Nat),.int .i64 ((y.dot+1:Nat):Int),.int .i64 (y.frm:Nat)]⟩) 112 Z (by simp) ?_
       refine WT.call1F 5 Tryd.func80 Z Z Z Z Z Z Z (fun _=>rfl) (hadd_spec _ g hu zo (stepItem y) (by rw[hku];exact hQ.complete s0.k x y r hQx hr hd hQy (by rw[hzn,hz]))) (fun F5 v B5 hF5 hv=>?_)
       obtain⟨w,rfl,hw,hgw,hmem⟩:=hv
       refine zB6 ?_
       have hgw':=hgw.mono (P':=fun _=>True) (fun _ _=>trivial)
       exact⟨w,sM,zow,hw,hgu.trans hgw',next w hgw' (fun _=>hmem)⟩
      ·have hz:z≠(⟨false,r.left⟩:Sym):=by
        have h1:=sym_eq z ⟨false,r.left⟩
        rw[show ((z.term==false)&&(((z.n:Int)==(r.left:Int))&&true))=false from hc] at h1
        exact of_decide_eq_false h1.symm
       refine zB6 ?_
       exact⟨u,sM,zow,hu,hgu,next u (Grows.refl _ _) (fun h=>by rw[hzn] at h;exact absurd (Option.some.inj h) hz)⟩
    ·intro u F4 hF4 hP4
     obtain⟨hu,hgu,hin⟩:=hP4
     rw[List.take_of_length_le zo] at hin
     refine zB6 ?_
     refine⟨⟨u,c.i+1⟩,by dsimp only;omega,sM,zow,?_⟩
     refine fin u _ hu hgu (fun e=>⟨fun n2 i2 r2 hn2 _ _=>(by rw[hno] at hn2;cases hn2),fun r2 hr2 hd2 y hy hn2=>?_⟩)
     rw[hr] at hr2
     obtain rfl:=Option.some.inj hr2
     have eL:LS u=LS c.s:=by
      funext j
      unfold LS
      rw[hgu.k,hgu.old,e]
     rw[eL] at hy
     have:=hin y hy hn2
     unfold LS
     rw[hgu.k,hk2,if_pos rfl]
     exact this
   ·refine zB4 ?_
    refine WT.allocT hT Z Z Z Z Z Z (fun i6 hi6=>?_)
    refine zB4 ?_
    refine AW.cond Z (fun _=>?_) (fun h=>(by cases h))
    refine zB4 ?_
    refine WT.call1F 2 Tryd.func48 Z Z Z Z Z Z Z (fun _=>rfl) (hpredict_spec _ g hg hgl hQ ht y (fun hyt i' r' hr' hl'=>by
     rw[hk2]
     exact hQ.predict s0.k x y.n i' r' hQx (by rw[hyn];cases y;simp only at hyt;rw[hyt]) hr' hl')) (fun F3 v B3 hF3 hv=>?_)
    obtain⟨u,rfl,hu,hgu,hin⟩:=hv
    refine zB4 ?_
    refine AW.exit ?_
    refine zB4 ?_
    refine⟨⟨u,c.i+1⟩,by dsimp only;omega,sM,zow,?_⟩
    refine fin u _ hu hgu (fun _=>⟨fun n' i' r' hn' hr' hl'=>?_,fun r' hr' hd'=>?_⟩)
    ·rw[hyn] at hn'
     obtain rfl:=Option.some.inj hn'
     have:=hin i' r' hr' rfl hl'
     unfold LS
     rw[hgu.k,hk2,if_pos rfl]
     rw[hk2] at this;exact this
    ·exfalso
     unfold nextOf at hyn
     rw[hr'] at hyn
     have:r'.right[x.dot]?=some y:=hyn
     have:=(gS this).1
     omega
  ·have hge:c.i=c.s.last.length:=by simp at hge;omega
   skip
   refine AW.exit ?_
   skip
   have hpl:p.s.last.length≤c.s.last.length:=by
    obtain⟨n1,e1,_⟩:=hgt.last
    rw[e1,List.length_append];omega
   refine⟨⟨c.s,(p.s.xn:Nat)⟩,?_,sM,OwnLe.refl _,ht,hgr.trans hgt,by dsimp only;omega,fun e=>?_⟩
   ·dsimp only
    rw[if_neg hne]
    split<;>omega
   ·dsimp only at e
    have e1:c.s.last=p.s.last:=by
     obtain⟨n1,e1,_⟩:=hgt.last
     have:=congrArg List.length e1
     simp only[List.length_append] at this
     have:n1=[]:=List.eq_nil_of_length_eq_zero zo
     rw[e1,this,List.append_nil]
    intro z hz
    refine hcl2 e1 z ?_
    rw[List.take_of_length_le zo,←e1];exact hz
 ·have heq:p.n=p.s.last.length:=by simp at heq;omega
  skip
  refine AW.exit ?_
  skip
  exact⟨_,[_],rfl,zsb,_,rfl,p.s,rfl,hs,hgr,fun x hx=>by rw[hk];exact hcl heq x hx⟩
theorem his_spec(F:Frz)(y:Sym)(t:Nat):Abs.Spec CC 82 [.agg ⟨[.bool y.term,.int .i64 y.n]⟩,.agg ⟨[.bool true,.int .i64 t]⟩] F [] fun _ v o=>o=[]∧v=.bool (decide (y=⟨true,t⟩)):=by
 have h1:=sym_eq y ⟨true,t⟩
 refine Abs.Spec.fn (n:=17) Tryd.func82 rfl rfl fun own=>?_
 refine AW.seq (AW.reg ?_)
 refine WT.boxT Z Z Z Z Z Z (fun i2 hi2=>?_)
 refine WT.boxT Z Z Z Z Z Z (fun i3 hi3=>?_)
 refine zB4 ?_
 refine AW.draw (ps:=[(7,8)]) Z Z ?_
 refine zB4 ?_
 refine WT.split 8 Z (fun hc=>?_) (fun hc=>?_)
 ·have hz:=h1.symm.trans hc
  refine zB4 ?_
  refine⟨zrC,?_⟩
  skip
  exact AW.ret ⟨_,[],⟨_,_,rfl,rfl,rfl⟩,zsb,rfl,by rw[hz];rfl⟩
 ·have hz:=h1.symm.trans hc
  refine zB4 ?_
  refine WT.split 11 Z (fun hd=>?_) (fun hd=>?_)
  ·refine zB4 ?_
   refine WT.callV Tryd.func79 Z Z Z Z Z Z (gT_spec _ _) (fun v hv=>?_)
   subst hv
   refine zB4 ?_
   refine⟨zrC,?_⟩
   skip
   refine AW.ret ⟨_,[],⟨_,_,rfl,rfl,rfl⟩,zsb,rfl,?_⟩
   rw[hz]
   have e:((t:Int)==-1)=false:=by rw[beq_eq_false_iff_ne];omega
   simp[e];rfl
  ·refine zB4 ?_
   refine⟨zrC,?_⟩
   skip
   exact AW.ret ⟨_,[],⟨_,_,rfl,rfl,rfl⟩,zsb,rfl,by rw[hz];rfl⟩
def hNew(s:CSt)(la:Option Addr)(lc:Nat)(BL:List (Nat×Blk)):CSt:={ s with k:=s.k+1,old:=s.old++[s.last],last:=[],la:=la,lc:=lc,BL:=BL,us:=s.us++[.slice s.xa s.xn s.xc],xa:=none,xn:=0,xc:=0,BX:=[] }
theorem own_hnew(x y a:Nat×Blk)(BL:List (Nat×Blk))(own:Own):OwnLe ([x]::(a::(BL++[]))::own) ([y]::[x]::[a]::BL::[]::own):=
 OwnLe.skip _ (OwnLe.flat (List.Perm.of_eq (by simp)))
theorem hnew_ok{g:Gram}(hg:∀r∈g.rules,r.right.length≤4)(hgl:g.rules.length≤32){Q:Nat→Item→Prop}(hQ:QInv g Q){q:ChP}{s:CSt}{F F2:Frz}(h:HOk g Q q F s)(hk:s.k<20)(hF:Frz.le F F2)(hold2:Arr tItem F2 s.xa s.xn s.xc s.last){la:Option Addr}{lc:Nat}{BL:List (Nat×Blk)}
  (hl2:Bld tRaw F2 la (s.k+1+1) lc BL ((s.us++[.slice s.xa s.xn s.xc])++[.slice none 0 0])):HOk g Q q F2 (hNew s la lc BL):=by
 have hfew:=h.few hg hgl hQ
 have huk:=h.uk
 have husl:=h.usl
 have holdl:=h.oldl
 have hpass:∀j l,(s.old++[s.last])[j]?=some l→s.old[j]?=some l∨(j=s.k∧l=s.last):=by
  intro j l hj
  rcases Nat.lt_or_ge j s.old.length with h1 | h1
  ·rw[List.getElem?_append_left h1] at hj;exact .inl hj
  ·rw[List.getElem?_append_right h1] at hj
   have:=(gS hj).1
   simp at this
   have e:j-s.old.length=0:=by omega
   rw[e] at hj
   exact .inr ⟨by omega,by simpa using hj.symm⟩
 refine⟨h.rules.mono hF,hl2,by simp[hNew,husl],by simp[hNew,holdl],fun j l hj=>?_,Bld.nil_ _ _,List.nodup_nil,fun j l hj x hx=>?_,fun x h=>by simp[hNew] at h,by show s.k+1≤20;omega,fun j l hj=>?_,fun j l hj=>?_⟩
 ·rcases hpass j l hj with h1 | ⟨rfl,rfl⟩
  ·obtain⟨a,n,c,h2,h3⟩:=h.olds j l h1
   exact⟨a,n,c,by show (s.us++[_])[j]?=_;rw[List.getElem?_append_left (gS h2).1];exact h2,h3.mono hF⟩
  ·exact⟨_,_,_,huk,hold2⟩
 ·rcases hpass j l hj with h1 | ⟨rfl,rfl⟩
  ·exact h.qold j l h1 x hx
  ·exact h.qlast x hx
 ·rcases hpass j l hj with h1 | ⟨rfl,rfl⟩
  ·exact h.olen j l h1
  ·omega
 ·rcases hpass j l hj with h1 | ⟨rfl,rfl⟩
  ·exact h.ndold j l h1
  ·exact h.nodup
theorem hscan_spec(F:Frz)(g:Gram)(hg:∀r∈g.rules,r.right.length≤4)(hgl:g.rules.length≤32){Q:Nat→Item→Prop}(hQ:QInv g Q){q:ChP}{s:CSt}(h:HOk g Q q F s)(hk:s.k<20)(t:Nat)
  (hsc:∀x,Q s.k x→nextOf g.rules x=some ⟨true,t⟩→Q (s.k+1) (stepItem x)) :
  Abs.Spec CC 51 [.pointer (some ⟨q.ic,0,none⟩),.agg ⟨[.bool true,.int .i64 t]⟩] F [hB g q s] fun F' v o=>
   ∃B',o=[B']∧∃s',B'=hB g q s'∧HOk g Q q F' s'∧s'.k=s.k+1∧s'.old=s.old++[s.last]∧(∀x∈s.last,nextOf g.rules x=some ⟨true,t⟩→stepItem x∈s'.last)∧∀x∈s'.last,ItemClosed g.rules (LS s') s'.k x:=by
 have hfew:=h.few hg hgl hQ
 have hxl:=h.last.len
 have huk:=h.uk
 have husl:=h.usl
 have hul:=h.list.len
 refine Abs.Spec.fn (n:=61) Tryd.func51 rfl rfl fun own=>?_
 refine AW.le (own_zeed _ _ _ _) ?_
 refine AW.seq (AW.reg ?_)
 refine WT.boxT Z Z Z Z Z Z (fun i3 hi3=>?_)
 unfold hCells
 refine zB4 ?_
 refine WT.know (v':=.int .i64 (s.k:Nat)) 18 Z (by congr 1;omega) ?_
 refine WT.vidx hT h.list.vec Z Z Z Z Z Z Z Z Z zo (fun b1 hb1=>?_)
 refine WT.vld1 (v:=.slice s.xa s.xn s.xc) hT 2 h.list.vec hb1 huk Z Z Z Z Z Z Z Z Z (fun l h=>h.1) ?_
 refine zB4 ?_
 refine WT.buildT hT Z Z Z Z Z Z Z Z Z Z Z Z Z Z (fun i26 hi26=>?_)
 refine WT.appendT (ys:=[.slice none 0 0]) hT 3 h.list Z (fun _=>rfl) Z Z Z Z Z Z Z Z Z Z Z (fun h0 s0=>news_own hT s0 0 Z Z Z Z) (Cells.single (R:=tRaw) (x:=.slice none 0 0) ⟨rfl,rfl⟩) Z (by decide) zom (fun la lc BL hBL=>?_)
 refine WT.freezeAll 4 Z Z (fun F2 hF2 hB2=>?_)
 have hold2:=h.last.frozen hF2 hB2
 have h0:=hnew_ok hg hgl hQ h hk hF2 hold2 (hBL.mono hF2)
 refine zB6 ?_
 refine AW.le (own2:=[(i3,.cells false [.bool true,.int .i64 (t:Nat)])]::hB g q (hNew s la lc BL)::own) (own_hnew _ _ _ _ _) ?_
 skip
 refine AW.range (S:=CSt) (fun _=>[]) (fun u=>[(i3,.cells false [.bool true,.int .i64 (t:Nat)])]::hB g q u::own)
  (fun j u G=>HOk g Q q G u∧Grows (hNew s la lc BL) u (fun _=>True)∧∀y∈s.last.take j,nextOf g.rules y=some ⟨true,t⟩→stepItem y∈u.last) s.xn
  (hNew s la lc BL)
  Z Z Z Z Z Z Z Z Z zo rfl rfl (fun _=>rfl) (fun _=>rfl) sM oR ⟨h0,Grows.refl _ _,fun y hy=>by simp at hy⟩ ?_ ?_
 ·intro j u F4 hF4 hj hP4
  obtain⟨hu,hgu,hin⟩:=hP4
  have hku:u.k=s.k+1:=hgu.k
  have hya4:=hold2.mono hF4
  have hfew4:=hu.few hg hgl hQ
  refine zB6 ?_
  refine WT.idxL hT hya4 Z Z Z Z Z Z Z Z Z zo (fun y hyj b7 off7 ro7 cs7 lx7 hb7 hp7 hrel7=>?_)
  obtain rfl:lx7=_:=hrel7
  have hQy:=h.qlast y (gM hyj)
  have hyok:=hQ.ok _ _ hQy
  have next:∀w:CSt,Grows u w (fun _=>True)→(nextOf g.rules y=some ⟨true,t⟩→stepItem y∈w.last)→∀z∈s.last.take (j+1),nextOf g.rules z=some ⟨true,t⟩→stepItem z∈w.last:=by
   intro w hw h1 z hz hn
   rw[List.take_add_one,hyj] at hz
   rcases List.mem_append.1 hz with hz | hz
   ·exact hw.mem (hin z hz hn)
   ·simp at hz;subst hz;exact h1 hn
  refine zB6 ?_
  refine WT.allocT hT Z Z Z Z Z Z (fun i9 hi9=>?_)
  refine zB6 ?_
  refine WT.callLend 2 Tryd.func52 Z Z Z Z Z Z Z (fun G hG hBG=>hnext_spec G g hg (hBG _ _ me) (hu.rules.mono hG) hyok) (fun v hv=>?_)
  rcases hv with ⟨hno2,_,rfl⟩ | ⟨z,hzn,rfl⟩
  ·refine zB6 ?_
   refine WT.allocT hT Z Z Z Z Z Z (fun i10 hi10=>?_)
   refine zB6 ?_
   refine AW.cond Z (fun h=>(by cases h)) (fun _=>?_)
   refine zB6 ?_
   exact⟨u,sM,zow,hu,hgu,next u (Grows.refl _ _) (fun h=>by rw[hno2] at h;cases h)⟩
  ·refine zB6 ?_
   refine WT.allocT hT Z Z Z Z Z Z (fun i10 hi10=>?_)
   refine zB6 ?_
   refine WT.callV Tryd.func82 Z Z Z Z Z Z (his_spec _ z t) (fun v hv=>?_)
   subst hv
   refine zB6 ?_
   refine AW.cond Z (fun hc=>?_) (fun hc=>?_)
   ·have hz:z=⟨true,t⟩:=by simpa using hc
    have hyd:y.dot≤4:=by
     obtain⟨ry,hy1,hy2,_⟩:=hyok
     have:=hg ry (gM hy1)
     omega
    refine zB6 ?_
    refine WT.know (v':=.agg ⟨[.int .i64 (y.rule:Nat),.int .i64 ((y.dot+1:Nat):Int),.int .i64 (y.frm:Nat)]⟩) 56 Z (by simp) ?_
    refine WT.call1F 3 Tryd.func80 Z Z Z Z Z Z Z (fun _=>rfl) (hadd_spec _ g hu zo (stepItem y) (by rw[hku];exact hsc y hQy (by rw[hzn,hz]))) (fun F5 v B5 hF5 hv=>?_)
    obtain⟨w,rfl,hw,hgw,hmem⟩:=hv
    refine zB6 ?_
    have hgw':=hgw.mono (P':=fun _=>True) (fun _ _=>trivial)
    exact⟨w,sM,zow,hw,hgu.trans hgw',next w hgw' (fun _=>hmem)⟩
   ·have hz:z≠⟨true,t⟩:=by simpa using hc
    refine zB6 ?_
    exact⟨u,sM,zow,hu,hgu,next u (Grows.refl _ _) (fun h=>by rw[hzn] at h;exact absurd (Option.some.inj h) hz)⟩
 ·intro u F4 hF4 hP4
  obtain⟨hu,hgu,hin⟩:=hP4
  rw[List.take_of_length_le zo] at hin
  refine zB6 ?_
  refine WT.call1F 1 Tryd.func50 Z Z Z Z Z Z Z (fun _=>rfl) (hcomplete_spec _ g hg hgl hQ hu) (fun F5 v B5 hF5 hv=>?_)
  obtain⟨w,rfl,hw,hgw,hcl⟩:=hv
  refine zB6 ?_
  exact⟨_,[_],rfl,zsb,_,rfl,w,rfl,hw,hgw.k.trans hgu.k,hgw.old.trans hgu.old,fun x hx hn=>hgw.mem (hin x hx hn),hcl⟩
section
variable {C:Ctx}{T:RT}{n:Nat}{k:Kno}{F:Frz}{own:Own}{ops rest:List Oper}{o:Oper}{Q:Kno→Frz→Own→List Rec→Prop}
theorem capNil(hT:rowsOk C T=true){t e:TypeId}{ts:List TypeId}{r:Row}{xo:Operand}(hop:o.op=.call ⟨.builtin .cap,⟨[xo]⟩,⟨t::ts⟩⟩)(hw:wantK ops k o=some true){dst:Nat}(hdst:o.dst=some dst)(hn:Nat.blt dst n=true)
  (hx:evK C k xo=some (.slice none 0 0)) (hr:rowOf T t=some r) (hd:r.d=.slice e)
  (h:WT C n ops rest ((dst,.int .i64 ((0:Nat):Int))::k) F own (fun k2 F2 own2 rs=>Q k2 F2 own2 (⟨F,own,F,own,[]⟩::rs))):WT C n ops (o::rest) k F own Q:=by
 refine WT.still (l:=[]) hw (by rw[hop];rfl) (fun h0 _=>?_) (by rw[hdst,putK_some hn];exact h)
 rw[hop]
 have hv:vals (evK C k) [xo]=some [.slice none 0 0]:=by simp[vals,hx]
 simp only[opA,hv,builtinA,capA,und_slice hT hr hd]
 rfl
theorem first0{h:Heap}{s m c:Nat}{a:Option Addr}(ha:∀p,a=some p→p.spot=none):firstA h s 0 (.slice a m c)=some []:=by
 match a,ha with
 | none,_=>rfl
 | some ⟨b,off,none⟩,_=>rfl
 | some ⟨b,off,some _⟩,ha=>have:=ha _ rfl;cases this
end
theorem numGrow_spec(F:Frz)(n:Nat)(hn:n≤1000) :
  Abs.Spec CC 70 [.slice none 0 0,.int .i64 n] F [] fun F' v o=>∃B',o=[B']∧((n=0∧v=.slice none 0 0∧B'=[])∨∃b,v=.slice (some ⟨b,0,none⟩) 0 1∧PBld tNat F' b 0 B' []):=by
 refine Abs.Spec.fn (n:=27) Tryd.func70 rfl rfl fun own=>?_
 refine zC4 ?_
 refine AW.cond Z (fun h=>(by simp at h;omega)) (fun _=>?_)
 refine zC4 ?_
 refine capNil hT Z Z Z Z Z Z Z ?_
 refine zC4 ?_
 refine AW.cond Z (fun h=>?_) (fun h=>?_)
 ·have h:0<n:=by simp at h;omega
  rw[show n-(0-0)=n by omega]
  refine zC4 ?_
  refine capNil hT Z Z Z Z Z Z Z ?_
  skip
  refine WT.slice Z Z Z Z Z Z Z Z (v:=.slice none 0 0) (fun h0=>rfl) ?_
  refine zC4 ?_
  refine WT.appendN hT Z Z Z Z Z Z Z Z Z Z Z Z Z Z Z ⟨h,by decide,by decide⟩ zo zom (fun i9 hi9=>?_)
  refine zC4 ?_
  refine WT.slice Z Z Z Z Z Z Z Z (fun h0=>sliceA_some (lo:=0) (hi:=0) hT Z Z Z Z Z (Nat.le_refl _) (Nat.zero_le _) (.inr rfl) h0) ?_
  refine zC4 ?_
  refine AW.ret ⟨_,[_],⟨_,_,rfl,rfl,rfl⟩,zsb,_,rfl,.inr ⟨i9,rfl,rfl,by decide,_,[],rfl,?_,.nil⟩⟩
  exact partL_of rfl rfl
 ·have h:n=0:=by simp at h;omega
  subst h
  refine zC4 ?_
  refine AW.le (own2:=[]::own) (OwnLe.flat (List.Perm.refl _)) ?_
  exact AW.ret ⟨_,[[]],⟨_,_,rfl,rfl,rfl⟩,zsb,_,rfl,.inl ⟨rfl,rfl,rfl⟩⟩
structure GSn where
 b:Nat
 xs:List Nat
 B:List (Nat×Blk)
theorem numConcat_spec(F:Frz){a:Option Addr}{m c:Nat}{L:List (List Nat)}(hL:Arr (tList tNat) F a m c L)(hm:m≤1000)(ht:L.flatten.length≤1000) :
  Abs.Spec CC 36 [.slice a m c] F [] fun F' v o=>o=[]∧∃a' c',v=.slice a' L.flatten.length c'∧Arr tNat F' a' L.flatten.length c' L.flatten:=by
 have hml:=hL.len
 have step:∀j l,L[j]?=some l→(L.take (j+1)).flatten=(L.take j).flatten++l:=fun j l h=>by
  rw[List.take_add_one,h];simp
 have few:∀j,(L.take j).flatten.length≤L.flatten.length:=fun j=>by
  have:L.flatten=(L.take j).flatten++(L.drop j).flatten:=by rw[←List.flatten_append,List.take_append_drop]
  rw[this,List.length_append];omega
 refine Abs.Spec.fn (n:=36) Tryd.func36 rfl rfl fun own=>?_
 refine zC4 ?_
 refine AW.range (S:=Nat) (fun s=>[(3,.int .i64 (s:Nat))]) (fun _=>_) (fun j s G=>s=(L.take j).flatten.length) m 0 Z Z Z Z Z Z Z Z Z zo Z Z (fun _=>rfl) (fun _=>rfl) sM oR (by simp) ?_ ?_
 ·intro j s F1 hF1 hj hP
  have hL1:=hL.mono hF1
  have hfj:=few j
  have hP:s=(L.take j).flatten.length:=hP
  refine zC4 ?_
  refine WT.idxL hT hL1 Z Z Z Z Z Z Z Z Z zo (fun l hlj b1 off ro cs lx hb hp1 hrel=>?_)
  obtain⟨xa,xn,xc,rfl,hxa⟩:=hrel
  have hxl:=hxa.len
  have hst:=step j l hlj
  have hfj2:=few (j+1)
  rw[hst,List.length_append] at hfj2
  refine zC4 ?_
  refine AW.cond Z (fun h=>(by simp at h;omega)) (fun _=>?_)
  refine zC4 ?_
  refine⟨s+xn,sM,zow,?_⟩
  show s+xn=(L.take (j+1)).flatten.length
  rw[hst,List.length_append,←hP,hxl]
 ·intro s F1 hF1 hP
  have hP:s=(L.take m).flatten.length:=hP
  rw[List.take_of_length_le zo] at hP
  subst hP
  have hL1:=hL.mono hF1
  refine zC4 ?_
  refine WT.callN Tryd.func70 Z Z Z Z Z Z (numGrow_spec _ _ ht) (fun F2 v B2 hF2 hv=>?_)
  have hL2:=hL1.mono hF2
  rcases hv with ⟨hn,rfl,rfl⟩ | ⟨b,rfl,hb⟩
  ·have h0:L.flatten=[]:=List.eq_nil_of_length_eq_zero hn
   refine zC4 ?_
   refine AW.range (S:=Unit) (fun _=>[]) (fun _=>_) (fun j _ G=>True) m ()
    Z Z Z Z Z Z Z Z Z zo rfl rfl (fun _=>rfl) (fun _=>rfl) sM oR trivial ?_ ?_
   ·intro j u F3 hF3 hj _
    have hL3:=hL2.mono hF3
    refine zC4 ?_
    refine WT.idxL hT hL3 Z Z Z Z Z Z Z Z Z zo (fun l hlj b1 off ro cs lx hb hp1 hrel=>?_)
    obtain⟨xa,xn,xc,rfl,hxa⟩:=hrel
    have hxl:=hxa.len
    have hl0:l=[]:=by
     have h1:=few (j+1)
     rw[step j l hlj,List.length_append] at h1
     exact List.eq_nil_of_length_eq_zero zo
    obtain rfl:xn=0:=by rw[hxl,hl0];rfl
    refine zC4 ?_
    refine WT.append0 hT Z Z Z Z Z Z Z Z Z Z Z Z Z (fun h0 s0=>first0 hxa.spot) (by decide) zom ?_
    refine zC4 ?_
    exact⟨(),sM,zow,trivial⟩
   ·intro u F3 hF3 _
    refine zC4 ?_
    refine AW.ret ⟨_,[],⟨_,_,rfl,rfl,rfl⟩,zsb,rfl,none,0,?_,?_⟩
    ·rw[hn];rfl
    ·rw[h0];exact Arr.nil_ _ _
  ·refine zC4 ?_
   refine AW.range (S:=GSn) (fun u=>[(6,.slice (some ⟨u.b,0,none⟩) u.xs.length 1)]) (fun u=>u.B::own) (fun j u G=>PBld tNat G u.b u.xs.length u.B u.xs∧u.xs=(L.take j).flatten) m ⟨b,[],B2⟩
    Z Z Z Z Z Z Z Z Z zo rfl rfl (fun _=>rfl) (fun _=>rfl) sM oR ⟨hb,by simp⟩ ?_ ?_
   ·intro j u F3 hF3 hj hP
    obtain⟨hb3,hxs⟩:=hP
    have hL3:=hL2.mono hF3
    have hfj2:=few (j+1)
    refine zC4 ?_
    refine WT.idxL hT hL3 Z Z Z Z Z Z Z Z Z zo (fun l hlj b1 off ro cs lx hb hp1 hrel=>?_)
    obtain⟨xa,xn,xc,rfl,hxa⟩:=hrel
    have hxl:=hxa.len
    have hst:=step j l hlj
    rw[hst,List.length_append,←hxs,←hxl] at hfj2
    refine zC4 ?_
    obtain⟨ds,hds,hcs⟩:=news_arr hT hxa (t:=22) rfl rfl 3
    refine WT.appendP hT 0 hb3 Z (fun _=>rfl) Z Z Z Z Z Z Z Z Z Z Z (fun h0 s0=>hds _ h0 s0) hcs hxl (by decide) zom (fun b' B' hB'=>?_)
    have hl2:u.xs.length+xn=(u.xs++l).length:=by rw[List.length_append,←hxl]
    rw[hl2] at hB' ⊢
    refine zC4 ?_
    exact⟨⟨b',u.xs++l,B'⟩,sM,zow,hB',by rw[hst,←hxs]⟩
   ·intro u F3 hF3 hP
    obtain⟨hb3,hxs⟩:=hP
    rw[List.take_of_length_le zo] at hxs
    refine AW.freezeAll 0 Z Z (fun F4 hF4 hB4=>?_)
    have harr:=hb3.arr hF4 hB4
    refine zC4 ?_
    rw[hxs] at harr ⊢
    exact AW.ret ⟨_,[],⟨_,_,rfl,rfl,rfl⟩,zsb,rfl,_,_,rfl,harr⟩
def cmpNats:List Nat→List Nat→Int
 | [],[]=>0
 | [],_::_=>-1
 | _::_,[]=>1
 | a::l,b::m=>if cmpInt a b=0 then cmpNats l m else cmpInt a b
theorem cmpNats_take:∀(j:Nat) (l m:List Nat),j≤l.length→j≤m.length→(∀i (h1:i<l.length) (h2:i<m.length),i<j→cmpInt l[i] m[i]=0)→cmpNats l m=cmpNats (l.drop j) (m.drop j)
 | 0,l,m,_,_,_=>by simp
 | j+1,[],m,h,_,_=>by simp at h
 | j+1,_::_,[],_,h,_=>by simp at h
 | j+1,a::l,b::m,h1,h2,h=>by
  have h0:=h 0 (by simp) (by simp) zo
  simp only[List.getElem_cons_zero] at h0
  simp only[cmpNats,h0,if_true,List.drop_succ_cons]
  exact cmpNats_take j l m (by simpa using h1) (by simpa using h2) (fun i h3 h4 h5=>h (i+1) (by simpa using h3) (by simpa using h4) zo)
theorem numCompare_spec(F:Frz){a b:Option Addr}{m n c d:Nat}{xs ys:List Nat}(hx:Arr tNat F a m c xs)(hy:Arr tNat F b n d ys)(hm:m≤1000000)(hn:n≤1000000) :
  Abs.Spec CC 10 [.slice a m c,.slice b n d] F [] fun _ v o=>o=[]∧v=.int .i64 (cmpNats xs ys):=by
 refine Abs.Spec.fn (n:=36) Tryd.func10 rfl rfl fun own=>?_
 have hxlen:=hx.len
 have hylen:=hy.len
 refine zB4 ?_
 refine AW.range (S:=Unit) (fun _=>[]) (fun _=>_) (fun j _ _=>j≤n∧∀i (h1:i<xs.length) (h2:i<ys.length),i<j→cmpInt xs[i] ys[i]=0) m () Z Z Z Z Z Z Z Z Z zo Z Z (fun _=>rfl) (fun _=>rfl) sM oR ⟨by omega,by omega⟩ ?_ ?_
 ·intro j _ F1 hF1 hj hP
  obtain⟨hjn,hP⟩:=hP
  have hx1:=hx.mono hF1
  have hy1:=hy.mono hF1
  refine zB4 ?_
  refine WT.idxL hT hx1 Z Z Z Z Z Z Z Z Z zo (fun x hxj b1 off ro cs lx hb hp hrel=>?_)
  obtain rfl:lx=_:=hrel
  refine zB4 ?_
  refine AW.cond Z (fun hc=>?_) (fun hc=>?_)
  ·have hc:n≤j:=by simp at hc;omega
   refine zB4 ?_
   refine AW.ret ⟨_,[],⟨_,_,rfl,rfl,rfl⟩,zsb,rfl,?_⟩
   rw[cmpNats_take j xs ys zo zo hP,List.drop_of_length_le (show ys.length≤j by omega),List.drop_eq_getElem_cons (show j<xs.length by omega)]
   rfl
  ·have hc:j<n:=by simp at hc;omega
   refine zB4 ?_
   refine WT.idxL hT hy1 Z Z Z Z Z Z Z Z Z zo (fun y hyj b2 off2 ro2 cs2 ly hb2 hp2 hrel2=>?_)
   obtain rfl:ly=_:=hrel2
   refine zB4 ?_
   refine WT.callV Tryd.func32 Z Z Z Z Z Z (compare_spec _ x y) (fun v hv=>?_)
   subst hv
   have ex:xs[j]'zo=x:=by rw[gE zo] at hxj;simpa using hxj
   have ey:ys[j]'zo=y:=by rw[gE zo] at hyj;simpa using hyj
   refine zB4 ?_
   refine AW.cond Z (fun hc2=>?_) (fun hc2=>?_)
   ·have hc2:cmpInt x y≠0:=by simpa using hc2
    refine zB4 ?_
    refine AW.ret ⟨_,[],⟨_,_,rfl,rfl,rfl⟩,zsb,rfl,?_⟩
    rw[cmpNats_take j xs ys zo zo hP,List.drop_eq_getElem_cons (show j<xs.length by omega),List.drop_eq_getElem_cons (show j<ys.length by omega)]
    simp[cmpNats,ex,ey,hc2,tupleA]
   ·have hc2:cmpInt x y=0:=by simpa using hc2
    refine zB4 ?_
    refine⟨(),sM,zow,by omega,fun i h1 h2 h3=>?_⟩
    rcases Nat.lt_or_ge i j with h4 | h4
    ·exact hP i h1 h2 h4
    ·have:i=j:=by omega
     subst this
     rw[ex,ey];exact hc2
 ·intro _ F1 hF1 hP
  obtain⟨hjn,hP⟩:=hP
  refine zB4 ?_
  have e:=cmpNats_take m xs ys zo zo hP
  rw[List.drop_of_length_le (show xs.length≤m by omega)] at e
  refine AW.cond Z (fun hc=>?_) (fun hc=>?_)
  ·have hc:m<n:=by simp at hc;omega
   refine zB4 ?_
   refine AW.ret ⟨_,[],⟨_,_,rfl,rfl,rfl⟩,zsb,rfl,?_⟩
   rw[e,List.drop_eq_getElem_cons (show m<ys.length by omega)];rfl
  ·have hc:m=n:=by simp at hc;omega
   refine zB4 ?_
   refine AW.ret ⟨_,[],⟨_,_,rfl,rfl,rfl⟩,zsb,rfl,?_⟩
   rw[e,List.drop_of_length_le (show ys.length≤m by omega)];rfl
def tW:Ty (Option (List Nat)) where
 size:=3
 rel:=fun F l x=>match x with
  | none=>l=[.int .i64 0,.slice none 0 0,.bool false]
  | some w=>∃a n c,l=[.int .i64 (n:Nat),.slice a n c,.bool true]∧Arr tNat F a n c w
 len:=fun F l x h=>by
  cases x with
  | none=>rw[h];rfl
  | some w=>obtain⟨a,n,c,h,_⟩:=h;rw[h];rfl
 one:=fun F l x h=>by
  cases x with
  | none=>rw[h];rfl
  | some w=>obtain⟨a,n,c,h,_⟩:=h;rw[h];rfl
 mono:=fun F G l x hF h=>by
  cases x with
  | none=>exact h
  | some w=>obtain⟨a,n,c,h1,h2⟩:=h;exact⟨a,n,c,h1,h2.mono hF⟩
def lessO:Option (List Nat)→Option (List Nat)→Bool
 | none,_=>false
 | some _,none=>true
 | some a,some b=>decide (orInt [cmpInt a.length b.length,cmpNats a b]<0)
theorem cmpNats_self:∀(l:List Nat),cmpNats l l=0
 | []=>rfl
 | a::l=>by unfold cmpNats;rw[if_pos (by unfold cmpInt;omega)];exact cmpNats_self l
theorem lessO_self(w:Option (List Nat)):lessO w w=false:=by
 cases w with
 | none=>rfl
 | some w=>
  have h:cmpInt (w.length:Int) (w.length:Int)=0:=by unfold cmpInt;omega
  simp[lessO,cmpNats_self,h,orInt]
theorem hless_spec(F:Frz){lx ly:List Value}{x y:Option (List Nat)}(hx:tW.rel F lx x)(hy:tW.rel F ly y)(h1:∀w,x=some w→w.length≤1000)(h2:∀w,y=some w→w.length≤1000) :
  Abs.Spec CC 85 [.agg ⟨lx⟩,.agg ⟨ly⟩] F [] fun _ v o=>o=[]∧v=.bool (lessO x y):=by
 cases x with
 | none=>
  obtain rfl:lx=_:=hx
  have key:∀(b:Bool) (n:Nat) (a:Option Addr) (c:Nat),Abs.Spec CC 85 [.agg ⟨[.int .i64 0,.slice none 0 0,.bool false]⟩,.agg ⟨[.int .i64 (n:Nat),.slice a n c,.bool b]⟩] F [] fun _ v o=>o=[]∧v=.bool false:=by
   intro b n a c
   refine Abs.Spec.fn (n:=28) Tryd.func85 rfl rfl fun own=>?_
   refine AW.seq (AW.reg ?_)
   refine WT.boxT Z Z Z Z Z Z (fun i2 hi2=>?_)
   refine WT.boxT Z Z Z Z Z Z (fun i3 hi3=>?_)
   refine zB4 ?_
   refine AW.cond Z (fun _=>?_) (fun h=>(by cases h))
   refine zB4 ?_
   exact AW.ret ⟨_,[],⟨_,_,rfl,rfl,rfl⟩,zsb,rfl,rfl⟩
  cases y with
  | none=>obtain rfl:ly=_:=hy;exact key false 0 none 0
  | some w=>obtain⟨a,n,c,rfl,_⟩:=hy;exact key true n a c
 | some w=>
  obtain⟨a,n,c,rfl,hw⟩:=hx
  have hwl:=hw.len
  have hw1:=h1 w rfl
  cases y with
  | none=>
   obtain rfl:ly=_:=hy
   refine Abs.Spec.fn (n:=28) Tryd.func85 rfl rfl fun own=>?_
   refine AW.seq (AW.reg ?_)
   refine WT.boxT Z Z Z Z Z Z (fun i2 hi2=>?_)
   refine WT.boxT Z Z Z Z Z Z (fun i3 hi3=>?_)
   refine zB4 ?_
   refine AW.cond Z (fun _=>?_) (fun h=>(by cases h))
   refine zB4 ?_
   exact AW.ret ⟨_,[],⟨_,_,rfl,rfl,rfl⟩,zsb,rfl,rfl⟩
  | some u=>
   obtain⟨b,m,d,rfl,hu⟩:=hy
   have hul:=hu.len
   have hu1:=h2 u rfl
   refine Abs.Spec.fn (n:=28) Tryd.func85 rfl rfl fun own=>?_
   refine AW.seq (AW.reg ?_)
   refine WT.boxT Z Z Z Z Z Z (fun i2 hi2=>?_)
   refine WT.boxT Z Z Z Z Z Z (fun i3 hi3=>?_)
   refine zB4 ?_
   refine AW.cond Z (fun h=>(by cases h)) (fun _=>?_)
   refine zB4 ?_
   refine AW.draw (ps:=[(6,4),(8,4)]) Z Z ?_
   refine zB4 ?_
   refine WT.callV Tryd.func32 Z Z Z Z Z Z (compare_spec _ _ _) (fun v hv=>?_)
   subst hv
   refine zB4 ?_
   refine WT.callV Tryd.func10 Z Z Z Z Z Z (numCompare_spec _ hw hu zo zo) (fun v hv=>?_)
   subst hv
   skip
   refine WT.buildT hT Z Z Z Z Z Z Z Z Z Z Z Z Z Z (fun i9 hi9=>?_)
   refine WT.callLend 0 Tryd.func66 Z Z Z Z Z Z Z (fun G hG hBG=>or_spec G (l:=[cmpInt n m,cmpNats w u]) (Bld.frozen (F:=F) (B:=[(i9,.cells false [.int .i64 (cmpInt n m),.int .i64 (cmpNats w u)])]) ⟨rfl,.inr ⟨i9,_,rfl,rfl,rfl,Cells.cons (l:=[_]) Z (Cells.single (x:=cmpNats w u) rfl),by decide⟩⟩ hG hBG) (by decide)) (fun v hv=>?_)
   subst hv
   refine zB4 ?_
   refine⟨zrC,?_⟩
   skip
   refine AW.ret ⟨_,[],⟨_,_,rfl,rfl,rfl⟩,zsb,rfl,?_⟩
   rw[lessO,hwl,hul];rfl
theorem hthen_spec(F:Frz){lx ly:List Value}{x y:List Nat}(hx:tW.rel F lx (some x))(hy:tW.rel F ly (some y))(h1:x.length+y.length≤1000) :
  Abs.Spec CC 96 [.agg ⟨lx⟩,.agg ⟨ly⟩] F [] fun F' v o=>o=[]∧∃l,v=.agg ⟨l⟩∧tW.rel F' l (some (x++y)):=by
 obtain⟨a,n,c,rfl,hw⟩:=hx
 obtain⟨b,m,d,rfl,hu⟩:=hy
 have hwl:=hw.len
 have hul:=hu.len
 refine Abs.Spec.fn (n:=33) Tryd.func96 rfl rfl fun own=>?_
 refine AW.seq (AW.reg ?_)
 refine WT.boxT Z Z Z Z Z Z (fun i2 hi2=>?_)
 refine WT.boxT Z Z Z Z Z Z (fun i3 hi3=>?_)
 refine WT.allocT hT Z Z Z Z Z Z (fun i4 hi4=>?_)
 refine zC7 ?_
 refine WT.allocT hT Z Z Z Z Z Z (fun i5 hi5=>?_)
 refine zC7 ?_
 refine AW.cond Z (fun _=>?_) (fun h=>(by simp at h;omega))
 refine zC7 ?_
 refine WT.buildT hT Z Z Z Z Z Z Z Z Z Z Z Z Z Z (fun i29 hi29=>?_)
 refine WT.freezeAll 0 Z Z (fun F2 hF2 hB2=>?_)
 have hL:Arr (tList tNat) F2 (some ⟨i29,0,none⟩) 2 1 [x,y]:=Bld.frozen (F:=F) (B:=[(i29,.cells false [.slice a n c,.slice b m d])]) ⟨rfl,.inr ⟨i29,_,rfl,rfl,rfl,Cells.cons (R:=tList tNat) (x:=x) (l:=[_]) ⟨a,n,c,rfl,hw⟩ (Cells.single (R:=tList tNat) (x:=y) ⟨b,m,d,rfl,hu⟩),by decide⟩⟩ hF2 hB2
 have hfl:[x,y].flatten=x++y:=by simp
 refine WT.callF0 Tryd.func36 Z Z Z Z Z Z (numConcat_spec _ hL (by decide) (by rw[hfl,List.length_append];omega)) (fun F3 v hF3 hv=>?_)
 obtain⟨a',c',rfl,hc⟩:=hv
 rw[hfl] at hc ⊢
 refine zC7 ?_
 refine AW.ret ⟨_,[],⟨_,_,⟨_,rfl,fun G h0 s0=>loadA_cells (s0.has (p:=2) Z me) (readT_ok hT rfl)⟩,rfl,rfl⟩,zsb,rfl,_,rfl,a',_,c',?_,hc⟩
 rw[List.length_append,←hwl,←hul]
end Go.Proofs.D
set_option linter.unusedVariables false
set_option maxRecDepth 20000
set_option maxHeartbeats 0
open Go Go.Abs Go.Proofs Go.Proofs.D
namespace Go.Abs
section
variable {C:Ctx}{T:RT}{n:Nat}{k:Kno}{F:Frz}{own:Own}{ops rest:List Oper}{o:Oper}{Q:Kno→Frz→Own→List Rec→Prop}{α:Type}{R:Ty α}
theorem WT.makeS(hT:rowsOk C T=true){t e by_ sz:Nat}{lo co:Operand}{l:Nat}{r:Row}{z:Value}{zs:List Value}(hop:o.op=.makeSlice t lo co)(hw:wantK ops k o=some true){dst:Nat}(hdst:o.dst=some dst)(hn:Nat.blt dst n=true)
  (hl:evK C k lo=some (.int .i64 (l:Nat))) (hc:evK C k co=some (.int .i64 (l:Nat))) (hr:rowOf T t=some r) (hd:r.d=.slice e) (hsz:sizeT T e=some sz) (hz:zeroT T e=some z) (hzn:z.cells.toList=zs) (hby:bytesT T e=some by_)
  (hroom:l≤281474976710656∧by_*l≤281474976710656∧0<sz)
  (h:∀i,F i=none→WT C n ops rest ((dst,.slice (some ⟨i,0,none⟩) l (bif l==0 then 0 else sz))::k) F ([(i,.cells false (rowsL zs l))]::own) (fun k2 F2 own2 rs=>Q k2 F2 own2 (⟨F,own,F,[(i,.cells false (rowsL zs l))]::own,[]⟩::rs))) :
  WT C n ops (o::rest) k F own Q:=by
 subst hzn
 refine WT.new (mk:=fun i=>.slice (some ⟨i,0,none⟩) l (bif l==0 then 0 else sz)) (l:=[]) hw (by rw[hop];rfl) (fun h0 _=>?_) (fun i hi=>by rw[hdst,putK_some hn];exact h i hi)
 rw[hop]
 simp only[opA,hl,hc,makeSliceA,und_slice hT hr hd,sizeT_ok hT hsz,zeroT_ok hT hz,bytesT_ok hT hby]
 have h2:((by_:Nat):Int)*(l:Int)≤281474976710656:=by
  have:=hroom.2.1
  have h2:((by_*l:Nat):Int)≤281474976710656:=by omega
  rwa [Int.natCast_mul] at h2
 have h3:(0:Int)≤l∧True∧(l:Int)≤281474976710656∧(by_:Int)*(l:Int)≤281474976710656∧0<sz:=⟨Int.natCast_nonneg l,trivial,by omega,h2,hroom.2.2⟩
 rw[if_pos h3]
 simp
theorem vec_made{zs:List Value}{x:α}(h:∀F,R.rel F zs x)(hR:0<R.size){F:Frz}{i l:Nat}:Vec R F (some ⟨i,0,none⟩) l (bif l==0 then 0 else R.size) [(i,.cells false (rowsL zs l))] (List.replicate l x):=by
 refine⟨by simp,?_,fun h=>?_,fun h=>(by cases h),fun p hp=>(by cases hp;rfl),.inr ⟨i,_,rfl,rfl,Cells.rows (h F) l,hR⟩⟩
 ·cases l<;>simp
 ·cases l with
  | zero=>rfl
  | succ n=>simp at h;omega
end
end Go.Abs
namespace Go.Proofs.D
def part(v:List Nat)(i j:Nat):List Nat:=(v.take j).drop i
theorem part_len{v:List Nat}{i j:Nat}(hj:j≤v.length):(part v i j).length=j-i:=by unfold part;simp;omega
theorem part_app{v:List Nat}{i m j:Nat}(h1:i≤m)(h2:m≤j)(hj:j≤v.length):part v i m++part v m j=part v i j:=by
 unfold part
 have e:v.take m=(v.take j).take m:=by rw[List.take_take,Nat.min_eq_left h2]
 rw[e,List.drop_take]
 have:List.drop m (List.take j v)=List.drop (m-i) (List.drop i (List.take j v)):=by rw[List.drop_drop,show i+(m-i)=m by omega]
 rw[this,List.take_append_drop]
theorem part_one{v:List Nat}{i t:Nat}(h:v[i]?=some t):part v i (i+1)=[t]:=by
 unfold part
 have hlt:=(gS h).1
 rw[List.take_add_one,h,List.drop_append_of_le_length (by simp;omega),List.drop_of_length_le (by simp;omega)];rfl
theorem part_nil{v:List Nat}{i:Nat}(h:i≤v.length):part v i i=[]:=List.eq_nil_of_length_eq_zero (by rw[part_len h];omega)
abbrev WTab:=Nat→Nat→Nat→Option (List Nat)
structure HT where
 fi:Nat
 ra:Option Addr
 rm:Nat
 rc:Nat
 va:Option Addr
 vn:Nat
 vc:Nat
 ba:Option Addr
 bc:Nat
 BO:List (Nat×Blk)
 os:List Value
 RB:List (Nat×Blk)
 T:WTab
def hfCells(g:Gram)(m:Nat)(u:HT):List Value:=[.int .i64 g.terms,.int .i64 g.nons,.int .i64 g.start,.slice u.ra u.rm u.rc,.slice u.va u.vn u.vc,.slice u.ba m u.bc]
structure TabF(F:Frz)(v:List Nat)(m:Nat)(u:HT):Prop where
 outer:Bld tRaw F u.ba m u.bc u.BO u.os
 rlen:u.RB.length=m*(v.length+1)
 row:∀n,n<m→∃a c vs,u.os[n]?=some (.slice a (v.length+1) c)∧Arr tRaw F a (v.length+1) c vs∧∀i,i≤v.length→∃id cs c',vs[i]?=some (.slice (some ⟨id,0,none⟩) (v.length+1) c')∧
  u.RB[n*(v.length+1)+i]?=some (id,.cells false cs)∧Vec tW F (some ⟨id,0,none⟩) (v.length+1) c' [(id,.cells false cs)] ((List.range (v.length+1)).map (u.T n i))
 pat:Arr tSym F u.va u.vn u.vc (v.map fun t=>⟨true,t⟩)
 val:∀n i j w,u.T n i j=some w→i≤j∧j≤v.length∧w=part v i j
theorem TabF.mono{F G:Frz}{v:List Nat}{m:Nat}{u:HT}(h:TabF F v m u)(hF:Frz.le F G):TabF G v m u:=
 ⟨h.outer.mono hF,h.rlen,fun n hn=>by
  obtain⟨a,c,vs,h1,h2,h3⟩:=h.row n hn
  exact⟨a,c,vs,h1,h2.mono hF,fun i hi=>by obtain⟨id,cs,c',h4,h5,h6⟩:=h3 i hi;exact⟨id,cs,c',h4,h5,h6.mono hF⟩⟩,h.pat.mono hF,h.val⟩
def symW(v:List Nat)(T:WTab)(s:Sym)(i j:Nat):Option (List Nat):=
 if s.term=true then (if j=i+1∧v[i]?=some s.n then some [s.n] else none) else T s.n i j
theorem symW_val{F:Frz}{v:List Nat}{m:Nat}{u:HT}(h:TabF F v m u){s:Sym}{i j:Nat}{w:List Nat}(hw:symW v u.T s i j=some w):i≤j∧j≤v.length∧w=part v i j:=by
 unfold symW at hw
 split at hw
 ·split at hw
  ·rename_i h1
   obtain⟨rfl,h2⟩:=h1
   cases hw
   have:=(gS h2).1
   exact⟨by omega,by omega,(part_one h2).symm⟩
  ·cases hw
 ·exact h.val _ _ _ _ hw
theorem map_get{L j:Nat}{f:Nat→Option (List Nat)}(hj:j<L):((List.range L).map f)[j]?=some (f j):=by
 rw[List.getElem?_map,List.getElem?_range hj];rfl
theorem hsymbol_spec(F:Frz)(g:Gram)(hgn:g.nons≤1000){v:List Nat}(hv:v.length≤100){u:HT}(h:TabF F v g.nons u)(s:Sym)(hs:s.term=false→s.n<g.nons)(i j:Nat)(hij:i≤j)(hj:j≤v.length) :
  Abs.Spec CC 95 [.pointer (some ⟨u.fi,0,none⟩),.agg ⟨[.bool s.term,.int .i64 s.n]⟩,.int .i64 (i:Nat),.int .i64 (j:Nat)] F [[(u.fi,.cells false (hfCells g g.nons u))],u.BO,u.RB] fun F' x o=>
   o=[[(u.fi,.cells false (hfCells g g.nons u))],u.BO,u.RB]∧∃l,x=.agg ⟨l⟩∧tW.rel F' l (symW v u.T s i j):=by
 have hol:=h.outer.len
 have hpl:=h.pat.len
 rw[List.length_map] at hpl
 unfold hfCells
 refine Abs.Spec.fn (n:=46) Tryd.func95 rfl rfl fun own=>?_
 refine AW.seq (AW.reg ?_)
 refine WT.boxT Z Z Z Z Z Z (fun i5 hi5=>?_)
 refine WT.allocT hT Z Z Z Z Z Z (fun i8 hi8=>?_)
 refine zC7 ?_
 refine AW.cond Z (fun hc=>?_) (fun hc=>?_)
 ·have hc:s.term=false:=by simpa using hc
  have hsn:=hs hc
  obtain⟨a,c,vs,h1,h2,h3⟩:=h.row s.n hsn
  obtain⟨id,cs,c',h4,h5,h6⟩:=h3 i zo
  have h2l:=h2.len
  refine zC7 ?_
  refine WT.vidx hT h.outer.vec Z Z Z Z Z Z Z Z Z zo (fun b1 hb1=>?_)
  refine WT.vld1 (v:=.slice a (v.length+1) c) hT 3 h.outer.vec hb1 h1 Z Z Z Z Z Z Z Z Z (fun l h=>h.1) ?_
  refine zC7 ?_
  refine WT.idxL hT h2 Z Z Z Z Z Z Z Z Z zo (fun z hz b3 off3 ro3 cs3 lx3 hb3 hp3 hrel3=>?_)
  obtain rfl:z=.slice (some ⟨id,0,none⟩) (v.length+1) c':=by rw[h4] at hz;exact(Option.some.inj hz).symm
  obtain⟨rfl,_⟩:=hrel3
  refine zC7 ?_
  refine WT.vidx hT h6 Z Z Z Z Z Z Z Z Z zo (fun b5 hb5=>?_)
  refine WT.wldS hT 4 h6 hb5 (map_get zo) Z Z Z Z Z Z (fun z hz=>by rw[List.mem_singleton.1 hz];exact gM h5) Z Z Z (fun l hl=>?_)
  have e:symW v u.T s i j=u.T s.n i j:=by rw[symW,if_neg (by simp[hc])]
  rw[e]
  cases hx:u.T s.n i j with
  | none=>
   rw[hx] at hl
   obtain rfl:l=[.int .i64 0,.slice none 0 0,.bool false]:=hl
   refine zC7 ?_
   exact AW.ret ⟨_,[_,_,_],⟨_,_,⟨_,rfl,fun G h0 s0=>loadA_cells (s0.has (p:=0) rfl me) (readT_ok hT rfl)⟩,rfl,rfl⟩,zsb,rfl,_,rfl,rfl⟩
  | some w=>
   rw[hx] at hl
   obtain⟨wa,wn,wc,rfl,hw⟩:=hl
   refine zC7 ?_
   exact AW.ret ⟨_,[_,_,_],⟨_,_,⟨_,rfl,fun G h0 s0=>loadA_cells (s0.has (p:=0) rfl me) (readT_ok hT rfl)⟩,rfl,rfl⟩,zsb,rfl,_,rfl,wa,wn,wc,rfl,hw⟩
 ·have hc:s.term=true:=by simpa using hc
  refine zC7 ?_
  refine WT.split 30 Z (fun hd=>?_) (fun hd=>?_)
  ·have hd:j=i+1:=by simp at hd;omega
   subst hd
   refine zC7 ?_
   refine WT.idxL hT h.pat Z Z Z Z Z Z Z Z Z (by simp;omega) (fun z hz b3 off3 ro3 cs3 lx3 hb3 hp3 hrel3=>?_)
   obtain rfl:lx3=_:=hrel3
   rw[List.getElem?_map] at hz
   obtain⟨t,ht,rfl⟩:=Option.map_eq_some_iff.1 hz
   refine zC7 ?_
   refine WT.callV Tryd.func82 Z Z Z Z Z Z (his_spec _ s t) (fun x hx=>?_)
   subst hx
   refine zC7 ?_
   refine AW.cond Z (fun he=>?_) (fun he=>?_)
   ·have he:s=⟨true,t⟩:=by simpa using he
    subst he
    have e:symW v u.T ⟨true,t⟩ i (i+1)=some [t]:=by rw[symW,if_pos rfl,if_pos ⟨rfl,ht⟩]
    rw[e]
    refine zC7 ?_
    refine WT.buildT hT Z Z Z Z Z Z Z Z Z Z Z Z Z Z (fun i43 hi43=>?_)
    refine WT.freezeAll 0 Z Z (fun F2 hF2 hB2=>?_)
    have hL:Arr tNat F2 (some ⟨i43,0,none⟩) 1 1 [t]:=Bld.frozen (F:=F) (B:=[(i43,.cells false [.int .i64 (t:Nat)])]) ⟨rfl,.inr ⟨i43,_,rfl,rfl,rfl,Cells.single (R:=tNat) (x:=t) rfl,by decide⟩⟩ hF2 hB2
    refine zC7 ?_
    exact AW.ret ⟨_,[_,_,_],⟨_,_,⟨_,rfl,fun G h0 s0=>loadA_cells (s0.has (p:=1) rfl me) (readT_ok hT rfl)⟩,rfl,rfl⟩,zsb,rfl,_,rfl,_,1,_,rfl,hL⟩
   ·have he:s≠⟨true,t⟩:=by simpa using he
    have e:symW v u.T s i (i+1)=none:=by
     rw[symW,if_pos hc,if_neg]
     rintro⟨_,h2⟩
     rw[ht] at h2
     apply he
     cases s;simp only at hc h2;rw[hc,Option.some.inj h2]
    rw[e]
    refine zC7 ?_
    exact AW.ret ⟨_,[_,_,_],⟨_,_,⟨_,rfl,fun G h0 s0=>loadA_cells (s0.has (p:=0) rfl me) (readT_ok hT rfl)⟩,rfl,rfl⟩,zsb,rfl,_,rfl,rfl⟩
  ·have hd:j≠i+1:=by simp at hd;omega
   have e:symW v u.T s i j=none:=by rw[symW,if_pos hc,if_neg (fun h=>hd h.1)]
   rw[e]
   refine zC7 ?_
   refine AW.cond Z (fun h=>(by cases h)) (fun _=>?_)
   refine zC7 ?_
   exact AW.ret ⟨_,[_,_,_],⟨_,_,⟨_,rfl,fun G h0 s0=>loadA_cells (s0.has (p:=0) rfl me) (readT_ok hT rfl)⟩,rfl,rfl⟩,zsb,rfl,_,rfl,rfl⟩
end Go.Proofs.D
set_option linter.unusedVariables false
set_option maxRecDepth 20000
set_option maxHeartbeats 0
open Go Go.Abs Go.Proofs Go.Proofs.D
namespace Go.Abs
section
variable {C:Ctx}{T:RT}{n:Nat}{k:Kno}{F:Frz}{own:Own}{ops rest:List Oper}{o:Oper}{Q:Kno→Frz→Own→List Rec→Prop}{α:Type}{R:Ty α}
theorem partL_get{cs l:List Value}{off m fo:Nat}(h:partL cs off m=some l)(hfo:fo<m):cs[off+fo]?=l[fo]?:=by
 obtain⟨h1,h2⟩:=partL_eq h
 rw[h1,List.getElem?_take,if_pos hfo,List.getElem?_drop]
theorem WT.vfld(hT:rowsOk C T=true)(p:Nat){t:TypeId}{ao:Operand}{a:Option Addr}{m c j b fo:Nat}{B B2:List (Nat×Blk)}{xs:List α}{x:α}{r:Row}{v:Value}(hv:Vec R F a m c B xs)(ha:a=some ⟨b,0,none⟩)(hj:xs[j]?=some x)(hop:o.op=.load t ao)(hw:wantK ops k o=some true){dst:Nat}(hdst:o.dst=some dst)(hn:Nat.blt dst n=true)
  (hao:evK C k ao=some (.pointer (some ⟨b,j*R.size+fo,none⟩))) (hp:own[p]?=some B2) (hsub:∀z,z∈B→z∈B2) (hr:rowOf T t=some r) (hd:r.d.agg=false) (hfo:fo<R.size) (hval:∀l,R.rel F l x→l[fo]?=some v)
  (h:WT C n ops rest ((dst,v)::k) F own (fun k2 F2 own2 rs=>Q k2 F2 own2 (⟨F,own,F,own,[b]⟩::rs))):WT C n ops (o::rest) k F own Q:=by
 obtain⟨i,cs,h1,rfl,h3,h4⟩:=hv.at_ hj
 rw[ha] at h1
 injection h1 with h1
 injection h1 with h1
 subst h1
 obtain⟨l,h5,h6⟩:=h3.at j x hj
 exact WT.loadAt hT p hop hw hdst hn hao hp (hsub _ me) hr hd (by rw[partL_get h5 hfo];exact hval l h6) h
end
end Go.Abs
namespace Go.Proofs.D
def ChnP(P:Sym→Nat→Nat→Prop):List Sym→Nat→Nat→Prop
 | [],i,j=>i=j
 | s::l,i,j=>∃m,P s i m∧ChnP P l m j
theorem chnP_snoc{P:Sym→Nat→Nat→Prop}{s:Sym}:∀{l:List Sym} {i j:Nat},ChnP P (l++[s]) i j↔∃m,ChnP P l i m∧P s m j
 | [],i,j=>by
  constructor
  ·rintro⟨m,h1,rfl⟩;exact⟨i,rfl,h1⟩
  ·rintro⟨m,rfl,h⟩;exact⟨j,h,rfl⟩
 | a::l,i,j=>by
  constructor
  ·rintro⟨m,h1,h2⟩
   obtain⟨q,h3,h4⟩:=chnP_snoc.1 h2
   exact⟨q,⟨m,h1,h3⟩,h4⟩
  ·rintro⟨q,⟨m,h1,h3⟩,h4⟩
   exact⟨m,h1,chnP_snoc.2 ⟨q,h3,h4⟩⟩
theorem chnP_le{P:Sym→Nat→Nat→Prop}{N:Nat}(hP:∀s i j,P s i j→i≤j∧j≤N):∀{l:List Sym} {i j:Nat},ChnP P l i j→i≤j∧(i≤N→j≤N)
 | [],i,j,h=>by cases h;exact⟨Nat.le_refl _,id⟩
 | s::l,i,j,⟨m,h1,h2⟩=>by
  have:=hP _ _ _ h1
  have:=chnP_le hP h2
  exact⟨by omega,fun _=>this.2 zo⟩
structure RowOk(v:List Nat)(i:Nat)(D:Nat→Prop)(N:List (Option (List Nat))):Prop where
 len:N.length=v.length+1
 val:∀q w,N[q]?=some (some w)→i≤q∧w=part v i q
 iff:∀q,q≤v.length→((∃w,N[q]?=some (some w))↔D q)
theorem RowOk.congr{v:List Nat}{i:Nat}{D D':Nat→Prop}{N:List (Option (List Nat))}(h:RowOk v i D N)(e:∀q,q≤v.length→(D q↔D' q)):RowOk v i D' N:=
 ⟨h.len,h.val,fun q hq=>(h.iff q hq).trans (e q hq)⟩
theorem RowOk.put{v:List Nat}{i q:Nat}{D:Nat→Prop}{N:List (Option (List Nat))}(h:RowOk v i D N)(hi:i≤q)(hq:q≤v.length):RowOk v i (fun x=>D x∨x=q) (N.set q (some (part v i q))):=by
 have hl:=h.len
 refine⟨by simp[hl],fun x w hx=>?_,fun x hx=>?_⟩
 ·by_cases e:x=q
  ·subst e
   rw[List.getElem?_set_self zo] at hx
   cases hx;exact⟨hi,rfl⟩
  ·rw[List.getElem?_set_ne (fun e2=>e e2.symm)] at hx
   exact h.val x w hx
 ·by_cases e:x=q
  ·subst e
   rw[List.getElem?_set_self zo]
   simp
  ·rw[List.getElem?_set_ne (fun e2=>e e2.symm),h.iff x hx]
   simp[e]
theorem RowOk.had{v:List Nat}{i q:Nat}{D:Nat→Prop}{N:List (Option (List Nat))}(h:RowOk v i D N)(hq:q≤v.length){w:List Nat}(hw:N[q]?=some (some w)):RowOk v i (fun x=>D x∨x=q) N:=
 h.congr fun x hx=>⟨.inl,fun h1=>by
  rcases h1 with h1 | rfl
  ·exact h1
  ·exact(h.iff x hx).1 ⟨w,hw⟩⟩
theorem rowOk_none(v:List Nat)(i:Nat):RowOk v i (fun _=>False) (List.replicate (v.length+1) none):=
 ⟨by simp,fun q w h=>(by rw[List.getElem?_replicate] at h;split at h<;>cases h),fun q hq=>by simp[List.getElem?_replicate]⟩
def SymP(v:List Nat)(T:WTab)(s:Sym)(i j:Nat):Prop:=∃w,symW v T s i j=some w
structure AtS where
 a:Option Addr
 c:Nat
 B:List (Nat×Blk)
 xs:List (Option (List Nat))
structure NkS where
 k:Nat
 B:List (Nat×Blk)
 xs:List (Option (List Nat))
theorem own_rule1(a b c x y:List (Nat×Blk))(own:Own):OwnLe (a::b::c::y::x::own) (y::x::a::b::c::own):=by
 refine OwnLe.perm ?_
 exact(List.perm_middle (l₁:=[y,x]) (a:=a) (l₂:=b::c::own)).trans (List.Perm.cons a ((List.perm_middle (l₁:=[y,x]) (a:=b) (l₂:=c::own)).trans (List.Perm.cons b (List.perm_middle (l₁:=[y,x]) (a:=c) (l₂:=own)))))
theorem hrule_spec(F:Frz)(g:Gram)(hgn:g.nons≤1000){v:List Nat}(hv:v.length≤100){u:HT}(h:TabF F v g.nons u){r:Rule}{b:Option Addr}{n d:Nat}(hb:Arr tSym F b n d r.right)(hn:n≤1000)
  (hs:∀s∈r.right,s.term=false→s.n<g.nons) (i:Nat) (hi:i≤v.length) :
  Abs.Spec CC 84 [.pointer (some ⟨u.fi,0,none⟩),.agg ⟨[.int .i64 r.left,.slice b n d]⟩,.int .i64 (i:Nat)] F [[(u.fi,.cells false (hfCells g g.nons u))],u.BO,u.RB] fun F' x o=>
   ∃s:AtS,o=[[(u.fi,.cells false (hfCells g g.nons u))],u.BO,u.RB,s.B]∧x=.slice s.a (v.length+1) s.c∧Vec tW F' s.a (v.length+1) s.c s.B s.xs∧RowOk v i (ChnP (SymP v u.T) r.right i) s.xs:=by
 have hpl:=h.pat.len
 rw[List.length_map] at hpl
 have hbl:=hb.len
 have hPle:∀s i j,SymP v u.T s i j→i≤j∧j≤v.length:=fun s i j ⟨w,hw⟩=>by have:=symW_val h hw;omega
 unfold hfCells
 refine Abs.Spec.fn (n:=107) Tryd.func84 rfl rfl fun own=>?_
 refine AW.seq (AW.reg ?_)
 refine WT.boxT Z Z Z Z Z Z (fun i4 hi4=>?_)
 refine zC7 ?_
 refine WT.know (v':=.int .i64 ((v.length+1:Nat):Int)) 22 Z (by rw[hpl]) ?_
 refine WT.makeS (l:=v.length+1) (by_:=40) hT Z Z Z Z Z Z Z Z Z Z Z Z ⟨by omega,by omega,by decide⟩ (fun i23 hi23=>?_)
 have hv0:=vec_made (R:=tW) (zs:=[.int .i64 0,.slice none 0 0,.bool false]) (x:=none) (fun F=>rfl) (by decide) (F:=F) (i:=i23) (l:=v.length+1)
 refine zC7 ?_
 refine WT.vidx hT hv0 Z Z Z Z Z Z Z Z Z zo (fun b1 hb1=>?_)
 refine WT.vst (y:=some []) hT 0 hv0 hb1 (z:=none) (by rw[List.getElem?_replicate,if_pos zo]) Z Z Z Z Z ⟨none,0,0,rfl,Arr.nil_ _ _⟩ Z (fun _=>rfl) Z (fun B1 hB1=>?_)
 have hrow0:RowOk v i (ChnP (SymP v u.T) (r.right.take 0) i) ((List.replicate (v.length+1) none).set i (some [])):=by
  have:=(rowOk_none v i).put (Nat.le_refl i) hi
  rw[part_nil hi] at this
  exact this.congr fun q hq=>by simp[ChnP,eq_comm]
 refine zC7 ?_
 refine AW.le (own_rule1 _ _ _ _ _ _) ?_
 refine AW.range (S:=AtS) (fun s=>[(8,.slice s.a (v.length+1) s.c)]) (fun s=>[(u.fi,.cells false [.int .i64 g.terms,.int .i64 g.nons,.int .i64 g.start,.slice u.ra u.rm u.rc,.slice u.va u.vn u.vc,.slice u.ba g.nons u.bc])]::u.BO::u.RB::s.B::[(i4,.cells false [.int .i64 r.left,.slice b n d])]::own)
  (fun q s G=>Vec tW G s.a (v.length+1) s.c s.B s.xs∧RowOk v i (ChnP (SymP v u.T) (r.right.take q) i) s.xs) n ⟨_,_,B1,_⟩
  Z Z Z Z Z Z Z Z Z zo rfl rfl (fun _=>rfl) (fun _=>rfl) sM oR ⟨hB1,hrow0⟩ ?_ ?_
 ·intro q s F1 hF1 hq hP
  obtain⟨hsv,hsr⟩:=hP
  have hb1:=hb.mono hF1
  refine zC7 ?_
  refine WT.idxL hT hb1 Z Z Z Z Z Z Z Z Z zo (fun y hyq b2 off2 ro2 cs2 lx2 hb2 hp2 hrel2=>?_)
  obtain rfl:lx2=_:=hrel2
  have htk:r.right.take (q+1)=r.right.take q++[y]:=by rw[List.take_add_one,hyq];rfl
  have hys:=hs y (gM hyq)
  refine zC7 ?_
  refine WT.allocT hT Z Z Z Z Z Z (fun i10 hi10=>?_)
  refine zC7 ?_
  refine WT.know (v':=.int .i64 ((v.length+1:Nat):Int)) 36 Z (by rw[hpl]) ?_
  refine WT.makeS (l:=v.length+1) (by_:=40) hT Z Z Z Z Z Z Z Z Z Z Z Z ⟨by omega,by omega,by decide⟩ (fun i37 hi37=>?_)
  have hv1:=vec_made (R:=tW) (zs:=[.int .i64 0,.slice none 0 0,.bool false]) (x:=none) (fun F=>rfl) (by decide) (F:=F1) (i:=i37) (l:=v.length+1)
  refine zC7 ?_
  refine AW.le (own_rule1 _ _ _ _ _ _) ?_
  refine AW.block ?_
  refine AW.loopR (S:=NkS) (fun t=>[(12,.int .i64 (t.k:Nat))]) (fun t=>[(u.fi,.cells false [.int .i64 g.terms,.int .i64 g.nons,.int .i64 g.start,.slice u.ra u.rm u.rc,.slice u.va u.vn u.vc,.slice u.ba g.nons u.bc])]::u.BO::u.RB::t.B::[(i10,.cells false [.bool y.term,.int .i64 y.n])]::s.B::[(i4,.cells false [.int .i64 r.left,.slice b n d])]::own)
   (fun t G=>Vec tW G (some ⟨i37,0,none⟩) (v.length+1) (bif v.length+1==0 then 0 else tW.size) t.B t.xs∧i≤t.k∧t.k≤v.length+1∧RowOk v i (fun x=>∃m,m<t.k∧ChnP (SymP v u.T) (r.right.take q) i m∧SymP v u.T y m x) t.xs)
   (fun t=>v.length+1-t.k) ⟨i,_,_⟩ sM oR ⟨hv1,Nat.le_refl _,by dsimp only;omega,(rowOk_none v i).congr fun x hx=>⟨fun h=>h.elim,fun ⟨m,h1,h2,h3⟩=>by have:=(chnP_le hPle h2).1;dsimp only at h1;omega⟩⟩ ?_
  intro t F2 hF2 hP2
  obtain⟨ht,hik,hkn,htr⟩:=hP2
  have hsv2:=hsv.mono hF2
  refine zC7 ?_
  refine AW.cond Z (fun hc=>?_) (fun hc=>?_)
  ·have hkv:t.k≤v.length:=by simp at hc;omega
   obtain⟨x0,hx0⟩:∃x,s.xs[t.k]?=some x:=⟨_,gE (by rw[hsr.len];omega)⟩
   refine zC7 ?_
   refine AW.block ?_
   refine zC7 ?_
   refine AW.block ?_
   refine AW.loopR (S:=NkS) (fun w=>[(13,.int .i64 (w.k:Nat))]) (fun w=>[(u.fi,.cells false [.int .i64 g.terms,.int .i64 g.nons,.int .i64 g.start,.slice u.ra u.rm u.rc,.slice u.va u.vn u.vc,.slice u.ba g.nons u.bc])]::u.BO::u.RB::w.B::[(i10,.cells false [.bool y.term,.int .i64 y.n])]::s.B::[(i4,.cells false [.int .i64 r.left,.slice b n d])]::own)
    (fun w G=>Vec tW G (some ⟨i37,0,none⟩) (v.length+1) (bif v.length+1==0 then 0 else tW.size) w.B w.xs∧t.k≤w.k∧w.k≤v.length+1∧RowOk v i (fun x=>(∃m,m<t.k∧ChnP (SymP v u.T) (r.right.take q) i m∧SymP v u.T y m x)∨ChnP (SymP v u.T) (r.right.take q) i t.k∧SymP v u.T y t.k x∧x<w.k) w.xs)
    (fun w=>v.length+1-w.k) ⟨t.k,t.B,t.xs⟩ sM oR ⟨ht,Nat.le_refl _,hkn,htr.congr fun x hx=>⟨.inl,fun h=>by
     rcases h with h | ⟨_,h2,h3⟩
     ·exact h
     ·have:=hPle _ _ _ h2;dsimp only at h3;omega⟩⟩ ?_
   intro w F3 hF3 hP3
   obtain⟨hw,hkj,hjn,hwr⟩:=hP3
   have hsv3:=hsv2.mono hF3
   have stop:∀G,Frz.le F3 G→(ChnP (SymP v u.T) (r.right.take q) i t.k→w.k=v.length+1)→Vec tW G (some ⟨i37,0,none⟩) (v.length+1) (bif v.length+1==0 then 0 else tW.size) w.B w.xs∧i≤t.k+1∧t.k+1≤v.length+1∧RowOk v i (fun x=>∃m,m<t.k+1∧ChnP (SymP v u.T) (r.right.take q) i m∧SymP v u.T y m x) w.xs:=fun G hG he=>
    ⟨hw.mono hG,by omega,by omega,hwr.congr fun x hx=>⟨fun h=>by
     rcases h with ⟨m,h1,h2⟩ | ⟨h1,h2,h3⟩
     ·exact⟨m,by omega,h2⟩
     ·exact⟨t.k,by omega,h1,h2⟩,fun ⟨m,h1,h2,h3⟩=>by
     by_cases e:m=t.k
     ·subst e;exact .inr ⟨h2,h3,by have:=he h2;omega⟩
     ·exact .inl ⟨m,by omega,h2,h3⟩⟩⟩
   refine zC7 ?_
   refine WT.split 48 Z (fun hd=>?_) (fun hd=>?_)
   ·have hjv:w.k≤v.length:=by simp at hd;omega
    refine zC7 ?_
    refine WT.vidx hT hsv3 Z Z Z Z Z Z Z Z Z zo (fun b3 hb3=>?_)
    refine zC7 ?_
    have hchn:ChnP (SymP v u.T) (r.right.take q) i t.k↔∃x,x0=some x:=by
     rw[←hsr.iff t.k hkv,hx0]
     simp
    cases x0 with
    | none=>
     refine WT.vfld (v:=.bool false) (fo:=2) hT 5 hsv3 hb3 hx0 Z Z Z Z Z Z (fun z hz=>hz) Z Z (by decide) (fun l hl=>by rw[show l=_ from hl];rfl) ?_
     refine zC7 ?_
     refine AW.cond Z (fun h=>(by cases h)) (fun _=>?_)
     refine AW.exit ?_
     refine zC7 ?_
     exact⟨⟨t.k+1,w.B,w.xs⟩,by dsimp only;omega,sM,zow,stop _ (Frz.le.refl _) (fun h=>by obtain⟨x,hx⟩:=hchn.1 h;cases hx)⟩
    | some x0=>
     have hch:=hchn.2 ⟨x0,rfl⟩
     obtain⟨_,hx0v⟩:=hsr.val _ _ hx0
     have hx0l:x0.length=t.k-i:=by rw[hx0v,part_len hkv]
     refine WT.vfld (v:=.bool true) (fo:=2) hT 5 hsv3 hb3 hx0 Z Z Z Z Z Z (fun z hz=>hz) Z Z (by decide) (fun l hl=>by obtain⟨a,n,c,rfl,_⟩:=hl;rfl) ?_
     refine zC7 ?_
     refine AW.cond Z (fun _=>?_) (fun h=>(by cases h))
     refine zC7 ?_
     refine AW.block ?_
     refine zC7 ?_
     refine WT.callF (oin:=[[(u.fi,.cells false (hfCells g g.nons u))],u.BO,u.RB]) Tryd.func95 Z Z Z Z Z Z (hsymbol_spec F3 g hgn hv (h.mono (hF1.trans (hF2.trans hF3))) y hys t.k w.k hkj hjv) (List.Perm.refl _) (fun F4 z oo hF4 hz=>?_)
     obtain⟨rfl,l,rfl,hl⟩:=hz
     have hw4:=hw.mono hF4
     have hsv4:=hsv3.mono hF4
     cases hx:symW v u.T y t.k w.k with
     | none=>
      rw[hx] at hl
      obtain rfl:l=[.int .i64 0,.slice none 0 0,.bool false]:=hl
      skip
      refine WT.allocT hT Z Z Z Z Z Z (fun i14 hi14=>?_)
      refine zC7 ?_
      refine AW.cond Z (fun h=>(by cases h)) (fun _=>?_)
      refine zC7 ?_
      refine⟨⟨w.k+1,w.B,w.xs⟩,by dsimp only;omega,sM,zow,hw4,by dsimp only;omega,by dsimp only;omega,hwr.congr fun x hxv=>or_congr_right ⟨fun ⟨h1,h2,h3⟩=>⟨h1,h2,by dsimp only;omega⟩,fun ⟨h1,h2,h3⟩=>⟨h1,h2,?_⟩⟩⟩
      dsimp only at h3
      by_cases e:x=w.k
      ·subst e;obtain⟨z,hz⟩:=h2;rw[hx] at hz;cases hz
      ·omega
     | some z=>
      have hP:SymP v u.T y t.k w.k:=⟨z,hx⟩
      obtain⟨_,_,hzv⟩:=symW_val h hx
      have hzl:z.length=w.k-t.k:=by rw[hzv,part_len hjv]
      rw[hx] at hl
      obtain⟨za,zn,zc,rfl,hz⟩:=hl
      have hzn:=hz.len
      have happ:x0++z=part v i w.k:=by rw[hx0v,hzv,part_app hik hkj hjv]
      have hpl2:(part v i w.k).length=w.k-i:=part_len hjv
      obtain⟨y0,hy0⟩:∃x,w.xs[w.k]?=some x:=⟨_,gE (by rw[hwr.len];omega)⟩
      skip
      refine WT.allocT hT Z Z Z Z Z Z (fun i14 hi14=>?_)
      refine zC7 ?_
      have more:∀N,RowOk v i (fun x=>((∃m,m<t.k∧ChnP (SymP v u.T) (r.right.take q) i m∧SymP v u.T y m x)∨ChnP (SymP v u.T) (r.right.take q) i t.k∧SymP v u.T y t.k x∧x<w.k)∨x=w.k) N→
        RowOk v i (fun x=>(∃m,m<t.k∧ChnP (SymP v u.T) (r.right.take q) i m∧SymP v u.T y m x)∨ChnP (SymP v u.T) (r.right.take q) i t.k∧SymP v u.T y t.k x∧x<w.k+1) N:=fun N hN=>hN.congr fun x hxv=>by
       constructor
       ·rintro((h1 | ⟨h1,h2,h3⟩) | rfl)
        ·exact .inl h1
        ·exact .inr ⟨h1,h2,by omega⟩
        ·exact .inr ⟨hch,hP,by omega⟩
       ·rintro(h1 | ⟨h1,h2,h3⟩)
        ·exact .inl (.inl h1)
        ·by_cases e:x=w.k
         ·exact .inr e
         ·exact .inl (.inr ⟨h1,h2,by omega⟩)
      refine WT.vidx hT hw4 Z Z Z Z Z Z Z Z Z zo (fun b5 hb5=>?_)
      refine zC7 ?_
      cases y0 with
      | none=>
       refine WT.vfld (v:=.bool false) (fo:=2) hT 4 hw4 hb5 hy0 Z Z Z Z Z Z (fun z hz=>hz) Z Z (by decide) (fun l hl=>by rw[show l=_ from hl];rfl) ?_
       refine zC7 ?_
       refine AW.cond Z (fun _=>?_) (fun h=>(by cases h))
       refine zC7 ?_
       refine AW.draw (ps:=[(3,6),(4,6)]) Z Z ?_
       refine zC7 ?_
       refine WT.vidx hT hsv4 Z Z Z Z Z Z Z Z Z zo (fun b6 hb6=>?_)
       obtain⟨ia,acs,ha1,ha2,_⟩:=hsv4.at_ hx0
       have hmemA:(b6,Blk.cells false acs)∈s.B:=by
        rw[ha1] at hb6
        injection hb6 with hb6
        injection hb6 with hb6
        rw[ha2,hb6];exact List.mem_cons_self ..
       refine WT.wldS hT 6 hsv4 hb6 hx0 Z Z Z Z Z Z (fun z hz=>hz) Z Z Z (fun l hl=>?_)
       obtain⟨xa,xn,xc,rfl,hxa⟩:=hl
       refine zC7 ?_
       refine WT.callF0 Tryd.func96 Z Z Z Z Z Z (hthen_spec F4 ⟨xa,xn,xc,rfl,hxa⟩ ⟨za,zn,zc,rfl,hz⟩ zo) (fun F5 v2 hF5 hv2=>?_)
       obtain⟨l2,rfl,hl2⟩:=hv2
       rw[happ] at hl2
       obtain⟨ya,yn,yc,rfl,hya⟩:=hl2
       have hw5:=hw4.mono hF5
       refine WT.allocT hT Z Z Z Z Z Z (fun i15 hi15=>?_)
       refine zC7 ?_
       refine⟨zrA,?_⟩
       refine zC7 ?_
       refine WT.vidx hT hw5 Z Z Z Z Z Z Z Z Z zo (fun b7 hb7=>?_)
       refine WT.wldS hT 5 hw5 hb7 hy0 Z Z Z Z Z Z (fun z hz=>hz) Z Z Z (fun l hl=>?_)
       obtain rfl:l=[.int .i64 0,.slice none 0 0,.bool false]:=hl
       refine WT.callV Tryd.func85 Z Z Z Z Z Z (hless_spec F5 (x:=some (part v i w.k)) (y:=none) ⟨ya,yn,yc,rfl,hya⟩ Z (fun _ e=>by cases e;omega) (fun _ e=>by cases e)) (fun v2 hv2=>?_)
       subst hv2
       refine zC7 ?_
       refine AW.cond Z (fun _=>?_) (fun h=>(by cases h))
       refine zC7 ?_
       refine WT.vidx hT hw5 Z Z Z Z Z Z Z Z Z zo (fun b8 hb8=>?_)
       refine WT.vst (y:=some (part v i w.k)) hT 5 hw5 hb8 hy0 Z Z Z Z Z ⟨ya,yn,yc,rfl,hya⟩ Z (fun _=>rfl) Z (fun B8 hB8=>?_)
       refine zC7 ?_
       exact⟨⟨w.k+1,B8,w.xs.set w.k (some (part v i w.k))⟩,by dsimp only;omega,sM,zow,hB8,by dsimp only;omega,by dsimp only;omega,more _ (hwr.put zo hjv)⟩
      | some y0=>
       obtain⟨_,hy0v⟩:=hwr.val _ _ hy0
       subst hy0v
       refine WT.vfld (v:=.bool true) (fo:=2) hT 4 hw4 hb5 hy0 Z Z Z Z Z Z (fun z hz=>hz) Z Z (by decide) (fun l hl=>by obtain⟨a,n,c,rfl,_⟩:=hl;rfl) ?_
       refine zC7 ?_
       refine WT.vidx hT hsv4 Z Z Z Z Z Z Z Z Z zo (fun b9 hb9=>?_)
       refine zC7 ?_
       refine WT.vfld (v:=.int .i64 (x0.length:Nat)) (fo:=0) hT 6 hsv4 hb9 hx0 Z Z Z Z Z Z (fun z hz=>hz) Z Z (by decide) (fun l hl=>by obtain⟨a,n,c,rfl,h⟩:=hl;rw[←h.len];rfl) ?_
       refine zC7 ?_
       refine WT.vidx hT hw4 Z Z Z Z Z Z Z Z Z zo (fun b10 hb10=>?_)
       refine zC7 ?_
       refine WT.vfld (v:=.int .i64 ((part v i w.k).length:Nat)) (fo:=0) hT 4 hw4 hb10 hy0 Z Z Z Z Z Z (fun z hz=>hz) Z Z (by decide) (fun l hl=>by obtain⟨a,n,c,rfl,h⟩:=hl;rw[←h.len];rfl) ?_
       refine zC7 ?_
       refine AW.cond Z (fun _=>?_) (fun h=>(by simp at h;omega))
       refine zC7 ?_
       refine AW.draw (ps:=[(3,6),(4,6)]) Z Z ?_
       refine zC7 ?_
       refine WT.vidx hT hsv4 Z Z Z Z Z Z Z Z Z zo (fun b6 hb6=>?_)
       obtain⟨ia,acs,ha1,ha2,_⟩:=hsv4.at_ hx0
       have hmemA:(b6,Blk.cells false acs)∈s.B:=by
        rw[ha1] at hb6
        injection hb6 with hb6
        injection hb6 with hb6
        rw[ha2,hb6];exact List.mem_cons_self ..
       refine WT.wldS hT 6 hsv4 hb6 hx0 Z Z Z Z Z Z (fun z hz=>hz) Z Z Z (fun l hl=>?_)
       obtain⟨xa,xn,xc,rfl,hxa⟩:=hl
       refine zC7 ?_
       refine WT.callF0 Tryd.func96 Z Z Z Z Z Z (hthen_spec F4 ⟨xa,xn,xc,rfl,hxa⟩ ⟨za,zn,zc,rfl,hz⟩ zo) (fun F5 v2 hF5 hv2=>?_)
       obtain⟨l2,rfl,hl2⟩:=hv2
       rw[happ] at hl2
       obtain⟨ya,yn,yc,rfl,hya⟩:=hl2
       have hw5:=hw4.mono hF5
       refine WT.allocT hT Z Z Z Z Z Z (fun i15 hi15=>?_)
       refine zC7 ?_
       refine⟨zrA,?_⟩
       refine zC7 ?_
       refine WT.vidx hT hw5 Z Z Z Z Z Z Z Z Z zo (fun b7 hb7=>?_)
       refine WT.wldS hT 5 hw5 hb7 hy0 Z Z Z Z Z Z (fun z hz=>hz) Z Z Z (fun l hl=>?_)
       obtain⟨ua,un,uc,rfl,hua⟩:=hl
       refine WT.callV Tryd.func85 Z Z Z Z Z Z (hless_spec F5 (x:=some (part v i w.k)) (y:=some (part v i w.k)) ⟨ya,yn,yc,rfl,hya⟩ ⟨ua,un,uc,rfl,hua⟩ (fun _ e=>by cases e;omega) (fun _ e=>by cases e;omega)) (fun v2 hv2=>?_)
       subst hv2
       rw[lessO_self]
       refine zC7 ?_
       refine AW.cond Z (fun h=>(by cases h)) (fun _=>?_)
       refine zC7 ?_
       exact⟨⟨w.k+1,w.B,w.xs⟩,by dsimp only;omega,sM,zow,hw5,by dsimp only;omega,by dsimp only;omega,more _ (hwr.had hjv hy0)⟩
   ·have hjv:w.k=v.length+1:=by simp at hd;omega
    refine zC7 ?_
    refine AW.cond Z (fun h=>(by cases h)) (fun _=>?_)
    refine AW.exit ?_
    refine zC7 ?_
    exact⟨⟨t.k+1,w.B,w.xs⟩,by dsimp only;omega,sM,zow,stop _ (Frz.le.refl _) (fun _=>hjv)⟩
  ·have hkv:t.k=v.length+1:=by simp at hc;omega
   skip
   refine AW.exit ?_
   refine zC7 ?_
   refine⟨⟨_,_,t.B,t.xs⟩,sM,OwnLe.cons _ (OwnLe.cons _ (OwnLe.cons _ (OwnLe.cons _ (OwnLe.skip _ (OwnLe.skip _ oR))))),ht,htr.congr fun x hx=>?_⟩
   rw[htk,chnP_snoc]
   exact⟨fun ⟨m,_,h⟩=>⟨m,h⟩,fun ⟨m,h1,h2⟩=>⟨m,by have:=hPle _ _ _ h2;omega,h1,h2⟩⟩
 ·intro s F1 hF1 hP
  obtain⟨hsv,hsr⟩:=hP
  rw[List.take_of_length_le zo] at hsr
  refine zC7 ?_
  exact AW.ret ⟨_,[_,_,_,_],⟨_,_,rfl,rfl,rfl⟩,List.Sublist.cons_cons _ (List.Sublist.cons_cons _ (List.Sublist.cons_cons _ (List.Sublist.cons_cons _ (List.sublist_cons_self _ _)))),s,rfl,rfl,hsv,hsr⟩
end Go.Proofs.D
set_option linter.unusedVariables false
set_option maxRecDepth 20000
set_option maxHeartbeats 0
open Go Go.Abs Go.Proofs Go.Proofs.D
namespace Go.Abs
section
variable {C:Ctx}{T:RT}{n:Nat}{k:Kno}{F:Frz}{own:Own}{ops rest:List Oper}{o:Oper}{Q:Kno→Frz→Own→List Rec→Prop}{α:Type}{R:Ty α}
theorem WT.vstB(hT:rowsOk C T=true)(p q:Nat){t:TypeId}{ao x:Operand}{m c j id:Nat}{cs:List Value}{B:List (Nat×Blk)}{upd:List (Nat×Blk)→Own}{xs:List α}{z y:α}{v:Value}(hv:Vec R F (some ⟨id,0,none⟩) m c [(id,.cells false cs)] xs)(hj:xs[j]?=some z)(hq:B[q]?=some (id,.cells false cs))(hop:o.op=.store t ao x)(hw:wantK ops k o=some true)(hd:o.dst=none)
  (hao:evK C k ao=some (.pointer (some ⟨id,j*R.size,none⟩))) (hx:evK C k x=some v) (hy:R.rel F v.cells.toList y) (hp:own[p]?=some B) (hupd:∀B',setO own p B'=some (upd B')) (hm:sizeT T t=some R.size)
  (h:∀cs',Vec R F (some ⟨id,0,none⟩) m c [(id,.cells false cs')] (xs.set j y)→WT C n ops rest k F (upd (B.set q (id,.cells false cs'))) (fun k2 F2 own2 rs=>Q k2 F2 own2 (⟨F,own,F,upd (B.set q (id,.cells false cs')),[id]⟩::rs))) :
  WT C n ops (o::rest) k F own Q:=by
 obtain⟨i,cs0,h1,h2,h3,h4⟩:=hv.at_ hj
 injection h2 with h2 _
 injection h2 with h2 h5
 injection h5 with _ h5
 subst h5
 have hset:=hv.set rfl hj hy
 have hlt:=(gS hj).1
 have hcl:=h3.len
 have hmul:j*R.size+R.size≤cs.length:=by
  rw[hcl,←Nat.succ_mul]
  exact Nat.mul_le_mul_right _ hlt
 refine WT.store (C:=C) (n:=n) (k:=k) (F:=F) (Q:=Q) (rest:=rest) (ops:=ops) p q hop hw hao hx hp hq (sizeT_ok hT hm) (R.len _ _ _ hy) (R.one _ _ _ hy) hmul ?_
 rw[hd]
 have e:=setO_ok _ _ _ _ (hupd (B.set q (id,.cells false (spliceL cs (j*R.size) v.cells.toList))))
 rw[e]
 exact h _ hset
end
end Go.Abs
namespace Go.Proofs.D
theorem idx_inj{L n i n' i':Nat}(hi:i<L)(hi':i'<L)(h:n*L+i=n'*L+i'):n=n'∧i=i':=by
 have m1:=congrArg (· % L) h
 simp only[Nat.mul_comm _ L,Nat.mul_add_mod] at m1
 rw[Nat.mod_eq_of_lt hi,Nat.mod_eq_of_lt hi'] at m1
 subst m1
 exact⟨Nat.eq_of_mul_eq_mul_right zo (Nat.add_right_cancel h),rfl⟩
theorem idx_lt{L m n i:Nat}(hn:n<m)(hi:i<L):n*L+i<m*L:=by
 have:=Nat.mul_le_mul_right L (show n+1≤m by omega)
 rw[Nat.add_mul,Nat.one_mul] at this
 omega
def updT(T:WTab)(n i j:Nat)(w:List Nat):WTab:=fun n' i' j'=>if n'=n∧i'=i∧j'=j then some w else T n' i' j'
theorem updT_row{T:WTab}{n i j L:Nat}{w:List Nat}(hj:j<L):(List.range L).map (updT T n i j w n i)=((List.range L).map (T n i)).set j (some w):=by
 refine List.ext_getElem? fun q=>?_
 by_cases hq:q<L
 ·rw[map_get hq]
  by_cases e:q=j
  ·subst e
   rw[List.getElem?_set_self (by simpa using hj)]
   simp[updT]
  ·rw[List.getElem?_set_ne (fun h=>e h.symm),map_get hq]
   simp[updT,e]
 ·rw[List.getElem?_eq_none_iff.2 (by simp;omega),List.getElem?_eq_none_iff.2 (by simp;omega)]
theorem updT_other{T:WTab}{n i j n' i':Nat}{w:List Nat}(h:¬(n'=n∧i'=i)):updT T n i j w n' i'=T n' i':=by
 funext q
 unfold updT
 rw[if_neg (fun h2=>h ⟨h2.1,h2.2.1⟩)]
theorem TabF.put{F:Frz}{v:List Nat}{m:Nat}{u:HT}(h:TabF F v m u){n i j:Nat}(hn:n<m)(hi:i≤v.length)(hij:i≤j)(hj:j≤v.length){id c':Nat}{cs cs':List Value}(hid:u.RB[n*(v.length+1)+i]?=some (id,.cells false cs))
  (hv:Vec tW F (some ⟨id,0,none⟩) (v.length+1) c' [(id,.cells false cs')] (((List.range (v.length+1)).map (u.T n i)).set j (some (part v i j)))) :
  TabF F v m { u with RB:=u.RB.set (n*(v.length+1)+i) (id,.cells false cs'),T:=updT u.T n i j (part v i j) }:=by
 refine⟨h.outer,by simp[h.rlen],fun n' hn'=>?_,h.pat,fun n' i' j' w hw=>?_⟩
 ·obtain⟨a,c,vs,h1,h2,h3⟩:=h.row n' hn'
  refine⟨a,c,vs,h1,h2,fun i' hi'=>?_⟩
  obtain⟨id',cs2,c2,h4,h5,h6⟩:=h3 i' hi'
  by_cases e:n'=n∧i'=i
  ·obtain⟨rfl,rfl⟩:=e
   rw[hid] at h5
   obtain⟨rfl,h7⟩:=Prod.mk.inj (Option.some.inj h5)
   refine⟨id,cs',c2,h4,by show (u.RB.set _ _)[_]?=_;rw[List.getElem?_set_self (by rw[h.rlen];exact idx_lt hn zo)],?_⟩
   show Vec tW F _ _ _ _ ((List.range _).map (updT u.T n' i' j _ n' i'))
   rw[updT_row zo]
   exact⟨hv.len,h6.cap,h6.zero,h6.nil,h6.spot,hv.el⟩
  ·refine⟨id',cs2,c2,h4,?_,?_⟩
   ·show (u.RB.set _ _)[_]?=_
    rw[List.getElem?_set_ne (fun h7=>e (by have:=idx_inj zo zo h7;exact⟨this.1.symm,this.2.symm⟩))]
    exact h5
   ·show Vec tW F _ _ _ _ ((List.range _).map (updT u.T n i j _ n' i'))
    rw[updT_other e];exact h6
 ·have hw2:updT u.T n i j (part v i j) n' i' j'=some w:=hw
  by_cases e:n'=n∧i'=i∧j'=j
  ·have h2:updT u.T n i j (part v i j) n' i' j'=some (part v i j):=if_pos e
   rw[h2] at hw2
   obtain⟨rfl,rfl,rfl⟩:=e
   exact⟨hij,hj,(Option.some.inj hw2).symm⟩
  ·have h2:updT u.T n i j (part v i j) n' i' j'=u.T n' i' j':=if_neg e
   rw[h2] at hw2
   exact h.val n' i' j' w hw2
def lacks(m L:Nat)(T:WTab):Nat:=(List.range (m*L*L)).countP fun p=>(T (p / (L*L)) (p / L % L) (p % L)).isNone
theorem countP_less{α:Type}{p q:α→Bool}:∀{l:List α},(∀x∈l,q x=true→p x=true)→(∃x∈l,p x=true∧q x=false)→l.countP q<l.countP p
 | [],_,⟨x,hx,_⟩=>by cases hx
 | a::l,h,⟨x,hx,h1,h2⟩=>by
  have hle:l.countP q≤l.countP p:=List.countP_mono_left fun y hy=>h y (List.mem_cons_of_mem _ hy)
  rw[List.countP_cons,List.countP_cons]
  rcases List.mem_cons.1 hx with rfl | hx
  ·rw[if_pos h1,if_neg (by simp[h2])];omega
  ·have:=countP_less (fun y hy=>h y (List.mem_cons_of_mem _ hy)) ⟨x,hx,h1,h2⟩
   by_cases hq:q a=true
   ·rw[if_pos hq,if_pos (h a me hq)];omega
   ·rw[if_neg hq];omega
theorem lacks_put{m L:Nat}{T:WTab}{n i j:Nat}{w:List Nat}(hn:n<m)(hi:i<L)(hj:j<L)(hT:T n i j=none):lacks m L (updT T n i j w)<lacks m L T:=by
 have h1:(n*L+i)*L+j<m*L*L:=idx_lt (idx_lt hn hi) hj
 have e1:((n*L+i)*L+j) % L=j:=by rw[Nat.mul_comm,Nat.mul_add_mod,Nat.mod_eq_of_lt hj]
 have e2:((n*L+i)*L+j) / L=n*L+i:=by rw[Nat.mul_comm,Nat.mul_add_div zo,Nat.div_eq_of_lt hj];omega
 have e3:(n*L+i) % L=i:=by rw[Nat.mul_comm,Nat.mul_add_mod,Nat.mod_eq_of_lt hi]
 have e4:((n*L+i)*L+j) / (L*L)=n:=by
  rw[←Nat.div_div_eq_div_mul,e2,Nat.mul_comm,Nat.mul_add_div zo,Nat.div_eq_of_lt hi];omega
 refine countP_less (fun p _ hp=>?_) ⟨(n*L+i)*L+j,List.mem_range.2 h1,?_,?_⟩
 ·unfold updT at hp
  split at hp
  ·cases hp
  ·exact hp
 ·rw[e1,e2,e3,e4,hT];rfl
 ·rw[e1,e2,e3,e4];simp[updT]
theorem rowsL_one(x:Value):∀n,rowsL [x] n=List.replicate n x
 | 0=>rfl
 | n+1=>by simp only[rowsL,rowsL_one x n,List.replicate_succ];rfl
structure InS where
 B:List (Nat×Blk)
 xs:List Value
 RN:List (Nat×Blk)
structure OuS where
 k:Nat
 ba:Option Addr
 bc:Nat
 BO:List (Nat×Blk)
 os:List Value
 RB:List (Nat×Blk)
structure FS where
 RB:List (Nat×Blk)
 T:WTab
 again:Bool
def TSound(g:Gram)(v:List Nat)(T:WTab):Prop:=∀n i j w,T n i j=some w→Der g v ⟨false,n⟩ i j
def TClosed(v:List Nat)(T:WTab)(r:Rule)(k:Nat):Prop:=∀i,i<k→∀j,ChnP (SymP v T) r.right i j→∃w,T r.left i j=some w
theorem chain_der{g:Gram}{v:List Nat}{T:WTab}(h:TSound g v T):∀{l:List Sym} {i j:Nat},ChnP (SymP v T) l i j→Ders g v l i j
 | [],i,j,e=>by cases e;exact .nil
 | s::l,i,j,⟨m,⟨w,hw⟩,h2⟩=>by
  refine .cons ?_ (chain_der h h2)
  obtain⟨t,n⟩:=s
  unfold symW at hw
  cases t with
  | true=>
   rw[if_pos rfl] at hw
   split at hw
   ·rename_i h1;obtain⟨rfl,h1⟩:=h1;exact .term h1
   ·cases hw
  | false=>rw[if_neg (by simp)] at hw;exact h n i m w hw
theorem tab_whole{g:Gram}{v:List Nat}{T:WTab}(h:∀r∈g.rules,TClosed v T r (v.length+1)):∀{s:Sym} {i j:Nat},Der g v s i j→i≤v.length→SymP v T s i j∧j≤v.length:=by
 intro s i j h1
 refine Der.rec (motive_1:=fun s i j _=>i≤v.length→SymP v T s i j∧j≤v.length) (motive_2:=fun l i j _=>i≤v.length→ChnP (SymP v T) l i j∧j≤v.length) ?_ ?_ ?_ ?_ h1
 ·intro t i h2 h3
  have:=(gS h2).1
  exact⟨⟨[t],by rw[symW,if_pos rfl,if_pos ⟨rfl,h2⟩]⟩,by omega⟩
 ·intro r i j hr h2 ih hi
  obtain⟨h3,h4⟩:=ih hi
  obtain⟨w,hw⟩:=h r hr i zo j h3
  exact⟨⟨w,by rw[symW,if_neg (by simp)];exact hw⟩,h4⟩
 ·intro i hi;exact⟨rfl,hi⟩
 ·intro s l i m j h2 h3 ih1 ih2 hi
  obtain⟨h4,h5⟩:=ih1 hi
  obtain⟨h6,h7⟩:=ih2 h5
  exact⟨⟨m,h4,h6⟩,h7⟩
structure PInv(g:Gram)(v:List Nat)(p:WTab)(f:FS)(X Y:Prop):Prop where
 tab:Y
 sound:TSound g v f.T
 le:lacks g.nons (v.length+1) f.T≤lacks g.nons (v.length+1) p
 lt:f.again=true→lacks g.nons (v.length+1) f.T<lacks g.nons (v.length+1) p
 cl:f.again=false→f.T=p∧X
theorem PInv.imp{g:Gram}{v:List Nat}{p:WTab}{f:FS}{X X' Y Y':Prop}(h:PInv g v p f X Y)(hy:Y→Y')(hx:X→X'):PInv g v p f X' Y':=
 ⟨hy h.tab,h.sound,h.le,h.lt,fun e=>⟨(h.cl e).1,hx (h.cl e).2⟩⟩
structure RowsIn(F:Frz)(L i:Nat)(xs:List Value)(RN:List (Nat×Blk)):Prop where
 len:RN.length=i
 at_:∀j,j<i→∃id cs c',xs[j]?=some (.slice (some ⟨id,0,none⟩) L c')∧RN[j]?=some (id,.cells false cs)∧Vec tW F (some ⟨id,0,none⟩) L c' [(id,.cells false cs)] (List.replicate L none)
theorem RowsIn.mono{F G:Frz}{L i:Nat}{xs:List Value}{RN:List (Nat×Blk)}(h:RowsIn F L i xs RN)(hF:Frz.le F G):RowsIn G L i xs RN:=
 ⟨h.len,fun j hj=>by obtain⟨id,cs,c',h1,h2,h3⟩:=h.at_ j hj;exact⟨id,cs,c',h1,h2,h3.mono hF⟩⟩
theorem own_fill1(x b r:List (Nat×Blk))(y:Nat×Blk)(own:Own):OwnLe (b::(r++[y])::own) ([y]::b::r::own):=by
 refine OwnLe.flat ?_
 have:=List.perm_middle (a:=y) (l₁:=b++r) (l₂:=own.flatten)
 simpa using this.symm
theorem own_fill2(r f bo rb:List (Nat×Blk))(own:Own):OwnLe (f::bo::(rb++r)::own) ([]::r::f::bo::rb::own):=by
 refine OwnLe.flat ?_
 have:=List.perm_append_comm (l₁:=r) (l₂:=f++(bo++rb))
 have:=this.append_right own.flatten
 simpa using this
theorem hfill_spec(F:Frz)(g:Gram)(hg:Valid g){a:Option Addr}{m c:Nat}(hr:Arr tRule F a m c g.rules){va:Option Addr}{vn vc:Nat}{v:List Nat}(hv:Arr tSym F va vn vc (v.map fun t=>⟨true,t⟩))(hv1:v.length≤100) :
  Abs.Spec CC 53 [.agg ⟨gramCells g a m c⟩,.slice va vn vc] F [] fun F' x o=>o=[]∧∃l1 l2,x=.agg ⟨[l1,l2,.bool (derives g v g.start 0 v.length)]⟩:=by
 have hpl:=hv.len
 rw[List.length_map] at hpl
 have hrl:=hr.len
 have hgr:=hg.range.rules
 have hgn:=hg.range.nons
 unfold gramCells
 refine Abs.Spec.fn (n:=171) Tryd.func53 rfl rfl fun own=>?_
 refine AW.seq (AW.reg ?_)
 refine WT.boxT Z Z Z Z Z Z (fun i2 hi2=>?_)
 refine WT.allocT hT Z Z Z Z Z Z (fun i4 hi4=>?_)
 refine zC7 ?_
 refine WT.boxT Z Z Z Z Z Z (fun fi hfi=>?_)
 refine zC7 ?_
 refine WT.callN Tryd.func71 Z Z Z Z Z Z (Lengths_spec _ g hg hr) (fun F1 x B2 hF1 hx=>?_)
 obtain⟨O,oa,oc,rfl,hO,_⟩:=hx
 have hr1:=hr.mono hF1
 have hv1':=hv.mono hF1
 refine zC7 ?_
 refine AW.le (own2:=[(fi,.cells false [.int .i64 g.terms,.int .i64 g.nons,.int .i64 g.start,.slice a m c,.slice va vn vc,.slice none 0 0])]::[]::[]::[(i4,.cells false [.int .i64 0,.slice none 0 0,.bool false])]::[(i2,.cells false [.int .i64 g.terms,.int .i64 g.nons,.int .i64 g.start,.slice a m c])]::own) (OwnLe.skip _ (OwnLe.flat (List.Perm.of_eq (by simp)))) ?_
 refine AW.range (S:=OuS) (fun _=>[]) (fun s=>[(fi,.cells false [.int .i64 g.terms,.int .i64 g.nons,.int .i64 g.start,.slice a m c,.slice va vn vc,.slice s.ba s.k s.bc])]::s.BO::s.RB::[(i4,.cells false [.int .i64 0,.slice none 0 0,.bool false])]::[(i2,.cells false [.int .i64 g.terms,.int .i64 g.nons,.int .i64 g.start,.slice a m c])]::own)
  (fun n s G=>s.k=n∧TabF G v n ⟨fi,a,m,c,va,vn,vc,s.ba,s.bc,s.BO,s.os,s.RB,fun _ _ _=>none⟩) g.nons ⟨0,none,0,[],[],[]⟩
  Z Z Z Z Z Z Z Z Z zo rfl rfl (fun _=>rfl) (fun _=>rfl) sM oR ⟨rfl,Bld.nil_ _ _,by simp,fun n hn=>absurd hn (Nat.not_lt_zero _),hv1',fun n i j w h=>by cases h⟩ ?_ ?_
 ·rintro n s F2 hF2 hn ⟨rfl,hP⟩
  have hol:s.k=s.os.length:=hP.outer.len
  have hpat2:=hP.pat
  refine zC7 ?_
  refine WT.know (v':=.int .i64 ((v.length+1:Nat):Int)) 35 Z (by rw[hpl]) ?_
  refine WT.makeT (l:=v.length+1) (by_:=24) hT Z Z Z Z Z Z Z Z Z Z Z Z zo (fun i36 hi36=>?_)
  have hv0:Vec tRaw F2 (some ⟨i36,0,none⟩) (v.length+1) (bif v.length+1==0 then 0 else 1) [(i36,.cells false (List.replicate (v.length+1) (.slice none 0 0)))] (List.replicate (v.length+1) (Value.slice none 0 0)):=by
   have:=vec_made (R:=tRaw) (zs:=[.slice none 0 0]) (x:=.slice none 0 0) (fun F=>⟨rfl,rfl⟩) (by decide) (F:=F2) (i:=i36) (l:=v.length+1)
   rw[rowsL_one] at this
   exact this
  refine zC7 ?_
  refine AW.le (own2:=[(i36,.cells false (List.replicate (v.length+1) (.slice none 0 0)))]::[]::[(fi,.cells false [.int .i64 g.terms,.int .i64 g.nons,.int .i64 g.start,.slice a m c,.slice va vn vc,.slice s.ba s.k s.bc])]::s.BO::s.RB::[(i4,.cells false [.int .i64 0,.slice none 0 0,.bool false])]::[(i2,.cells false [.int .i64 g.terms,.int .i64 g.nons,.int .i64 g.start,.slice a m c])]::own) (OwnLe.flat (List.Perm.of_eq (by simp))) ?_
  refine AW.range (S:=InS) (fun _=>[]) (fun t=>t.B::t.RN::[(fi,.cells false [.int .i64 g.terms,.int .i64 g.nons,.int .i64 g.start,.slice a m c,.slice va vn vc,.slice s.ba s.k s.bc])]::s.BO::s.RB::[(i4,.cells false [.int .i64 0,.slice none 0 0,.bool false])]::[(i2,.cells false [.int .i64 g.terms,.int .i64 g.nons,.int .i64 g.start,.slice a m c])]::own)
   (fun i t G=>Vec tRaw G (some ⟨i36,0,none⟩) (v.length+1) (bif v.length+1==0 then 0 else 1) t.B t.xs∧RowsIn G (v.length+1) i t.xs t.RN) (v.length+1) ⟨_,_,[]⟩
   Z Z Z Z Z Z Z Z Z zo rfl rfl (fun _=>rfl) (fun _=>rfl) sM oR ⟨hv0,rfl,fun j hj=>absurd hj (Nat.not_lt_zero _)⟩ ?_ ?_
  ·intro i t F3 hF3 hi hP3
   obtain⟨ht,htr⟩:=hP3
   have hpat3:=hpat2.mono hF3
   have htl:=ht.len
   obtain⟨z0,hz0⟩:∃x,t.xs[i]?=some x:=⟨_,gE zo⟩
   refine zC7 ?_
   refine WT.know (v':=.int .i64 ((v.length+1:Nat):Int)) 46 Z (by rw[hpl]) ?_
   refine WT.makeS (l:=v.length+1) (by_:=40) hT Z Z Z Z Z Z Z Z Z Z Z Z ⟨by omega,by omega,by decide⟩ (fun i47 hi47=>?_)
   have hv2:=vec_made (R:=tW) (zs:=[.int .i64 0,.slice none 0 0,.bool false]) (x:=none) (fun F=>rfl) (by decide) (F:=F3) (i:=i47) (l:=v.length+1)
   skip
   refine WT.vidx hT ht Z Z Z Z Z Z Z Z Z zo (fun b1 hb1=>?_)
   refine WT.vst (y:=.slice (some ⟨i47,0,none⟩) (v.length+1) (bif v.length+1==0 then 0 else tW.size)) hT 1 ht hb1 hz0 Z Z Z Z Z ⟨rfl,rfl⟩ Z (fun _=>rfl) Z (fun B1 hB1=>?_)
   have next:RowsIn F3 (v.length+1) (i+1) (t.xs.set i (.slice (some ⟨i47,0,none⟩) (v.length+1) (bif v.length+1==0 then 0 else tW.size))) (t.RN++[(i47,.cells false (rowsL [.int .i64 0,.slice none 0 0,.bool false] (v.length+1)))]):=by
    refine⟨by simp[htr.len],fun j hj=>?_⟩
    by_cases e:j=i
    ·subst e
     exact⟨i47,_,_,List.getElem?_set_self zo,by rw[List.getElem?_append_right (by rw[htr.len];omega),htr.len,Nat.sub_self];rfl,hv2⟩
    ·obtain⟨id,cs,c',h1,h2,h3⟩:=htr.at_ j zo
     exact⟨id,cs,c',by rw[List.getElem?_set_ne (fun h=>e h.symm)];exact h1,by rw[List.getElem?_append_left (by rw[htr.len];omega)];exact h2,h3⟩
   refine zC7 ?_
   refine AW.draw (ps:=[(8,10)]) Z Z ?_
   refine zC7 ?_
   refine WT.split 53 Z (fun hd=>?_) (fun hd=>?_)
   ·have hd:i<v.length:=by simp at hd;omega
    refine zC7 ?_
    refine WT.idxL hT hpat3 Z Z Z Z Z Z Z Z Z (by simp;omega) (fun y hy b3 off3 ro3 cs3 lx3 hb3 hp3 hrel3=>?_)
    obtain rfl:lx3=_:=hrel3
    rw[List.getElem?_map] at hy
    obtain⟨tt,htt,rfl⟩:=Option.map_eq_some_iff.1 hy
    refine zC7 ?_
    refine WT.callV Tryd.func49 Z Z Z Z Z Z (gN_spec _ _) (fun x hx=>?_)
    subst hx
    refine zC7 ?_
    refine⟨zrC,?_⟩
    skip
    refine AW.cond Z (fun h=>(by cases h)) (fun _=>?_)
    refine zC7 ?_
    exact⟨⟨B1,_,_⟩,sM,own_fill1 [] _ _ _ _,hB1,next⟩
   ·refine zC7 ?_
    refine⟨zrC,?_⟩
    skip
    refine AW.cond Z (fun h=>(by cases h)) (fun _=>?_)
    refine zC7 ?_
    exact⟨⟨B1,_,_⟩,sM,own_fill1 [] _ _ _ _,hB1,next⟩
  ·intro t F3 hF3 hP3
   obtain⟨ht,htr⟩:=hP3
   have hP3:=hP.mono hF3
   refine AW.freezeAll 0 Z Z (fun F4 hF4 hB4=>?_)
   have harr:=ht.arr hF4 hB4
   have htr4:=htr.mono hF4
   have hP4:=hP3.mono hF4
   refine zC7 ?_
   refine WT.buildT hT Z Z Z Z Z Z Z Z Z Z Z Z Z Z (fun i95 hi95=>?_)
   refine WT.appendT (ys:=[.slice (some ⟨i36,0,none⟩) (v.length+1) (bif v.length+1==0 then 0 else 1)]) hT 4 hP4.outer Z (fun _=>rfl) Z Z Z Z Z Z Z Z Z Z Z (fun h0 s0=>news_own hT s0 0 Z Z Z Z) (Cells.single (R:=tRaw) (x:=.slice (some ⟨i36,0,none⟩) (v.length+1) (bif v.length+1==0 then 0 else 1)) ⟨rfl,rfl⟩) Z (by decide) zom (fun ba bc BO hBO=>?_)
   refine zC7 ?_
   refine⟨⟨s.k+1,ba,bc,BO,s.os++[_],s.RB++t.RN⟩,sM,OwnLe.skip _ (own_fill2 _ _ _ _ _),rfl,hBO,?_,fun n' hn'=>?_,hP4.pat,fun n i j w h=>by cases h⟩
   ·show (s.RB++t.RN).length=_
    rw[List.length_append,hP4.rlen,htr4.len,Nat.add_mul,Nat.one_mul]
   ·rcases Nat.lt_or_ge n' s.k with h1 | h1
    ·obtain⟨ra,rc,vs,h2,h3,h4⟩:=hP4.row n' h1
     refine⟨ra,rc,vs,by show (s.os++[_])[n']?=_;rw[List.getElem?_append_left zo];exact h2,h3,fun i hi=>?_⟩
     obtain⟨id,cs,c',h5,h6,h7⟩:=h4 i hi
     exact⟨id,cs,c',h5,by show (s.RB++t.RN)[_]?=_;rw[List.getElem?_append_left (gS h6).1];exact h6,h7⟩
    ·obtain rfl:n'=s.k:=by omega
     refine⟨_,_,t.xs,by show (s.os++[_])[s.k]?=_;rw[List.getElem?_append_right zo,hol,Nat.sub_self];rfl,harr,fun i hi=>?_⟩
     obtain⟨id,cs,c',h5,h6,h7⟩:=htr4.at_ i zo
     refine⟨id,cs,c',h5,?_,?_⟩
     ·show (s.RB++t.RN)[_]?=_
      rw[List.getElem?_append_right (by rw[hP4.rlen];omega),hP4.rlen]
      rw[show s.k*(v.length+1)+i-s.k*(v.length+1)=i by omega]
      exact h6
     ·have e:(List.range (v.length+1)).map (fun _:Nat=>(none:Option (List Nat)))=List.replicate (v.length+1) none:=by rw[List.map_const',List.length_range]
      show Vec tW F4 _ _ _ _ ((List.range (v.length+1)).map fun _=>none)
      rw[e];exact h7
 ·rintro s F2 hF2 ⟨hk,hP⟩
  have hol:g.nons=s.os.length:=hP.outer.len
  have hr2:=hr1.mono hF2
  rw[hk]
  refine zC7 ?_
  refine AW.block ?_
  refine AW.loopR (S:=FS) (fun f=>[(13,.bool f.again)]) (fun f=>[(fi,.cells false [.int .i64 g.terms,.int .i64 g.nons,.int .i64 g.start,.slice a m c,.slice va vn vc,.slice s.ba g.nons s.bc])]::s.BO::f.RB::[(i4,.cells false [.int .i64 0,.slice none 0 0,.bool false])]::[(i2,.cells false [.int .i64 g.terms,.int .i64 g.nons,.int .i64 g.start,.slice a m c])]::own)
   (fun f G=>TabF G v g.nons (⟨fi,a,m,c,va,vn,vc,s.ba,s.bc,s.BO,s.os,f.RB,f.T⟩:HT)∧TSound g v f.T∧(f.again=false→∀r∈g.rules,TClosed v f.T r (v.length+1)))
   (fun f=>lacks g.nons (v.length+1) f.T+(if f.again=true then 1 else 0)) ⟨s.RB,fun _ _ _=>none,true⟩ sM oR ⟨hP,fun n i j w h=>(by cases h),fun h=>(by cases h)⟩ ?_
  intro p F3 hF3 hP3
  obtain⟨hpt,hps,hpc⟩:=hP3
  have hr3:=hr2.mono hF3
  refine zC7 ?_
  refine AW.cond Z (fun hc=>?_) (fun hc=>?_)
  ·have hc:p.again=true:=hc
   refine zC7 ?_
   refine AW.block ?_
   refine zC7 ?_
   refine AW.range (S:=FS) (fun f=>[(13,.bool f.again)]) (fun f=>[(fi,.cells false [.int .i64 g.terms,.int .i64 g.nons,.int .i64 g.start,.slice a m c,.slice va vn vc,.slice s.ba g.nons s.bc])]::s.BO::f.RB::[(i4,.cells false [.int .i64 0,.slice none 0 0,.bool false])]::[(i2,.cells false [.int .i64 g.terms,.int .i64 g.nons,.int .i64 g.start,.slice a m c])]::own)
    (fun q f G=>PInv g v p.T f (∀r∈g.rules.take q,TClosed v p.T r (v.length+1)) (TabF G v g.nons (⟨fi,a,m,c,va,vn,vc,s.ba,s.bc,s.BO,s.os,f.RB,f.T⟩:HT))) m ⟨p.RB,p.T,false⟩
    Z Z Z Z Z Z Z Z Z zo rfl rfl (fun _=>rfl) (fun _=>rfl) sM oR ⟨hpt,hps,Nat.le_refl _,fun h=>(by cases h),fun _=>⟨rfl,fun r hr=>(by simp at hr)⟩⟩ ?_ ?_
   ·intro q f F4 hF4 hq hf
    have hr4:=hr3.mono hF4
    refine zC7 ?_
    refine WT.idxL hT hr4 Z Z Z Z Z Z Z Z Z zo (fun r hrq b3 off3 ro3 cs3 lx3 hb3 hp3 hrel3=>?_)
    obtain⟨ra,rn,rc,rfl,hra⟩:=hrel3
    have hrmem:=gM hrq
    have hrr:=hg.right r hrmem
    have hral:=hra.len
    have hleft:=hrr.1
    refine zC7 ?_
    refine WT.allocT hT Z Z Z Z Z Z (fun i15 hi15=>?_)
    refine zC7 ?_
    refine AW.know (v':=.int .i64 ((v.length+1:Nat):Int)) 110 Z (by rw[hpl]) ?_
    refine AW.perm (perm_to3 _ _ _ _ _) ?_
    refine AW.range (S:=FS) (fun f=>[(13,.bool f.again)]) (fun f=>[(fi,.cells false [.int .i64 g.terms,.int .i64 g.nons,.int .i64 g.start,.slice a m c,.slice va vn vc,.slice s.ba g.nons s.bc])]::s.BO::f.RB::[(i15,.cells false [.int .i64 r.left,.slice ra rn rc])]::[(i4,.cells false [.int .i64 0,.slice none 0 0,.bool false])]::[(i2,.cells false [.int .i64 g.terms,.int .i64 g.nons,.int .i64 g.start,.slice a m c])]::own)
     (fun i f G=>PInv g v p.T f ((∀r∈g.rules.take q,TClosed v p.T r (v.length+1))∧TClosed v p.T r i) (TabF G v g.nons (⟨fi,a,m,c,va,vn,vc,s.ba,s.bc,s.BO,s.os,f.RB,f.T⟩:HT))) (v.length+1) f
     Z Z Z Z Z Z Z Z Z zo rfl rfl (fun _=>rfl) (fun _=>rfl) sM oR (hf.imp id fun h=>⟨h,fun i hi=>absurd hi (Nat.not_lt_zero _)⟩) ?_ ?_
    ·intro i e F5 hF5 hi he
     have hsym:∀s∈r.right,s.term=false→s.n<g.nons:=fun s hs ht=>by
      have:=hrr.2.2 s hs
      unfold SymOk at this
      rwa [if_neg (by simp[ht])] at this
     refine zC7 ?_
     refine WT.callF (oin:=[[(fi,.cells false [.int .i64 g.terms,.int .i64 g.nons,.int .i64 g.start,.slice a m c,.slice va vn vc,.slice s.ba g.nons s.bc])],s.BO,e.RB]) Tryd.func84 Z Z Z Z Z Z (hrule_spec F5 g zo hv1 he.tab (r:=r) (hra.mono hF5) zo hsym i zo) (List.Perm.refl _) (fun F6 z oo hF6 hz=>?_)
     obtain⟨sa,rfl,rfl,hsv,hsr⟩:=hz
     have hsd:∀j w,sa.xs[j]?=some (some w)→Der g v ⟨false,r.left⟩ i j:=fun j w hj=>by
      have hjl:=(gS hj).1
      rw[hsr.len] at hjl
      exact .non hrmem (chain_der he.sound ((hsr.iff j zo).1 ⟨w,hj⟩))
     refine zC7 ?_
     refine AW.range (S:=FS) (fun f=>[(13,.bool f.again)]) (fun f=>[(fi,.cells false [.int .i64 g.terms,.int .i64 g.nons,.int .i64 g.start,.slice a m c,.slice va vn vc,.slice s.ba g.nons s.bc])]::s.BO::f.RB::sa.B::[(i15,.cells false [.int .i64 r.left,.slice ra rn rc])]::[(i4,.cells false [.int .i64 0,.slice none 0 0,.bool false])]::[(i2,.cells false [.int .i64 g.terms,.int .i64 g.nons,.int .i64 g.start,.slice a m c])]::own)
      (fun j f G=>PInv g v p.T f ((e.again=false∧f.T=e.T)∧∀j',j'<j→(∃w,sa.xs[j']?=some (some w))→∃w,f.T r.left i j'=some w) (TabF G v g.nons (⟨fi,a,m,c,va,vn,vc,s.ba,s.bc,s.BO,s.os,f.RB,f.T⟩:HT))) (v.length+1) e
      Z Z Z Z Z Z Z Z Z zo rfl rfl (fun _=>rfl) (fun _=>rfl) sM oR ⟨he.tab.mono hF6,he.sound,he.le,he.lt,fun h=>⟨(he.cl h).1,⟨h,rfl⟩,fun j hj=>absurd hj (Nat.not_lt_zero _)⟩⟩ ?_ ?_
     ·intro j f' F7 hF7 hj he7
      have hsv7:=hsv.mono hF7
      obtain⟨x0,hx0⟩:∃x,sa.xs[j]?=some x:=⟨_,gE (by rw[hsr.len];omega)⟩
      have keep:((∃w,x0=some w)→∃w,f'.T r.left i j=some w)→PInv g v p.T f' ((e.again=false∧f'.T=e.T)∧∀j',j'<j+1→(∃w,sa.xs[j']?=some (some w))→∃w,f'.T r.left i j'=some w) (TabF F7 v g.nons (⟨fi,a,m,c,va,vn,vc,s.ba,s.bc,s.BO,s.os,f'.RB,f'.T⟩:HT)):=fun hk=>
       he7.imp id fun ⟨h1,h2⟩=>⟨h1,fun j' hj' hw=>by
        by_cases e2:j'=j
        ·subst e2;exact hk (by obtain⟨w,hw⟩:=hw;rw[hx0] at hw;exact⟨w,Option.some.inj hw⟩)
        ·exact h2 j' zo hw⟩
      refine zC7 ?_
      refine WT.vidx hT hsv7 Z Z Z Z Z Z Z Z Z zo (fun b7 hb7=>?_)
      refine WT.wldS hT 3 hsv7 hb7 hx0 Z Z Z Z Z Z (fun z hz=>hz) Z Z Z (fun l hl=>?_)
      cases x0 with
      | none=>
       obtain rfl:l=[.int .i64 0,.slice none 0 0,.bool false]:=hl
       skip
       refine WT.allocT hT Z Z Z Z Z Z (fun i18 hi18=>?_)
       refine zC7 ?_
       obtain⟨oa2,oc2,vs,h1,h2,h3⟩:=he7.tab.row r.left hleft
       obtain⟨id,cs,c',h4,h5,h6⟩:=h3 i zo
       have h2l:=h2.len
       refine WT.vidx hT he7.tab.outer.vec Z Z Z Z Z Z Z Z Z zo (fun b1 hb1=>?_)
       refine WT.vld1 (v:=.slice oa2 (v.length+1) oc2) hT 2 he7.tab.outer.vec hb1 h1 Z Z Z Z Z Z Z Z Z (fun l h=>h.1) ?_
       refine zC7 ?_
       refine WT.idxL hT h2 Z Z Z Z Z Z Z Z Z zo (fun z hz b4 off4 ro4 cs4 lx4 hb4 hp4 hrel4=>?_)
       obtain rfl:z=.slice (some ⟨id,0,none⟩) (v.length+1) c':=by rw[h4] at hz;exact(Option.some.inj hz).symm
       obtain⟨rfl,_⟩:=hrel4
       refine zC7 ?_
       refine WT.vidx hT h6 Z Z Z Z Z Z Z Z Z zo (fun b5 hb5=>?_)
       refine WT.wldS hT 3 h6 hb5 (map_get zo) Z Z Z Z Z Z (fun z hz=>by rw[List.mem_singleton.1 hz];exact gM h5) Z Z Z (fun l hl=>?_)
       refine WT.callV Tryd.func85 Z Z Z Z Z Z (hless_spec F7 (x:=none) (y:=f'.T r.left i j) Z hl (fun _ e=>by cases e) (fun w hw=>by obtain⟨_,_,rfl⟩:=he7.tab.val _ _ _ _ hw;rw[part_len zo];omega)) (fun v2 hv2=>?_)
       subst hv2
       refine zC7 ?_
       refine AW.cond Z (fun h=>(by cases h)) (fun _=>?_)
       refine zC7 ?_
       exact⟨f',sM,zow,keep (fun ⟨w,hw⟩=>by cases hw)⟩
      | some x0=>
       obtain⟨hij,hx0v⟩:=hsr.val _ _ hx0
       have hx0l:x0.length=j-i:=by rw[hx0v,part_len zo]
       obtain⟨xa,xn,xc,rfl,hxa⟩:=hl
       skip
       refine WT.allocT hT Z Z Z Z Z Z (fun i18 hi18=>?_)
       refine zC7 ?_
       obtain⟨oa2,oc2,vs,h1,h2,h3⟩:=he7.tab.row r.left hleft
       obtain⟨id,cs,c',h4,h5,h6⟩:=h3 i zo
       have h2l:=h2.len
       refine WT.vidx hT he7.tab.outer.vec Z Z Z Z Z Z Z Z Z zo (fun b1 hb1=>?_)
       refine WT.vld1 (v:=.slice oa2 (v.length+1) oc2) hT 2 he7.tab.outer.vec hb1 h1 Z Z Z Z Z Z Z Z Z (fun l h=>h.1) ?_
       refine zC7 ?_
       refine WT.idxL hT h2 Z Z Z Z Z Z Z Z Z zo (fun z hz b4 off4 ro4 cs4 lx4 hb4 hp4 hrel4=>?_)
       obtain rfl:z=.slice (some ⟨id,0,none⟩) (v.length+1) c':=by rw[h4] at hz;exact(Option.some.inj hz).symm
       obtain⟨rfl,_⟩:=hrel4
       refine zC7 ?_
       refine WT.vidx hT h6 Z Z Z Z Z Z Z Z Z zo (fun b5 hb5=>?_)
       refine WT.wldS hT 3 h6 hb5 (map_get zo) Z Z Z Z Z Z (fun z hz=>by rw[List.mem_singleton.1 hz];exact gM h5) Z Z Z (fun l hl=>?_)
       refine WT.callV Tryd.func85 Z Z Z Z Z Z (hless_spec F7 (x:=some x0) (y:=f'.T r.left i j) ⟨xa,xn,xc,rfl,hxa⟩ hl (fun _ e=>by cases e;omega) (fun w hw=>by obtain⟨_,_,rfl⟩:=he7.tab.val _ _ _ _ hw;rw[part_len zo];omega)) (fun v2 hv2=>?_)
       subst hv2
       cases hT0:f'.T r.left i j with
       | some z=>
        obtain⟨_,_,hz⟩:=he7.tab.val _ _ _ _ hT0
        rw[hz,hx0v,lessO_self]
        refine zC7 ?_
        refine AW.cond Z (fun h=>(by cases h)) (fun _=>?_)
        refine zC7 ?_
        exact⟨f',sM,zow,keep (fun _=>⟨z,hT0⟩)⟩
       | none=>
        refine zC7 ?_
        refine AW.cond Z (fun _=>?_) (fun h=>(by cases h))
        refine zC7 ?_
        refine WT.vidx hT he7.tab.outer.vec Z Z Z Z Z Z Z Z Z zo (fun b8 hb8=>?_)
        refine WT.vld1 (v:=.slice oa2 (v.length+1) oc2) hT 2 he7.tab.outer.vec hb8 h1 Z Z Z Z Z Z Z Z Z (fun l h=>h.1) ?_
        refine zC7 ?_
        refine WT.idxL hT h2 Z Z Z Z Z Z Z Z Z zo (fun z hz b9 off9 ro9 cs9 lx9 hb9 hp9 hrel9=>?_)
        obtain rfl:z=.slice (some ⟨id,0,none⟩) (v.length+1) c':=by rw[h4] at hz;exact(Option.some.inj hz).symm
        obtain⟨rfl,_⟩:=hrel9
        refine zC7 ?_
        refine WT.vidx hT h6 Z Z Z Z Z Z Z Z Z zo (fun b10 hb10=>?_)
        obtain rfl:b10=id:=by injection hb10 with hb10;injection hb10 with hb10;exact hb10.symm
        refine WT.vstB (y:=some x0) hT 3 (r.left*(v.length+1)+i) h6 (map_get zo) h5 Z Z Z Z Z ⟨xa,xn,xc,rfl,hxa⟩ Z (fun _=>rfl) Z (fun cs' hcs'=>?_)
        rw[hx0v] at hcs'
        have hlk:=lacks_put (w:=part v i j) hleft (show i<v.length+1 by omega) (show j<v.length+1 by omega) hT0
        refine zC7 ?_
        refine⟨⟨_,updT f'.T r.left i j (part v i j),true⟩,sM,zow,he7.tab.put hleft zo hij zo h5 hcs',fun n' i' j' w hw=>?_,by have:=he7.le;dsimp only;omega,fun _=>by have:=he7.le;dsimp only;omega,fun h=>(by cases h)⟩
        by_cases e2:n'=r.left∧i'=i∧j'=j
        ·obtain⟨rfl,rfl,rfl⟩:=e2
         exact hsd _ _ hx0
        ·have e3:updT f'.T r.left i j (part v i j) n' i' j'=f'.T n' i' j':=if_neg e2
         exact he7.sound n' i' j' w (e3▸hw)
     ·intro f' F7 hF7 he7
      skip
      refine⟨f',sM,OwnLe.cons _ (OwnLe.cons _ (OwnLe.cons _ (OwnLe.skip _ oR))),he7.tab,he7.sound,he7.le,he7.lt,fun h=>?_⟩
      obtain⟨h1,⟨h2,h3⟩,h4⟩:=he7.cl h
      obtain⟨h5,h6,h7⟩:=he.cl h2
      refine⟨h1,h6,fun i' hi' j' hch=>?_⟩
      by_cases e2:i'=i
      ·subst e2
       have hjl:=(chnP_le (N:=v.length) (fun s i j ⟨w,hw⟩=>by have:=symW_val he.tab hw;omega) (h5▸hch)).2 zo
       rw[←h1]
       exact h4 j' zo ((hsr.iff j' hjl).2 (h5▸hch))
      ·exact h7 i' zo j' hch
    ·intro e F5 hF5 he
     skip
     refine⟨e,sM,OwnLe.cons _ (OwnLe.cons _ (OwnLe.cons _ (OwnLe.skip _ oR))),he.imp id fun ⟨h1,h2⟩ r' hr'=>?_⟩
     rw[List.take_add_one,hrq] at hr'
     rcases List.mem_append.1 hr' with hr' | hr'
     ·exact h1 r' hr'
     ·simp at hr';subst hr';exact h2
   ·intro f F4 hF4 hf
    rw[List.take_of_length_le zo] at hf
    skip
    refine⟨f,?_,sM,OwnLe.refl _,hf.tab,hf.sound,fun h=>?_⟩
    ·have h1:=hf.le
     rw[hc,if_pos rfl]
     cases hb:f.again with
     | false=>rw[if_neg (by simp)];omega
     | true=>have:=hf.lt hb;rw[if_pos rfl];omega
    ·obtain⟨h1,h2⟩:=hf.cl h
     rw[h1];exact h2
  ·have hc:p.again=false:=hc
   have hcl:=hpc hc
   skip
   refine AW.exit ?_
   have hst:=hg.range.start
   obtain⟨oa2,oc2,vs,h1,h2,h3⟩:=hpt.row g.start hst
   obtain⟨id,cs,c',h4,h5,h6⟩:=h3 0 (Nat.zero_le _)
   have h2l:=h2.len
   have hfin:derives g v g.start 0 v.length=(p.T g.start 0 v.length).isSome:=by
    rw[Bool.eq_iff_iff,derives_iff]
    constructor
    ·intro hd
     obtain⟨⟨w,hw⟩,_⟩:=tab_whole hcl hd (Nat.zero_le _)
     rw[symW,if_neg (by simp)] at hw
     rw[hw];rfl
    ·intro hd
     obtain⟨w,hw⟩:=Option.isSome_iff_exists.1 hd
     exact hps _ _ _ _ hw
   refine zC7 ?_
   refine WT.vidx hT hpt.outer.vec Z Z Z Z Z Z Z Z Z zo (fun b1 hb1=>?_)
   refine WT.vld1 (v:=.slice oa2 (v.length+1) oc2) hT 1 hpt.outer.vec hb1 h1 Z Z Z Z Z Z Z Z Z (fun l h=>h.1) ?_
   skip
   refine WT.idxL (j:=0) hT h2 Z Z Z Z Z Z Z Z Z zo (fun z hz b4 off4 ro4 cs4 lx4 hb4 hp4 hrel4=>?_)
   obtain rfl:z=.slice (some ⟨id,0,none⟩) (v.length+1) c':=by rw[h4] at hz;exact(Option.some.inj hz).symm
   obtain⟨rfl,_⟩:=hrel4
   refine zC7 ?_
   refine WT.know (v':=.int .i64 ((v.length:Nat):Int)) 168 Z (by rw[hpl]) ?_
   refine WT.vidx hT h6 Z Z Z Z Z Z Z Z Z zo (fun b5 hb5=>?_)
   refine WT.wldS hT 2 h6 hb5 (map_get zo) Z Z Z Z Z Z (fun z hz=>by rw[List.mem_singleton.1 hz];exact gM h5) Z Z Z (fun l hl=>?_)
   have hl:tW.rel F3 l (p.T g.start 0 v.length):=hl
   rw[hfin]
   cases hT0:p.T g.start 0 v.length with
   | none=>
    rw[hT0] at hl
    obtain rfl:l=[.int .i64 0,.slice none 0 0,.bool false]:=hl
    refine zC7 ?_
    exact AW.ret ⟨_,[],⟨_,_,⟨_,rfl,fun G h0 s0=>loadA_cells (s0.has (p:=3) rfl me) (readT_ok hT rfl)⟩,rfl,rfl⟩,zsb,rfl,_,_,rfl⟩
   | some w=>
    rw[hT0] at hl
    obtain⟨wa,wn,wc,rfl,hw⟩:=hl
    refine zC7 ?_
    exact AW.ret ⟨_,[],⟨_,_,⟨_,rfl,fun G h0 s0=>loadA_cells (s0.has (p:=3) rfl me) (readT_ok hT rfl)⟩,rfl,rfl⟩,zsb,rfl,_,_,rfl⟩
theorem boolIdx_spec(F:Frz){a:Option Addr}{m c:Nat}{xs:List Bool}(hx:Arr tBool F a m c xs)(hm:m≤1000000)(y:Bool) :
  Abs.Spec CC 54 [.slice a m c,.bool y] F [] fun _ v o=>o=[]∧v=.int .i64 (idxOf (fun x=>decide (y=x)) xs):=by
 refine Abs.Spec.fn (n:=19) Tryd.func54 rfl rfl fun own=>?_
 have hxlen:=hx.len
 refine zB4 ?_
 refine AW.range (S:=Unit) (fun _=>[]) (fun _=>_) (fun j _ G=>∀z∈xs.take j,decide (y=z)=false) m () Z Z Z Z Z Z Z Z Z zo Z Z (fun _=>rfl) (fun _=>rfl) sM oR (by simp) ?_ ?_
 ·intro j _ F1 hF1 hj hP
  have hx1:=hx.mono hF1
  refine zB4 ?_
  refine WT.idxL hT hx1 Z Z Z Z Z Z Z Z Z zo (fun x hxj b1 off ro cs lx hb hp1 hrel=>?_)
  obtain rfl:lx=_:=hrel
  refine zB4 ?_
  refine AW.cond Z (fun hc=>?_) (fun hc=>?_)
  ·refine zB4 ?_
   refine AW.ret ⟨_,[],⟨_,_,rfl,rfl,rfl⟩,zsb,rfl,?_⟩
   rw[idxOf_at hxj (by simp at hc;simp;exact hc) hP];rfl
  ·refine zB4 ?_
   exact⟨(),sM,zow,take_all hxj hP (by simp at hc;simp;exact hc)⟩
 ·intro _ F1 hF1 hP
  rw[List.take_of_length_le zo] at hP
  refine zB4 ?_
  refine AW.ret ⟨_,[],⟨_,_,rfl,rfl,rfl⟩,zsb,rfl,?_⟩
  rw[idxOf_none hP];rfl
theorem boolContains_spec(F:Frz){a:Option Addr}{m c:Nat}{xs:List Bool}(hx:Arr tBool F a m c xs)(hm:m≤1000000)(y:Bool) :
  Abs.Spec CC 18 [.slice a m c,.bool y] F [] fun _ v o=>o=[]∧v=.bool (decide (y∈xs)):=by
 refine Abs.Spec.fn (n:=9) Tryd.func18 rfl rfl fun own=>?_
 refine zB4 ?_
 refine WT.callV Tryd.func54 Z Z Z Z Z Z (boolIdx_spec _ hx hm y) (fun v hv=>?_)
 subst hv
 refine zB4 ?_
 refine AW.ret ⟨_,[],⟨_,_,rfl,rfl,rfl⟩,zsb,rfl,?_⟩
 have:decide (idxOf (fun x=>decide (y=x)) xs≥0)=decide (y∈xs):=by
  rw[idxOf_nonneg,Bool.eq_iff_iff];simp
 rw[←this];rfl
theorem boolEqual_spec(F:Frz){a b:Option Addr}{m n c d:Nat}{xs ys:List Bool}(hx:Arr tBool F a m c xs)(hy:Arr tBool F b n d ys)(hm:m≤1000000) :
  Abs.Spec CC 14 [.slice a m c,.slice b n d] F [] fun _ v o=>o=[]∧v=.bool (decide (xs=ys)):=by
 refine Abs.Spec.fn (n:=26) Tryd.func14 rfl rfl fun own=>?_
 have hxlen:=hx.len
 have hylen:=hy.len
 refine zB4 ?_
 refine AW.cond Z (fun hc=>?_) (fun hc=>?_)
 ·refine zB4 ?_
  refine AW.ret ⟨_,[],⟨_,_,rfl,rfl,rfl⟩,zsb,rfl,?_⟩
  have:xs≠ys:=by rintro rfl;simp at hc;omega
  simp[this,tupleA]
 ·have hmn:m=n:=by simp at hc;omega
  refine zB4 ?_
  refine AW.range (S:=Unit) (fun _=>[]) (fun _=>_) (fun j _ G=>xs.take j=ys.take j) m () Z Z Z Z Z Z Z Z Z zo Z Z (fun _=>rfl) (fun _=>rfl) sM oR (by simp) ?_ ?_
  ·intro j _ F1 hF1 hj hP
   have hx1:=hx.mono hF1
   have hy1:=hy.mono hF1
   refine zB4 ?_
   refine WT.idxL hT hx1 Z Z Z Z Z Z Z Z Z zo (fun x hxj b1 off ro cs lx hb hp1 hrel=>?_)
   obtain rfl:lx=_:=hrel
   refine zB4 ?_
   refine WT.idxL hT hy1 Z Z Z Z Z Z Z Z Z zo (fun y hyj b2 off2 ro2 cs2 ly hb2 hp2 hrel2=>?_)
   obtain rfl:ly=_:=hrel2
   refine zB4 ?_
   refine AW.cond Z (fun hc=>?_) (fun hc=>?_)
   ·refine zB4 ?_
    refine AW.ret ⟨_,[],⟨_,_,rfl,rfl,rfl⟩,zsb,rfl,?_⟩
    have:xs≠ys:=by
     rintro rfl
     rw[hxj] at hyj
     cases hyj
     simp at hc
    simp[this,tupleA]
   ·have hc:x=y:=by simpa using hc
    refine zB4 ?_
    refine⟨(),sM,zow,?_⟩
    show xs.take (j+1)=ys.take (j+1)
    rw[List.take_add_one,List.take_add_one,hP,hxj,hyj,hc]
  ·intro _ F1 hF1 hP
   rw[List.take_of_length_le zo,List.take_of_length_le zo] at hP
   refine zB4 ?_
   refine AW.ret ⟨_,[],⟨_,_,rfl,rfl,rfl⟩,zsb,rfl,?_⟩
   simp[hP,tupleA]
theorem ders_append{g:Gram}{w:List Nat}{l2:List Sym}:∀{l:List Sym} {i m j:Nat},Ders g w l i m→Ders g w l2 m j→Ders g w (l++l2) i j
 | [],i,m,j,h1,h2=>by rw[ders_nil.1 h1];exact h2
 | a::l,i,m,j,h1,h2=>by
  obtain⟨p,h3,h4⟩:=ders_cons.1 h1
  exact .cons h3 (ders_append h4 h2)
def DW(g:Gram)(y:List Nat)(l:List Sym):Prop:=Ders g y l 0 y.length
theorem DW.app{g:Gram}{y z:List Nat}{l m:List Sym}(h1:DW g y l)(h2:DW g z m):DW g (y++z) (l++m):=by
 have h3:=ders_wrap (u:=[]) (v:=z) h1
 have h4:=ders_wrap (u:=y) (v:=[]) h2
 simp only[List.nil_append,List.append_nil,List.length_nil,Nat.zero_add,Nat.add_zero] at h3 h4
 unfold DW
 rw[List.length_append]
 exact ders_append h3 h4
theorem DW.one{g:Gram}{y:List Nat}{s:Sym}(h:Der g y s 0 y.length):DW g y [s]:=.cons h .nil
def Via(g:Gram)(v:List Nat)(k:Nat)(x:Item):Prop:=
 ∃r,g.rules[x.rule]?=some r∧x.dot≤r.right.length∧x.frm≤k∧Ders g v (r.right.take x.dot) x.frm k∧∃z,∀y,DW g y (r.right.drop x.dot)→Der g (v.take k++(y++z)) ⟨false,g.start⟩ 0 (v.take k++(y++z)).length
theorem items_list(g:Gram)(h4:∀r∈g.rules,r.right.length≤4)(P:Nat→Item→Prop)(hP:∀k x,P k x→ItemOk g.rules k x):∃L:Nat→List Item,∀k x,x∈L k↔P k x:=by
 classical
 refine⟨fun k=>((List.range g.rules.length).flatMap fun i=>(List.range 5).flatMap fun d=>(List.range (k+1)).map fun f=>(⟨i,d,f⟩:Item)).filter fun x=>decide (P k x),fun k x=>?_⟩
 simp only[List.mem_filter,List.mem_flatMap,List.mem_range,List.mem_map,decide_eq_true_eq]
 constructor
 ·exact fun h=>h.2
 ·intro h
  obtain⟨r,h1,h2,h3⟩:=hP k x h
  have h5:=h4 r (gM h1)
  exact⟨⟨x.rule,(gS h1).1,x.dot,by omega,x.frm,by omega,rfl⟩,h⟩
theorem via_sets{g:Gram}{v:List Nat}(hW:∀r∈g.rules,∀y∈r.right,y.term=true∨HasWord g y.n){L:Nat→List Item}(hL:∀k x,x∈L k↔Via g v k x):Sets g v L where
 ok:=fun k _ x hx=>by
  obtain⟨r,h1,h2,h3,_⟩:=(hL k x).1 hx
  exact⟨r,h1,h2,h3⟩
 start:=fun i r hr hl=>(hL 0 _).2 ⟨r,hr,Nat.zero_le _,Nat.le_refl _,.nil,[],fun y hy=>by
  rw[List.take_zero,List.nil_append,List.append_nil,←hl]
  exact .non (gM hr) hy⟩
 closed:=fun k hk x hx=>by
  obtain⟨rx,h1,h2,h3,h4,z,hz⟩:=(hL k x).1 hx
  refine⟨fun n i r hn hr hl=>?_,fun r hr hd y hy hn=>?_⟩
  ·obtain⟨r',h5,h6⟩:=nextOf_some hn
   rw[h1] at h5
   obtain rfl:=Option.some.inj h5
   have hdrop:rx.right.drop x.dot=⟨false,n⟩::rx.right.drop (x.dot+1):=List.drop_eq_getElem?_toList_append.trans (by rw[h6];rfl)
   obtain⟨u,hu⟩:=hasWord_list (g:=g) (rx.right.drop (x.dot+1)) (fun y hy=>hW rx (gM h1) y (List.mem_of_mem_drop hy))
   refine(hL k _).2 ⟨r,hr,Nat.zero_le _,Nat.le_refl _,.nil,u++z,fun y hy=>?_⟩
   have:=hz (y++u) (by
    rw[hdrop]
    exact DW.app (l:=[⟨false,n⟩]) (.one (by rw[←hl];exact .non (gM hr) hy)) hu)
   rw[List.append_assoc] at this
   exact this
  ·obtain⟨ry,g1,g2,g3,g4,zy,gz⟩:=(hL _ y).1 hy
   obtain⟨r',h5,h6⟩:=nextOf_some hn
   rw[g1] at h5
   obtain rfl:=Option.some.inj h5
   rw[h1] at hr
   obtain rfl:=Option.some.inj hr
   rw[hd,List.take_length] at h4
   have hder:Der g v ⟨false,rx.left⟩ x.frm k:=.non (gM h1) h4
   have hdrop:ry.right.drop y.dot=⟨false,rx.left⟩::ry.right.drop (y.dot+1):=List.drop_eq_getElem?_toList_append.trans (by rw[h6];rfl)
   have hlt:=(gS h6).1
   refine(hL k _).2 ⟨ry,g1,by show y.dot+1≤_;omega,by show y.frm≤k;omega,?_,zy,fun u hu=>?_⟩
   ·show Ders g v (ry.right.take (y.dot+1)) y.frm k
    rw[List.take_add_one,h6]
    exact ders_append g4 (.cons hder .nil)
   ·have hp:=part_der (a:=x.frm) (b:=k) hk hder (Nat.le_refl _) (Nat.le_refl _)
    have hlen:((v.take k).drop x.frm).length=k-x.frm:=by simp;omega
    have:=gz ((v.take k).drop x.frm++u) (by
     rw[hdrop]
     refine DW.app (l:=[⟨false,rx.left⟩]) (.one ?_) hu
     rw[hlen,Nat.sub_self] at *
     exact hp)
    rw[show v.take x.frm++((v.take k).drop x.frm++u++zy)=v.take k++(u++zy) by
     rw[List.append_assoc,←List.append_assoc]
     congr 1
     have:v.take x.frm=(v.take k).take x.frm:=by rw[List.take_take,Nat.min_eq_left h3]
     rw[this,List.take_append_drop]] at this
    exact this
 scan:=fun k t ht x hx hn=>by
  obtain⟨rx,h1,h2,h3,h4,z,hz⟩:=(hL k x).1 hx
  obtain⟨r',h5,h6⟩:=nextOf_some hn
  rw[h1] at h5
  obtain rfl:=Option.some.inj h5
  have hlt:=(gS h6).1
  have hdrop:rx.right.drop x.dot=⟨true,t⟩::rx.right.drop (x.dot+1):=List.drop_eq_getElem?_toList_append.trans (by rw[h6];rfl)
  refine(hL _ _).2 ⟨rx,h1,by show x.dot+1≤_;omega,by show x.frm≤k+1;omega,?_,z,fun y hy=>?_⟩
  ·show Ders g v (rx.right.take (x.dot+1)) x.frm (k+1)
   rw[List.take_add_one,h6]
   exact ders_append h4 (.cons (.term ht) .nil)
  ·have:=hz ([t]++y) (by
    rw[hdrop]
    exact DW.app (l:=[⟨true,t⟩]) (.one (.term rfl)) hy)
   rw[show v.take (k+1)++(y++z)=v.take k++([t]++y++z) by rw[List.take_add_one,ht];simp]
   exact this
theorem qp_word{g:Gram}{v:List Nat}(h4:∀r∈g.rules,r.right.length≤4)(hW:∀r∈g.rules,∀y∈r.right,y.term=true∨HasWord g y.n){x:Item}(hx:QP g v v.length x) :
  ∃u,Der g (v++u) ⟨false,g.start⟩ 0 (v++u).length:=by
 obtain⟨L,hL⟩:=items_list g h4 (Via g v) (fun k x h=>by obtain⟨r,h1,h2,h3,_⟩:=h;exact⟨r,h1,h2,h3⟩)
 have hS:=via_sets hW hL
 have h1:=hx.2 (Nat.le_refl _) L (by rw[List.take_length];exact hS)
 obtain⟨r,h2,h3,_,_,z,hz⟩:=(hL _ _).1 h1
 obtain⟨u,hu⟩:=hasWord_list (g:=g) (r.right.drop x.dot) (fun y hy=>hW r (gM h2) y (List.mem_of_mem_drop hy))
 have:=hz u hu
 rw[List.take_length] at this
 exact⟨u++z,this⟩
theorem trim_words{g:Gram}{E:List Bool}(hE:EndsIn g E):∀r∈(trimmed E g).rules,∀y∈r.right,y.term=true∨HasWord (trimmed E g) y.n:=by
 intro r hr y hy
 obtain⟨h1,h2⟩:=List.mem_filter.1 hr
 rcases useful_iff.1 h2 y hy with h3 | h3
 ·exact .inl h3
 ·obtain⟨w,hw⟩:=hE.iff.1 h3
  exact .inr ⟨w,(der_trimmed hE.closed hw).1⟩
theorem der_more_trim{g:Gram}{E:List Bool}{w:List Nat}:∀{s:Sym} {i j:Nat},Der (trimmed E g) w s i j→Der g w s i j:=by
 intro s i j h
 refine Der.rec (motive_1:=fun s i j _=>Der g w s i j) (motive_2:=fun l i j _=>Ders g w l i j) ?_ ?_ ?_ ?_ h
 ·intro t i h;exact .term h
 ·intro r i j hr _ ih;exact .non (List.mem_filter.1 hr).1 ih
 ·intro i;exact .nil
 ·intro s l i m j _ _ ih1 ih2;exact .cons ih1 ih2
theorem qp_goes{g:Gram}{E:List Bool}(hE:EndsIn g E)(h4:∀r∈(trimmed E g).rules,r.right.length≤4){v:List Nat}{L:Nat→List Item}(hL:Sets (trimmed E g) v L){x:Item}(hx:QP (trimmed E g) v v.length x) :
  derives g v g.start 0 v.length=true∨∃t y,y∈L v.length∧nextOf (trimmed E g).rules y=some ⟨true,t⟩:=by
 obtain⟨u,hu⟩:=qp_word h4 (trim_words hE) hx
 cases u with
 | nil=>
  left
  rw[List.append_nil] at hu
  rw[derives_iff]
  exact der_more_trim hu
 | cons t u=>
  right
  obtain⟨y,h1,h2⟩:=earley_viable hL (w:=v++t::u) (t:=t) (by simp) (by simp) hu
  exact⟨t,y,h1,h2⟩
theorem hCheck_spec(F:Frz)(g:Gram)(hg:Valid g){a:Option Addr}{m c:Nat}(hr:Arr tRule F a m c g.rules){va:Option Addr}{vn vc:Nat}{v:List Nat}(hv:Arr tSym F va vn vc (v.map fun t=>⟨true,t⟩))(hv1:v.length≤12)(hv2:∀t∈v,t<g.terms) :
  Abs.Spec CC 45 [.agg ⟨gramCells g a m c⟩,.slice va vn vc] F [] fun _ x o=>o=[]∧x=.int .i64 0:=by
 have hpl:=hv.len
 rw[List.length_map] at hpl
 unfold gramCells
 refine Abs.Spec.fn (n:=32) Tryd.func45 rfl rfl fun own=>?_
 refine AW.seq (AW.reg ?_)
 refine WT.boxT Z Z Z Z Z Z (fun i2 hi2=>?_)
 refine zB4 ?_
 refine WT.callV Tryd.func20 Z Z Z Z Z Z (check_spec _ g hg.range hr) (fun x hx=>?_)
 rw[hg.no_err] at hx
 subst hx
 refine zB4 ?_
 refine AW.cond Z (fun h=>(by cases h)) (fun _=>?_)
 refine zB4 ?_
 refine AW.cond Z (fun h=>(by simp at h;omega)) (fun _=>?_)
 refine zB4 ?_
 refine AW.range (S:=Unit) (fun _=>[]) (fun _=>_) (fun j _ G=>True) vn () Z Z Z Z Z Z Z Z Z zo Z Z (fun _=>rfl) (fun _=>rfl) sM oR trivial ?_ ?_
 ·intro j _ F1 hF1 hj _
  have hv3:=hv.mono hF1
  refine zB4 ?_
  refine WT.idxL hT hv3 Z Z Z Z Z Z Z Z Z (by simp;omega) (fun y hy b3 off3 ro3 cs3 lx3 hb3 hp3 hrel3=>?_)
  obtain rfl:lx3=_:=hrel3
  rw[List.getElem?_map] at hy
  obtain⟨tt,htt,rfl⟩:=Option.map_eq_some_iff.1 hy
  have hlt:=hv2 tt (gM htt)
  refine zB4 ?_
  refine WT.allocT hT Z Z Z Z Z Z (fun i7 hi7=>?_)
  refine zB4 ?_
  refine AW.draw (ps:=[(5,6)]) Z Z ?_
  refine zB4 ?_
  refine WT.callV Tryd.func57 Z Z Z Z Z Z (has2_spec _ g ⟨true,tt⟩) (fun x hx=>?_)
  rw[show hasSym g ⟨true,tt⟩=true by simp[hasSym];omega] at hx
  subst hx
  refine zB4 ?_
  refine⟨zrC,?_⟩
  skip
  refine AW.cond Z (fun h=>(by cases h)) (fun _=>?_)
  refine zB4 ?_
  exact⟨(),sM,zow,trivial⟩
 ·intro _ F1 hF1 _
  refine zB4 ?_
  exact AW.ret ⟨_,[],⟨_,_,rfl,rfl,rfl⟩,zsb,rfl,rfl⟩
theorem hNext11_spec(F:Frz){ie:Nat}{ro:Bool}{ea:Option Addr}{en ec:Nat}{E:List Bool}(hi:F ie=some (.cells ro [.slice ea en ec]))(hE:Arr tBool F ea en ec E)(y:Sym)(hy:y.term=true∨y.n<E.length) :
  Abs.Spec CC 47 [.agg ⟨[.bool y.term,.int .i64 y.n]⟩,.pointer (some ⟨ie,0,none⟩)] F [] fun _ v o=>o=[]∧v=.bool (!y.term&&!(E.getD y.n false)):=by
 have hEl:=hE.len
 refine Abs.Spec.fn (n:=15) Tryd.func47 rfl rfl fun own=>?_
 refine AW.seq (AW.reg ?_)
 refine WT.boxT Z Z Z Z Z Z (fun i2 hi2=>?_)
 refine zB4 ?_
 refine WT.split 7 Z (fun hty=>?_) (fun hty=>?_)
 ·have hty:y.term=false:=by simpa using hty
  have hyn:y.n<E.length:=by rcases hy with h | h;rw[hty] at h;cases h;exact h
  refine zB4 ?_
  refine WT.idxL hT hE Z Z Z Z Z Z Z Z Z hyn (fun z hz b3 off3 ro3 cs3 lx3 hb3 hp3 hrel3=>?_)
  obtain rfl:lx3=_:=hrel3
  refine zB4 ?_
  refine AW.ret ⟨_,[],⟨_,_,rfl,rfl,rfl⟩,zsb,rfl,?_⟩
  rw[hty,List.getD_eq_getElem?_getD,hz];rfl
 ·have hty:y.term=true:=by simpa using hty
  refine zB4 ?_
  refine AW.ret ⟨_,[],⟨_,_,rfl,rfl,rfl⟩,zsb,rfl,?_⟩
  rw[hty];rfl
theorem hNext1_spec(F:Frz){ie:Nat}{ro:Bool}{ea:Option Addr}{en ec:Nat}{E:List Bool}(hi:F ie=some (.cells ro [.slice ea en ec]))(hE:Arr tBool F ea en ec E)(r:Rule)(hr:∀y∈r.right,y.term=true∨y.n<E.length){b:Option Addr}{n d:Nat}(hb:Arr tSym F b n d r.right)(hn:n≤1000000) :
  Abs.Spec CC 46 [.agg ⟨[.int .i64 r.left,.slice b n d]⟩,.pointer (some ⟨ie,0,none⟩)] F [] fun _ v o=>o=[]∧v=.bool (r.right.any fun y=>!y.term&&!(E.getD y.n false)):=by
 refine Abs.Spec.fn (n:=8) Tryd.func46 rfl rfl fun own=>?_
 refine AW.seq (AW.reg ?_)
 refine WT.boxT Z Z Z Z Z Z (fun i2 hi2=>?_)
 refine zB4 ?_
 refine WT.callV Tryd.func41 Z Z Z Z Z Z (symAny_spec _ hb hn (fun y=>!y.term&&!(E.getD y.n false)) (first:=[]) (capt:=[.pointer (some ⟨ie,0,none⟩)]) Tryd.func47 Z (fun y hy=>hNext11_spec _ hi hE y (hr y hy))) (fun v hv=>?_)
 subst hv
 refine zB4 ?_
 exact AW.ret ⟨_,[],⟨_,_,rfl,rfl,rfl⟩,zsb,rfl,rfl⟩
theorem HOk.weaken{g:Gram}{Q Q':Nat→Item→Prop}{q:ChP}{F:Frz}{s:CSt}(h:HOk g Q q F s)(hQ:∀k x,k≤s.k→Q k x→Q' k x):HOk g Q' q F s:=
 ⟨h.rules,h.list,h.usl,h.oldl,h.olds,h.last,h.nodup,fun j l hj x hx=>hQ j x (by have:=(gS hj).1;have:=h.oldl;omega) (h.qold j l hj x hx),fun x hx=>hQ _ x (Nat.le_refl _) (h.qlast x hx),h.small,h.olen,h.ndold⟩
structure HNext(g:Gram)(v:List Nat)(xs:List Bool):Prop where
 len:xs.length=g.terms+1
 set:∃E L,EndsIn g E∧Sets (trimmed E g) v L∧(∀k,k≤v.length→∀x∈L k,QP (trimmed E g) v k x)∧∀t,t<g.terms→(xs[t]?=some true↔∃x∈L v.length,nextOf (trimmed E g).rules x=some ⟨true,t⟩)
 done:xs[g.terms]?=some (derives g v g.start 0 v.length)
theorem hNext_spec(F:Frz)(g:Gram)(hg:Valid g){a:Option Addr}{m c:Nat}(hr:Arr tRule F a m c g.rules){va:Option Addr}{vn vc:Nat}{v:List Nat}(hv:Arr tSym F va vn vc (v.map fun t=>⟨true,t⟩))(hv1:v.length<12)(hv2:∀t∈v,t<g.terms) :
  Abs.Spec CC 16 [.agg ⟨gramCells g a m c⟩,.slice va vn vc] F [] fun F' x o=>∃B',o=[B']∧∃xs,HNext g v xs∧
   ((true∉xs∧x=.tuple ⟨[.slice none 0 0,.int .i64 10]⟩)∨(true∈xs∧∃a' c',x=.tuple ⟨[.slice a' (g.terms+1) c',.int .i64 0]⟩∧Vec tBool F' a' (g.terms+1) c' B' xs)):=by
 have hpl:=hv.len
 rw[List.length_map] at hpl
 have hrl:=hr.len
 have hgr:=hg.range.rules
 have hgt:=hg.range.terms
 have hr4:∀r∈g.rules,r.right.length≤1000000:=fun r h=>by have:=(hg.right r h).2.1;omega
 have hck:=hCheck_spec F g hg hr hv zo hv2
 unfold gramCells at hck ⊢
 refine Abs.Spec.fn (n:=109) Tryd.func16 rfl rfl fun own=>?_
 refine AW.seq (AW.reg ?_)
 refine WT.boxT Z Z Z Z Z Z (fun i2 hi2=>?_)
 refine zC7 ?_
 refine WT.callV Tryd.func45 Z Z Z Z Z Z hck (fun x hx=>?_)
 subst hx
 refine zC7 ?_
 refine AW.cond Z (fun h=>(by cases h)) (fun _=>?_)
 refine zC7 ?_
 refine AW.cond Z (fun h=>(by simp at h;omega)) (fun _=>?_)
 refine zC7 ?_
 refine WT.callF0 Tryd.func37 Z Z Z Z Z Z (uends_spec _ g hg hr) (fun F1 x hF1 hx=>?_)
 obtain⟨ea,ec,E,rfl,hE,hEi⟩:=hx
 have hr1:=hr.mono hF1
 refine zC7 ?_
 refine WT.allocT hT Z Z Z Z Z Z (fun i7 hi7=>?_)
 refine zC7 ?_
 refine WT.callN Tryd.func38 Z Z Z Z Z Z (copy_spec _ g hr1 zo hr4) (fun F2 x B2 hF2 hx=>?_)
 obtain⟨ca,cc,rfl,hc⟩:=hx
 have hr2:=hr1.mono hF2
 have hE2:=hE.mono hF2
 unfold gramCells
 skip
 refine WT.buildT hT Z Z Z Z Z Z Z Z Z Z Z Z Z Z (fun i33 hi33=>?_)
 refine zC7 ?_
 refine WT.boxT Z Z Z Z Z Z (fun ic hic=>?_)
 refine zC7 ?_
 refine WT.freezeAll 3 Z Z (fun F3 hF3 hB3=>?_)
 have hie:=hB3 i7 _ me
 have hr3:=hr2.mono hF3
 have hE3:=hE2.mono hF3
 refine WT.callF (oin:=[B2]) Tryd.func39 Z Z Z Z Z Z (deleteFunc_spec F3 (hc.mono hF3) zo (fun r=>r.right.any fun y=>!y.term&&!(E.getD y.n false)) (first:=[]) (capt:=[.pointer (some ⟨i7,0,none⟩)]) Tryd.func46 Z (fun G hG r hrg b n d hb=>hNext1_spec G (hG _ _ hie) (hE3.mono hG) r (fun y hy=>?_) hb (by have:=hb.len;have:=(hg.right r hrg).2.1;omega))) (perm_to2 _ _ _ _).symm (fun F4 x oout hF4 hx=>?_)
 ·have:=(hg.right r hrg).2.2 y hy
  unfold SymOk at this
  cases hty:y.term with
  | true=>exact .inl rfl
  | false=>rw[if_neg (by simp[hty])] at this;rw[hEi.len];exact .inr this
 obtain⟨rfl,xa,xn,xc,rfl,hx⟩:=hx
 have hr4':=hr3.mono hF4
 have hv4:=(((hv.mono hF1).mono hF2).mono hF3).mono hF4
 refine zC7 ?_
 refine WT.callV Tryd.func49 Z Z Z Z Z Z (gN_spec _ _) (fun x hx=>?_)
 subst hx
 have h0:HOk (trimmed E g) (QP (trimmed E g) []) ⟨ic,xa,xn,xc⟩ F4 ⟨0,[],[],none,0,[],[],some ⟨i33,0,none⟩,1,[(i33,.cells false [.slice none 0 0])],[],0,[],none,0,0,[]⟩:=
  ⟨hx,⟨rfl,.inr ⟨i33,_,rfl,rfl,rfl,Cells.single (R:=tRaw) (x:=.slice none 0 0) ⟨rfl,rfl⟩,by decide⟩⟩,rfl,rfl,fun j l h=>by simp at h,Bld.nil_ _ _,List.nodup_nil,fun j l h=>by simp at h,fun x h=>by simp at h,Nat.zero_le _,fun j l h=>by simp at h,fun j l h=>by simp at h⟩
 refine WT.le (own2:=hB (trimmed E g) ⟨ic,xa,xn,xc⟩ ⟨0,[],[],none,0,[],[],some ⟨i33,0,none⟩,1,[(i33,.cells false [.slice none 0 0])],[],0,[],none,0,0,[]⟩::[(i2,.cells false [.int .i64 g.terms,.int .i64 g.nons,.int .i64 g.start,.slice a m c])]::own) (OwnLe.flat (List.Perm.of_eq (by simp[hB,hCells,trimmed]))) ?_
 refine WT.call1F 0 Tryd.func48 Z Z Z Z Z Z Z (fun _=>rfl) (hpredict_spec _ (trimmed E g) (trim_right hg E) (trim_len hg E) (QP_inv _ _) h0 ⟨false,g.start⟩ (fun _ i r hr hl=>⟨⟨r,hr,Nat.zero_le _,Nat.le_refl _⟩,fun _ L hL=>hL.start i r hr hl⟩)) (fun F5 x B5 hF5 hx5=>?_)
 obtain⟨s1,rfl,h1,hg1,hin1⟩:=hx5
 refine zC7 ?_
 refine WT.call1F 0 Tryd.func50 Z Z Z Z Z Z Z (fun _=>rfl) (hcomplete_spec _ (trimmed E g) (trim_right hg E) (trim_len hg E) (QP_inv _ _) h1) (fun F6 x B6 hF6 hx6=>?_)
 obtain⟨s2,rfl,h2,hg2,hcl2⟩:=hx6
 have hr6:=(hr4'.mono hF5).mono hF6
 have hv6:=(hv4.mono hF5).mono hF6
 have hk2:s2.k=0:=hg2.k.trans hg1.k
 have hls:LS s2 0=s2.last:=by unfold LS;rw[if_pos hk2.symm]
 have hS2:Sets (trimmed E g) [] (LS s2):=by
  refine⟨fun k hk0 x hx=>?_,fun i r hr' hl=>?_,fun k hk0 x hx=>?_,fun k t h=>by simp at h⟩
  ·obtain rfl:k=0:=Nat.le_zero.1 hk0
   rw[hls] at hx
   have:=(h2.qlast x hx).1
   rw[hk2] at this;exact this
  ·rw[hls];exact hg2.mem (hin1 i r hr' rfl hl)
  ·obtain rfl:k=0:=Nat.le_zero.1 hk0
   rw[hls] at hx
   have:=hcl2 x hx
   rw[hk2] at this;exact this
 refine zC7 ?_
 refine AW.range (S:=CSt) (fun _=>[]) (fun s=>hB (trimmed E g) ⟨ic,xa,xn,xc⟩ s::[(i2,.cells false [.int .i64 g.terms,.int .i64 g.nons,.int .i64 g.start,.slice a m c])]::own)
  (fun j s G=>HOk (trimmed E g) (QP (trimmed E g) (v.take j)) ⟨ic,xa,xn,xc⟩ G s∧s.k=j∧Sets (trimmed E g) (v.take j) (LS s)) vn s2
  Z Z Z Z Z Z Z Z Z zo rfl rfl (fun _=>rfl) (fun _=>rfl) sM oR ⟨h2,hk2,hS2⟩ ?_ ?_
 ·intro j s F7 hF7 hj hP
  obtain⟨hs,hsk,hS⟩:=hP
  have hv7:=hv6.mono hF7
  have htl:(v.take j).length=j:=by rw[List.length_take];omega
  refine zC7 ?_
  refine WT.idxL hT hv7 Z Z Z Z Z Z Z Z Z (by simp;omega) (fun y hy b3 off3 ro3 cs3 lx3 hb3 hp3 hrel3=>?_)
  obtain rfl:lx3=_:=hrel3
  rw[List.getElem?_map] at hy
  obtain⟨t,ht,rfl⟩:=Option.map_eq_some_iff.1 hy
  have htk:v.take (j+1)=v.take j++[t]:=by rw[List.take_add_one,ht];rfl
  refine zC7 ?_
  refine WT.allocT hT Z Z Z Z Z Z (fun i11 hi11=>?_)
  refine zC7 ?_
  have hm:s.k=(v.take j).length:=by omega
  refine WT.call1F 1 Tryd.func51 Z Z Z Z Z Z Z (fun _=>rfl) (hscan_spec _ (trimmed E g) (trim_right hg E) (trim_len hg E) (QP_inv _ _) (hs.weaken (QP_more hm t)) zo t (QP_scan hm t)) (fun F8 x B8 hF8 hx8=>?_)
  obtain⟨s',rfl,hs',hk',hold,hsc,hcl⟩:=hx8
  refine zC7 ?_
  refine⟨s',sM,zow,?_⟩
  dsimp only
  rw[htk]
  exact⟨hs',by omega,sets_put hS hm (fun x hx=>(hs'.qlast x hx).1) hk' hs.oldl hold hsc hcl⟩
 ·intro s F7 hF7 hP
  obtain⟨hs,hsk,hS⟩:=hP
  rw[List.take_of_length_le zo] at hs hS
  have hr7:=hr6.mono hF7
  have hv7:=hv6.mono hF7
  have hfew:=hs.few (trim_right hg E) (trim_len hg E) (QP_inv _ _)
  have hxl:=hs.last.len
  have huk:=hs.uk
  refine zC7 ?_
  refine WT.makeT (l:=g.terms+1) (by_:=1) hT Z Z Z Z Z Z Z Z Z Z Z Z zo (fun io hio=>?_)
  have hv0:=vec_repB (F:=F7) (i:=io) (n:=g.terms+1) false
  refine zC7 ?_
  refine WT.know (v':=.int .i64 (s.k:Nat)) 73 Z (by congr 1;omega) ?_
  refine WT.vidx hT hs.list.vec Z Z Z Z Z Z Z Z Z zo (fun b4 hb4=>?_)
  refine WT.wld1 (v:=.slice s.xa s.xn s.xc) hT 1 hs.list.vec hb4 huk Z Z Z Z Z Z hsubL Z Z Z (fun l h=>h.1) ?_
  refine zC7 ?_
  refine AW.range (S:=NB) (fun _=>[]) (fun u=>u.B::hB (trimmed E g) ⟨ic,xa,xn,xc⟩ s::[(i2,.cells false [.int .i64 g.terms,.int .i64 g.nons,.int .i64 g.start,.slice a m c])]::own)
   (fun j u F=>Vec tBool F (some ⟨io,0,none⟩) (g.terms+1) (bif g.terms+1==0 then 0 else 1) u.B u.xs∧∀t,t<g.terms→(u.xs[t]?=some true↔∃x∈s.last.take j,nextOf (trimmed E g).rules x=some ⟨true,t⟩)) s.xn ⟨_,_⟩
   Z Z Z Z Z Z Z Z Z zo rfl rfl (fun _=>rfl) (fun _=>rfl) sM oR ⟨hv0,fun t ht=>?_⟩ ?_ ?_
  ·show (List.replicate (g.terms+1) false)[t]?=some true↔_
   rw[List.getElem?_replicate,if_pos zo]
   simp
  ·intro j u F8 hF8 hj hP
   obtain⟨hu,hin⟩:=hP
   have hs8:=hs.mono hF8
   obtain⟨y,hyj⟩:∃x,s.last[j]?=some x:=⟨_,gE zo⟩
   have hyok:=(QP_inv (trimmed E g) v).ok _ _ (hs.qlast y (gM hyj))
   have htk:s.last.take (j+1)=s.last.take j++[y]:=by rw[List.take_add_one,hyj];rfl
   refine zC7 ?_
   refine WT.vidx hT hs8.last.vec Z Z Z Z Z Z Z Z Z zo (fun b5 hb5=>?_)
   refine WT.wldS hT 1 hs8.last.vec hb5 hyj Z Z Z Z Z Z hsubX Z Z Z (fun l hl=>?_)
   obtain rfl:l=_:=hl
   skip
   refine WT.allocT hT Z Z Z Z Z Z (fun i14 hi14=>?_)
   refine zC7 ?_
   refine WT.callLend 2 Tryd.func52 Z Z Z Z Z Z Z (fun G hG hBG=>hnext_spec G (trimmed E g) (trim_right hg E) (hBG _ _ me) (hs8.rules.mono hG) hyok) (fun x hx=>?_)
   rcases hx with ⟨hno2,_,rfl⟩ | ⟨z,hzn,rfl⟩
   ·refine zC7 ?_
    refine WT.allocT hT Z Z Z Z Z Z (fun i15 hi15=>?_)
    refine zC7 ?_
    refine AW.cond Z (fun h=>(by cases h)) (fun _=>?_)
    refine zC7 ?_
    refine⟨u,sM,zow,hu,fun t ht=>?_⟩
    rw[hin t ht,htk]
    simp[hno2]
   ·have hzt:z.term=true→z.n<g.terms:=fun hzt=>by
     obtain⟨r,hr,hrd⟩:=nextOf_some hzn
     have:=trim_sym hg E r (gM hr) z (gM hrd)
     rw[SymOk,if_pos hzt] at this
     exact this
    refine zC7 ?_
    refine WT.allocT hT Z Z Z Z Z Z (fun i15 hi15=>?_)
    refine zC7 ?_
    refine AW.cond Z (fun hc=>?_) (fun hc=>?_)
    ·have hc:z.term=true:=hc
     have hzn':nextOf (trimmed E g).rules y=some ⟨true,z.n⟩:=by rw[hzn];cases z;simp only at hc;rw[hc]
     have hlt:=hzt hc
     have hvl:=hu.len
     obtain⟨w,hw⟩:∃w,u.xs[z.n]?=some w:=⟨_,gE zo⟩
     refine zC7 ?_
     refine WT.vidx hT hu Z Z Z Z Z Z Z Z Z zo (fun b5 hb5=>?_)
     refine WT.vst (y:=true) hT 2 hu hb5 hw Z Z Z Z Z Z Z (fun _=>rfl) Z (fun B6 hB6=>?_)
     refine zC7 ?_
     refine⟨⟨u.xs.set z.n true,B6⟩,sM,zow,hB6,fun t ht=>?_⟩
     show (u.xs.set z.n true)[t]?=some true↔_
     rw[htk]
     by_cases e:t=z.n
     ·subst e
      rw[List.getElem?_set_self zo]
      simp only[true_iff]
      exact⟨y,by simp,hzn'⟩
     ·rw[List.getElem?_set_ne (fun h=>e h.symm),hin t ht]
      constructor
      ·rintro⟨x,hx,hn⟩;exact⟨x,List.mem_append_left _ hx,hn⟩
      ·rintro⟨x,hx,hn⟩
       rcases List.mem_append.1 hx with hx | hx
       ·exact⟨x,hx,hn⟩
       ·simp at hx;subst hx
        rw[hzn'] at hn
        injection hn with hn;injection hn with _ hn
        exact absurd hn.symm e
    ·have hc:z.term=false:=hc
     refine zC7 ?_
     refine⟨u,sM,zow,hu,fun t ht=>?_⟩
     rw[hin t ht,htk]
     constructor
     ·rintro⟨x,hx,hn⟩;exact⟨x,List.mem_append_left _ hx,hn⟩
     ·rintro⟨x,hx,hn⟩
      rcases List.mem_append.1 hx with hx | hx
      ·exact⟨x,hx,hn⟩
      ·simp at hx;subst hx
       rw[hzn] at hn
       injection hn with hn
       rw[hn] at hc;cases hc
  ·intro u F8 hF8 hP
   obtain⟨hu,hin⟩:=hP
   rw[List.take_of_length_le zo] at hin
   have hul:=hu.len
   obtain⟨w,hw⟩:∃w,u.xs[g.terms]?=some w:=⟨_,gE zo⟩
   have hfl:=hfill_spec F8 g hg (hr7.mono hF8) (hv7.mono hF8) zo
   unfold gramCells at hfl
   refine zC7 ?_
   refine AW.draw (ps:=[(2,5)]) Z Z ?_
   refine zC7 ?_
   refine WT.callV Tryd.func53 Z Z Z Z Z Z hfl (fun x hx=>?_)
   obtain⟨l1,l2,rfl⟩:=hx
   refine zC7 ?_
   refine WT.vidx hT hu Z Z Z Z Z Z Z Z Z zo (fun b6 hb6=>?_)
   refine WT.vst (y:=derives g v g.start 0 v.length) hT 0 hu hb6 hw Z Z Z Z Z Z Z (fun _=>rfl) Z (fun B6 hB6=>?_)
   refine zC7 ?_
   refine⟨zrC,?_⟩
   refine zC7 ?_
   refine WT.callLend 0 Tryd.func18 Z Z Z Z Z Z Z (fun G hG hBG=>boolContains_spec G (hB6.arr hG hBG) zo true) (fun x hx=>?_)
   subst hx
   have hN:HNext g v (u.xs.set g.terms (derives g v g.start 0 v.length)):=by
    refine⟨by simp;omega,⟨E,LS s,hEi,hS,fun k hk x hx=>?_,fun t ht=>?_⟩,by rw[List.getElem?_set_self zo]⟩
    ·obtain⟨_,_,_,_,_,hq⟩:=hs.at_ (j:=k) zo
     exact hq x hx
    ·rw[List.getElem?_set_ne zo,hin t ht]
     unfold LS
     rw[if_pos zo]
   refine zC7 ?_
   refine AW.cond Z (fun hc=>?_) (fun hc=>?_)
   ·have hc:true∉u.xs.set g.terms (derives g v g.start 0 v.length):=by simpa using hc
    refine zC7 ?_
    exact AW.ret ⟨_,[_],⟨_,_,rfl,⟨_,_,rfl,rfl,rfl⟩,rfl⟩,List.Sublist.cons_cons _ (List.Sublist.cons _ (List.Sublist.cons _ (List.Sublist.refl _))),B6,rfl,_,hN,.inl ⟨hc,rfl⟩⟩
   ·have hc:true∈u.xs.set g.terms (derives g v g.start 0 v.length):=by simpa using hc
    refine zC7 ?_
    exact AW.ret ⟨_,[_],⟨_,_,rfl,⟨_,_,rfl,rfl,rfl⟩,rfl⟩,List.Sublist.cons_cons _ (List.Sublist.cons _ (List.Sublist.cons _ (List.Sublist.refl _))),B6,rfl,_,hN,.inr ⟨hc,_,_,rfl,hB6⟩⟩
def listG:Gram:=⟨1,1,0,[⟨0,[⟨false,0⟩,⟨true,0⟩]⟩,⟨0,[⟨true,0⟩]⟩]⟩
theorem listG_valid:Valid listG where
 range:=⟨by decide,by decide,by decide,by decide,by decide⟩
 right:=by
  intro r hr
  simp only[listG,List.mem_cons,List.not_mem_nil,or_false] at hr
  rcases hr with rfl | rfl
  ·refine⟨by decide,by decide,fun y hy=>?_⟩
   simp only[List.mem_cons,List.not_mem_nil,or_false] at hy
   rcases hy with rfl | rfl<;>simp[SymOk,listG]
  ·refine⟨by decide,by decide,fun y hy=>?_⟩
   simp only[List.mem_cons,List.not_mem_nil,or_false] at hy
   subst hy;simp[SymOk,listG]
 nodup:=by decide
theorem listG_none:∀{s:Sym} {i j:Nat},Der listG [] s i j→False:=by
 intro s i j h
 refine Der.rec (motive_1:=fun s i j _=>False) (motive_2:=fun l i j _=>l≠[]→False) ?_ ?_ ?_ ?_ h
 ·intro t i h;simp at h
 ·intro r i j hr _ ih
  simp only[listG,List.mem_cons,List.not_mem_nil,or_false] at hr
  rcases hr with rfl | rfl<;>exact ih (by simp)
 ·intro i h;exact h rfl
 ·intro s l i m j _ _ ih1 _ _;exact ih1
theorem listG_first{E:List Bool}{L:Nat→List Item}(h:Sets (trimmed E listG) [] L):∃x∈L 0,nextOf (trimmed E listG).rules x=some ⟨true,0⟩:=by
 have hm:(⟨0,[⟨true,0⟩]⟩:Rule)∈(trimmed E listG).rules:=List.mem_filter.2 ⟨by simp[listG],useful_iff.2 (fun y hy=>by simp at hy;subst hy;exact .inl rfl)⟩
 obtain⟨i,hi,he⟩:=List.getElem_of_mem hm
 have hi':(trimmed E listG).rules[i]?=some ⟨0,[⟨true,0⟩]⟩:=by rw[gE hi,he]
 exact⟨⟨i,0,0⟩,h.start i _ hi' rfl,by rw[nextOf_at hi'];rfl⟩
theorem two_of{xs:List Bool}(h:xs.length=2)(h0:xs[0]?=some true)(h1:xs[1]?=some false):xs=[true,false]:=by
 match xs,h with
 | [a,b],_=>simp at h0 h1;rw[h0,h1]
theorem listG_done:derives listG [] listG.start 0 ([]:List Nat).length=false:=by
 cases h:derives listG [] listG.start 0 ([]:List Nat).length with
 | false=>rfl
 | true=>exact(listG_none (derives_iff.1 h)).elim
theorem listG_h{xs:List Bool}(h:HNext listG [] xs):xs=[true,false]:=by
 obtain⟨E,L,hE,hS,_,ht⟩:=h.set
 exact two_of h.len ((ht 0 (by decide)).2 (listG_first hS)) (by have:=h.done;rw[listG_done] at this;exact this)
theorem listG_z{F:Frz}{f:FZ}(hf:ZOk listG F f)(hw:f.w=[]){xs:List Bool}(h:NextZ listG f xs):xs=[true,false]:=by
 have hS:=hf.sets
 have hk:=hf.k
 rw[hw] at hS hk
 refine two_of h.len ((h.term 0 (by decide)).2 ?_) ?_
 ·have:=listG_first hS
  rw[show f.s.k=0 from hk];exact this
 ·have:=h.done
  rw[hw,listG_done] at this
  exact this
theorem endsIn_one{g:Gram}{E E':List Bool}(h:EndsIn g E)(h':EndsIn g E'):E=E':=by
 refine List.ext_getElem? fun n=>?_
 by_cases hn:n<g.nons
 ·obtain⟨a,ha⟩:∃x,E[n]?=some x:=⟨_,gE (by rw[h.len];exact hn)⟩
  obtain⟨b,hb⟩:∃x,E'[n]?=some x:=⟨_,gE (by rw[h'.len];exact hn)⟩
  have h1:=(h.iff (n:=n)).trans (h'.iff (n:=n)).symm
  rw[ha,hb] at h1
  rw[ha,hb]
  cases a<;>cases b<;>simp_all
 ·rw[List.getElem?_eq_none_iff.2 (by rw[h.len];omega),List.getElem?_eq_none_iff.2 (by rw[h'.len];omega)]
theorem lz_q{g:Gram}{Q:Nat→Item→Prop}{q:ChP}{F:Frz}{s:SSt}(h:SOk g Q q F s){j:Nat}{x:Item}(hx:x∈LZ s j):Q j x:=by
 unfold LZ at hx
 rw[List.getD_eq_getElem?_getD] at hx
 cases hl:s.lists[j]? with
 | none=>rw[hl] at hx;simp at hx
 | some l=>rw[hl] at hx;exact h.all j l hl x hx
theorem next_same{g:Gram}{F:Frz}{f:FZ}(hf:ZOk g F f){xs ys:List Bool}(hx:HNext g f.w xs)(hy:NextZ g f ys):xs=ys:=by
 obtain⟨E,L,hE,hS,hQ,ht⟩:=hx.set
 obtain rfl:=endsIn_one hE hf.ends
 have key:∀t,t<g.terms→(xs[t]?=some true↔ys[t]?=some true):=fun t htt=>by
  rw[ht t htt,hy.term t htt,hf.k]
  constructor
  ·rintro⟨x,h1,h2⟩
   exact⟨x,(hQ _ (Nat.le_refl _) x h1).2 (Nat.le_refl _) _ (by rw[List.take_length];exact hf.sets),h2⟩
  ·rintro⟨x,h1,h2⟩
   have hq:=lz_q hf.chart h1
   exact⟨x,hq.2 (Nat.le_refl _) L (by rw[List.take_length];exact hS),h2⟩
 refine List.ext_getElem? fun t=>?_
 rcases Nat.lt_trichotomy t g.terms with h | rfl | h
 ·obtain⟨a,ha⟩:∃x,xs[t]?=some x:=⟨_,gE (by rw[hx.len];omega)⟩
  obtain⟨b,hb⟩:∃x,ys[t]?=some x:=⟨_,gE (by rw[hy.len];omega)⟩
  have:=key t h
  rw[ha,hb] at this
  rw[ha,hb]
  cases a<;>cases b<;>simp_all
 ·rw[hx.done,hy.done]
 ·rw[List.getElem?_eq_none_iff.2 (by rw[hx.len];omega),List.getElem?_eq_none_iff.2 (by rw[hy.len];omega)]
theorem g3list_spec(F:Frz):Abs.Spec CC 6 [] F [] fun F' v o=>o=[]∧∃a c,v=.agg ⟨gramCells listG a 2 c⟩∧Arr tRule F' a 2 c listG.rules:=by
 refine Abs.Spec.fn (n:=12) Tryd.func6 rfl rfl fun own=>?_
 refine AW.seq (AW.reg ?_)
 refine WT.allocT hT Z Z Z Z Z Z (fun i0 hi0=>?_)
 refine zB7 ?_
 refine WT.allocT hT Z Z Z Z Z Z (fun i1 hi1=>?_)
 refine zB7 ?_
 refine WT.buildT hT Z Z Z Z Z Z Z Z Z Z Z Z Z Z (fun i5 hi5=>?_)
 refine zB7 ?_
 refine WT.buildT hT Z Z Z Z Z Z Z Z Z Z Z Z Z Z (fun i8 hi8=>?_)
 refine zB7 ?_
 refine WT.buildT hT Z Z Z Z Z Z Z Z Z Z Z Z Z Z (fun i10 hi10=>?_)
 refine WT.freezeAll 2 Z Z (fun F1 hF1 hB1=>?_)
 refine WT.freezeAll 1 Z Z (fun F2 hF2 hB2=>?_)
 refine WT.freezeAll 0 Z Z (fun F3 hF3 hB3=>?_)
 have h5:Arr tSym F3 (some ⟨i5,0,none⟩) 2 2 [⟨false,0⟩,⟨true,0⟩]:=(Bld.frozen (F:=F) (B:=[(i5,.cells false [.bool false,.int .i64 0,.bool true,.int .i64 0])]) ⟨rfl,.inr ⟨i5,_,rfl,rfl,rfl,Cells.cons (R:=tSym) (x:=⟨false,0⟩) (l:=[_,_]) rfl (Cells.single (R:=tSym) (x:=⟨true,0⟩) rfl),by decide⟩⟩ hF1 hB1).mono (hF2.trans hF3)
 have h8:Arr tSym F3 (some ⟨i8,0,none⟩) 1 2 [⟨true,0⟩]:=(Bld.frozen (F:=F1) (B:=[(i8,.cells false [.bool true,.int .i64 0])]) ⟨rfl,.inr ⟨i8,_,rfl,rfl,rfl,Cells.single (R:=tSym) (x:=⟨true,0⟩) rfl,by decide⟩⟩ hF2 hB2).mono hF3
 have h10:Arr tRule F3 (some ⟨i10,0,none⟩) 2 2 listG.rules:=Bld.frozen (F:=F3) (B:=[(i10,.cells false [.int .i64 0,.slice (some ⟨i5,0,none⟩) 2 2,.int .i64 0,.slice (some ⟨i8,0,none⟩) 1 2])]) ⟨rfl,.inr ⟨i10,_,rfl,rfl,rfl,Cells.cons (R:=tRule) (x:=⟨0,[⟨false,0⟩,⟨true,0⟩]⟩) (l:=[_,_]) ⟨_,_,_,rfl,h5⟩ (Cells.single (R:=tRule) (x:=⟨0,[⟨true,0⟩]⟩) ⟨_,_,_,rfl,h8⟩),by decide⟩⟩ (Frz.le.refl _) hB3
 refine zB7 ?_
 exact AW.ret ⟨_,[],⟨_,_,⟨_,rfl,fun G h0 s0=>loadA_cells (s0.has (p:=4) rfl me) (readT_ok hT rfl)⟩,rfl,rfl⟩,zsb,rfl,_,_,rfl,h10⟩
structure SySt where
 a:Option Addr
 n:Nat
 c:Nat
 B:List (Nat×Blk)
 xs:List Sym
theorem g3cells_spec(F:Frz){a:Option Addr}{n c:Nat}{w:List Nat}(hw:Arr tNat F a n c w)(hn:n≤1000) :
  Abs.Spec CC 17 [.slice a n c] F [] fun F' v o=>o=[]∧∃a' n' c',v=.slice a' n' c'∧Arr tSym F' a' n' c' (w.map fun t=>⟨true,t⟩):=by
 have hwl:=hw.len
 refine Abs.Spec.fn (n:=19) Tryd.func17 rfl rfl fun own=>?_
 refine zB7 ?_
 refine AW.range (S:=SySt) (fun s=>[(3,.slice s.a s.n s.c)]) (fun s=>s.B::own) (fun j s G=>Bld tSym G s.a s.n s.c s.B s.xs∧s.xs=(w.take j).map fun t=>⟨true,t⟩) n ⟨none,0,0,[],[]⟩
  Z Z Z Z Z Z Z Z Z zo rfl rfl (fun _=>rfl) (fun _=>rfl) sM (OwnLe.flat (List.Perm.refl _)) ⟨Bld.nil_ _ _,by simp⟩ ?_ ?_
 ·intro j s F1 hF1 hj hP
  obtain⟨hs,hxs⟩:=hP
  have hw1:=hw.mono hF1
  have hsl:=hs.len
  have hxl:s.xs.length≤j:=by rw[hxs];simp;omega
  refine zB7 ?_
  refine WT.idxL hT hw1 Z Z Z Z Z Z Z Z Z zo (fun y hy b3 off3 ro3 cs3 lx3 hb3 hp3 hrel3=>?_)
  obtain rfl:lx3=_:=hrel3
  refine zB7 ?_
  refine WT.buildT hT Z Z Z Z Z Z Z Z Z Z Z Z Z Z (fun i15 hi15=>?_)
  refine WT.appendT (ys:=[⟨true,y⟩]) hT 1 hs Z (fun _=>rfl) Z Z Z Z Z Z Z Z Z Z Z (fun h0 s0=>news_own hT s0 0 Z Z Z Z) (Cells.single (R:=tSym) (x:=⟨true,y⟩) rfl) Z (by decide) zom (fun a2 c2 B2 hB2=>?_)
  refine zB7 ?_
  exact⟨⟨a2,s.n+1,c2,B2,s.xs++[⟨true,y⟩]⟩,sM,zow,hB2,by rw[hxs,List.take_add_one,hy];simp⟩
 ·intro s F1 hF1 hP
  obtain⟨hs,hxs⟩:=hP
  rw[List.take_of_length_le zo] at hxs
  refine AW.freezeAll 0 Z Z (fun F2 hF2 hB2=>?_)
  have harr:=hs.frozen hF2 hB2
  refine zB7 ?_
  exact AW.ret ⟨_,[],⟨_,_,rfl,rfl,rfl⟩,zsb,rfl,_,_,_,rfl,hxs▸harr⟩
theorem gramS{F:Frz}{v:Value}{g:Gram}(h:GramV F v g):∃a m c,v=.agg ⟨gramCells g a m c⟩∧Arr tRule F a m c g.rules:=h
theorem holesFollowFeed_law(F:Frz)(hL:Laid F){a b:Option Addr}{m n c d:Nat}{l w0:List Int}(hl:Arr tInt F a m c l)(hw0:Arr tInt F b n d w0)(hm:n≤9223372036854775807) :
  Abs.Spec CC 4 [.slice a m c,.slice b n d] F [] fun _ v o=>o=[]∧v=.bool true:=by
 refine Abs.Spec.fn (n:=120) Tryd.func4 rfl rfl fun own=>?_
 refine zB7 ?_
 refine WT.callF0 Tryd.func6 Z Z Z Z Z Z (g3list_spec _) (fun F1 v hF1 hv=>?_)
 obtain⟨ka,kc,rfl,hk⟩:=hv
 have hL1:=hL.mono hF1
 skip
 refine WT.callN Tryd.func13 Z Z Z Z Z Z (zNew_spec _ listG listG_valid hk) (fun F2 v B2 hF2 hv=>?_)
 obtain⟨z,rfl,rfl,hz,hzw⟩:=hv
 have hL2:=hL1.mono hF2
 refine zB7 ?_
 refine WT.ptrEqNil hT Z Z Z Z Z Z Z Z ?_
 refine zB7 ?_
 have nspec:∀G,Frz.le F2 G→(∀i b,(i,b)∈zB listG z→G i=some b)→Abs.Spec CC 15 [.pointer (some ⟨z.fi,0,none⟩)] G [] fun F' v o=>∃B',o=[B']∧∃a' c' xs,v=.slice a' 2 c'∧Vec tBool F2 a' 2 c' B' xs∧NextZ listG z xs:=fun G hG hBG=>
  Spec.mono (zNext_spec G (hL2.mono hG) listG listG_valid (hz.mono hG) (by rw[hzw];exact Nat.zero_le _) hBG) (fun F' v o _ hv=>by
   obtain⟨B',e,a2,c2,xs,e2,hv,hx⟩:=hv
   exact⟨B',e,a2,c2,xs,e2,Vec.boolAny hv,hx⟩)
 refine WT.callLendN (P:=fun v B'=>∃a' c' xs,v=.slice a' 2 c'∧Vec tBool F2 a' 2 c' B' xs∧NextZ listG z xs) 0 Tryd.func15 Z Z Z Z Z Z Z nspec (fun v BN hv=>?_)
 obtain⟨na,nc,xs,rfl,hv,hxs⟩:=hv
 obtain rfl:=listG_z hz hzw hxs
 refine WT.freezeAll 0 Z Z (fun F3 hF3 hB3=>?_)
 have hna:=hv.arr hF3 hB3
 skip
 refine WT.buildT hT Z Z Z Z Z Z Z Z Z Z Z Z Z Z (fun i30 hi30=>?_)
 refine WT.freezeAll 0 Z Z (fun F4 hF4 hB4=>?_)
 have h30:Arr tBool F4 (some ⟨i30,0,none⟩) 2 1 [true,false]:=Bld.frozen (F:=F4) (B:=[(i30,.cells false [.bool true,.bool false])]) ⟨rfl,.inr ⟨i30,_,rfl,rfl,rfl,Cells.cons (R:=tBool) (x:=true) (l:=[_]) rfl (Cells.single (R:=tBool) (x:=false) rfl),by decide⟩⟩ (Frz.le.refl _) hB4
 refine WT.callV Tryd.func14 Z Z Z Z Z Z (boolEqual_spec F4 (hna.mono hF4) h30 (by decide)) (fun v hv=>?_)
 subst hv
 refine zB7 ?_
 refine AW.cond Z (fun h=>(by cases h)) (fun _=>?_)
 refine zB7 ?_
 refine WT.callF0 Tryd.func6 Z Z Z Z Z Z (g3list_spec _) (fun F5 v hF5 hv=>?_)
 obtain⟨qa,qc,rfl,hq⟩:=hv
 skip
 refine WT.callN Tryd.func16 Z Z Z Z Z Z (hNext_spec _ listG listG_valid hq (v:=[]) (Arr.nil_ _ _) (by decide) (fun t ht=>by cases ht)) (fun F6 v B6 hF6 hv=>?_)
 obtain⟨ys,hys,hv⟩:=hv
 obtain rfl:=listG_h hys
 rcases hv with ⟨hno,_⟩ | ⟨_,ma,mc,rfl,hmv⟩
 ·exact absurd me hno
 refine WT.freezeAll 0 Z Z (fun F7 hF7 hB7=>?_)
 have hma:=hmv.arr hF7 hB7
 refine zB7 ?_
 refine WT.buildT hT Z Z Z Z Z Z Z Z Z Z Z Z Z Z (fun i43 hi43=>?_)
 refine WT.freezeAll 0 Z Z (fun F8 hF8 hB8=>?_)
 have h43:Arr tBool F8 (some ⟨i43,0,none⟩) 2 1 [true,false]:=Bld.frozen (F:=F8) (B:=[(i43,.cells false [.bool true,.bool false])]) ⟨rfl,.inr ⟨i43,_,rfl,rfl,rfl,Cells.cons (R:=tBool) (x:=true) (l:=[_]) rfl (Cells.single (R:=tBool) (x:=false) rfl),by decide⟩⟩ (Frz.le.refl _) hB8
 refine WT.callV Tryd.func14 Z Z Z Z Z Z (boolEqual_spec F8 (hma.mono hF8) h43 (by decide)) (fun v hv=>?_)
 subst hv
 refine zB7 ?_
 refine AW.cond Z (fun h=>(by cases h)) (fun _=>?_)
 have hF28:=((((((hF2.trans hF3).trans hF4).trans hF5).trans hF6).trans hF7).trans hF8)
 have hF08:=hF1.trans hF28
 have hL8:=hL.mono hF08
 refine zB7 ?_
 refine WT.callF0 Tryd.func7 Z Z Z Z Z Z (grammar_spec _ (hl.mono hF08)) (fun F9 v hF9 hv=>?_)
 obtain⟨g,hgv,hg⟩:=hv
 obtain⟨ga,gm,gc,rfl,hr⟩:=gramS hgv
 have hgt:=hg.terms
 unfold gramCells
 skip
 refine WT.allocT hT Z Z Z Z Z Z (fun i9 hi9=>?_)
 refine zB7 ?_
 refine WT.callF0 Tryd.func8 Z Z Z Z Z Z (word_spec _ g.terms 8 zo (by decide) ((hw0.mono hF08).mono hF9) hm) (fun F10 v hF10 hv=>?_)
 obtain⟨wa,wn,wc,w,rfl,hw,hw1,hw2⟩:=hv
 have hwlen:=hw.len
 have hr10:=hr.mono hF10
 refine zB7 ?_
 refine WT.callN Tryd.func13 Z Z Z Z Z Z (zNew_spec _ g hg.valid hr10) (fun F11 v B11 hF11 hv=>?_)
 obtain⟨f0,rfl,rfl,hf0,hfw0⟩:=hv
 have hL11:=(((hL8.mono hF9).mono hF10).mono hF11)
 have hr11:=hr10.mono hF11
 have hw11:=hw.mono hF11
 refine zB7 ?_
 refine WT.ptrEqNil hT Z Z Z Z Z Z Z Z ?_
 refine zB7 ?_
 refine AW.cond Z (fun h=>(by cases h)) (fun _=>?_)
 refine zB7 ?_
 refine AW.know (v':=.int .i64 ((wn+1:Nat):Int)) 66 Z (by rw[Int.natCast_add];rfl) ?_
 refine AW.range (S:=FZ) (fun _=>[]) (fun f=>zB g f::[(i9,.cells false [.int .i64 g.terms,.int .i64 g.nons,.int .i64 g.start,.slice ga gm gc])]::own)
  (fun i f G=>ZOk g G f∧f.w=w.take i∧f.fi=f0.fi∧(0<i→i≤wn→∃x,x∈LZ f.s f.s.k)) (wn+1) f0
  Z Z Z Z Z Z Z Z Z zo rfl rfl (fun _=>rfl) (fun _=>rfl) sM (OwnLe.cons _ (OwnLe.cons _ zow)) ⟨hf0,by rw[hfw0,List.take_zero],rfl,fun h=>absurd h (Nat.lt_irrefl _)⟩ ?_ ?_
 ·intro i f F12 hF12 hi hP
  obtain⟨hf,hfw,hfi,hne⟩:=hP
  have hL12:=hL11.mono hF12
  have hr12:=hr11.mono hF12
  have hw12:=hw11.mono hF12
  have hfl:f.w.length=i:=by rw[hfw,List.length_take];omega
  have hfok:∀t∈f.w,t<g.terms:=hf.ok
  refine zB7 ?_
  have nspec:∀G,Frz.le F12 G→(∀i b,(i,b)∈zB g f→G i=some b)→Abs.Spec CC 15 [.pointer (some ⟨f0.fi,0,none⟩)] G [] fun F' v o=>∃B',o=[B']∧∃a' c' xs,v=.slice a' (g.terms+1) c'∧Vec tBool F12 a' (g.terms+1) c' B' xs∧NextZ g f xs:=fun G hG hBG=>by
   have h1:=zNext_spec G (hL12.mono hG) g hg.valid (hf.mono hG) zo hBG
   rw[hfi] at h1
   exact Spec.mono h1 (fun F' v o _ hv=>by
    obtain⟨B',e,a2,c2,xs,e2,hv,hx⟩:=hv
    exact⟨B',e,a2,c2,xs,e2,Vec.boolAny hv,hx⟩)
  refine WT.callLendN (P:=fun v B'=>∃a' c' xs,v=.slice a' (g.terms+1) c'∧Vec tBool F12 a' (g.terms+1) c' B' xs∧NextZ g f xs) 0 Tryd.func15 Z Z Z Z Z Z Z nspec (fun v BN hv=>?_)
  obtain⟨na,nc,ys,rfl,hv,hys⟩:=hv
  refine WT.freezeAll 0 Z Z (fun F13 hF13 hB13=>?_)
  have hna:=hv.arr hF13 hB13
  have hf13:=hf.mono hF13
  have hw13:=hw12.mono hF13
  have hyl:=hys.len
  refine zB7 ?_
  refine AW.draw (ps:=[(0,4)]) Z Z ?_
  refine zB7 ?_
  obtain⟨a',c',hs,ha'⟩:=hw13.slice (C:=CC) (lo:=0) (hi:=i) (Nat.zero_le _) zo hT (t:=22) Z Z Z none (some (.int .i64 (i:Nat))) rfl rfl
  refine WT.slice Z Z Z Z Z Z Z Z hs ?_
  rw[List.drop_zero,←hfw] at ha'
  refine WT.callF0 Tryd.func17 Z Z Z Z Z Z (g3cells_spec _ ha' zo) (fun F14 v hF14 hv=>?_)
  obtain⟨ca,cn,cc,rfl,hc⟩:=hv
  have hns:=hNext_spec F14 g hg.valid ((hr12.mono hF13).mono hF14) hc zo hfok
  unfold gramCells at hns
  skip
  refine WT.callN Tryd.func16 Z Z Z Z Z Z hns (fun F15 v B15 hF15 hv9=>?_)
  obtain⟨xs,hxs,hv9⟩:=hv9
  obtain rfl:=next_same hf hxs hys
  have hF25:=(hF13.trans hF14).trans hF15
  have hf15:=hf.mono hF25
  have hw15:=hw12.mono hF25
  have hna15:=(hna.mono hF14).mono hF15
  rcases hv9 with hv9 | hv9
  ·obtain⟨hno,hve⟩:=hv9
   subst hve
   refine zB7 ?_
   refine⟨zrC,?_⟩
   refine zB7 ?_
   refine AW.cond Z (fun _=>?_) (fun h=>(by cases h))
   have hi0:i=0:=by
    rcases Nat.eq_zero_or_pos i with h | h
    ·exact h
    ·exfalso
     obtain⟨x,hx⟩:=hne h zo
     have hq:=lz_q hf.chart hx
     rw[hf.k] at hq hx
     rcases qp_goes hf.ends (trim_right hg.valid _) hf.sets hq with h1 | ⟨t,y,h1,h2⟩
     ·have:=hxs.done
      rw[h1] at this
      exact hno (gM this)
     ·obtain⟨r,hr,hrd⟩:=nextOf_some h2
      have htt:=trim_sym hg.valid f.E r (gM hr) _ (gM hrd)
      rw[SymOk,if_pos rfl] at htt
      have:=(hys.term t htt).2 ⟨y,by rw[hf.k];exact h1,h2⟩
      exact hno (gM this)
   subst hi0
   refine zB7 ?_
   refine WT.split 85 Z (fun _=>?_) (fun h=>(by simp at h))
   skip
   refine WT.callV Tryd.func18 Z Z Z Z Z Z (boolContains_spec _ hna15 zo true) (fun v hv=>?_)
   subst hv
   refine zB7 ?_
   refine AW.ret ⟨_,[],⟨_,_,rfl,rfl,rfl⟩,zsb,rfl,?_⟩
   simp[hno,tupleA]
  ·obtain⟨hyes,ma,mc,hve,hmv⟩:=hv9
   subst hve
   refine WT.freezeAll 0 Z Z (fun F16 hF16 hB16=>?_)
   have hma:=hmv.arr hF16 hB16
   have hna16:=hna15.mono hF16
   have hf16:=hf15.mono hF16
   have hw16:=hw15.mono hF16
   refine zB7 ?_
   refine⟨zrC,?_⟩
   refine zB7 ?_
   refine AW.cond Z (fun h=>(by cases h)) (fun _=>?_)
   refine zB7 ?_
   refine WT.callV Tryd.func14 Z Z Z Z Z Z (boolEqual_spec F16 hma hna16 zo) (fun v hv=>?_)
   subst hv
   rw[show decide (xs=xs)=true by simp]
   refine zB7 ?_
   refine AW.cond Z (fun h=>(by cases h)) (fun _=>?_)
   refine zB7 ?_
   refine WT.split 102 Z (fun hd=>?_) (fun hd=>?_)
   ·have hd:i<wn:=by simp at hd;omega
    refine zB7 ?_
    refine WT.idxL hT hw16 Z Z Z Z Z Z Z Z Z zo (fun y hy b7 off7 ro7 cs7 lx7 hb7 hp7 hrel7=>?_)
    obtain rfl:lx7=_:=hrel7
    have hyt:=hw2 y (gM hy)
    refine zB7 ?_
    have pspec:=zPut_spec F16 g hg.valid hf16 zo y hyt
    rw[hfi] at pspec
    refine WT.call1F 2 Tryd.func19 Z Z Z Z Z Z Z (fun _=>rfl) pspec (fun F17 v B17 hF17 hv17=>?_)
    obtain⟨f',rfl,hf',hfi',hfE,hv17⟩:=hv17
    rcases hv17 with ⟨⟨x,hx,hxn⟩,rfl,hfw'⟩ | ⟨hno,rfl,hfw'⟩
    ·refine zB7 ?_
     refine AW.cond Z (fun h=>(by cases h)) (fun _=>?_)
     refine zB7 ?_
     refine⟨f',sM,zow,hf',by rw[hfw',hfw,List.take_add_one,hy];rfl,hfi',fun _ _=>⟨stepItem x,?_⟩⟩
     have hq:=lz_q hf.chart hx
     rw[hf.k] at hq
     have hS':=hf'.sets
     rw[hfE,hfw'] at hS'
     have h1:=hq.2 (Nat.le_refl _) (LZ f'.s) (by
      have:=hS'.cut f.w.length
      rw[List.take_append_of_le_length (Nat.le_refl _),List.take_length] at this
      rw[List.take_length];exact this)
     have h2:=hS'.scan f.w.length y (by simp) x h1 hxn
     rw[hf'.k,hfw',List.length_append]
     exact h2
    ·refine zB7 ?_
     refine AW.cond Z (fun _=>?_) (fun h=>(by cases h))
     refine zB7 ?_
     refine WT.idxL hT (hw16.mono hF17) Z Z Z Z Z Z Z Z Z zo (fun y' hy' b8 off8 ro8 cs8 lx8 hb8 hp8 hrel8=>?_)
     obtain rfl:y=y':=by rw[hy] at hy';exact Option.some.inj hy'
     obtain rfl:lx8=_:=hrel8
     refine zB7 ?_
     refine WT.idxL hT (hna16.mono hF17) Z Z Z Z Z Z Z Z Z zo (fun z hz b9 off9 ro9 cs9 lx9 hb9 hp9 hrel9=>?_)
     obtain rfl:lx9=_:=hrel9
     obtain rfl:z=false:=by
      cases z with
      | false=>rfl
      | true=>exact absurd ((hys.term y hyt).1 hz) hno
     refine zB7 ?_
     exact AW.ret ⟨_,[],⟨_,_,rfl,rfl,rfl⟩,zsb,rfl,rfl⟩
   ·have hd:i=wn:=by simp at hd;omega
    refine zB7 ?_
    refine AW.cond Z (fun h=>(by cases h)) (fun _=>?_)
    refine zB7 ?_
    have e1:w.take i=w:=List.take_of_length_le zo
    have e2:w.take (i+1)=w:=List.take_of_length_le zo
    exact⟨f,sM,zow,hf16,by rw[hfw,e1,e2],hfi,fun _ h=>absurd h zo⟩
 ·intro f F12 hF12 hP
  refine zB7 ?_
  exact AW.ret ⟨_,[],⟨_,_,rfl,rfl,rfl⟩,zsb,rfl,rfl⟩
end Go.Proofs.D