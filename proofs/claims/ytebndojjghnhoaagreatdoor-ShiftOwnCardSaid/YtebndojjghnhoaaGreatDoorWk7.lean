/-
  Walks: what functions of the program do, over the abstract machine.
-/
import Derived.Test.YtebndojjghnhoaaGreatDoorWk6
set_option linter.unusedVariables false
set_option maxRecDepth 20000
set_option maxHeartbeats 0
open Go Go.Abs Go.Proofs Go.Proofs.D
namespace Go.Abs
section
variable {C:Ctx}{T:RT}{n:Nat}{k:Kno}{F:Frz}{own:Own}{ops rest:List Oper}{o:Oper}{Q:Kno→Frz→Own→List Rec→Prop}
theorem WT.storeS2(hT:rowsOk C T=true)(p q:Nat){B B':List (Nat×Blk)}{own':Own}{t:TypeId}{a x:Operand}{i off:Nat}{cs cs':List Value}{v w:Value}(hop:o.op=.store t a x)(hw:wantK ops k o=some true)(hd:o.dst=none)(ha:evK C k a=some (.pointer (some ⟨i,off,none⟩)))
  (hx:evK C k x=some (.agg ⟨[v,w]⟩)) (hp:own[p]?=some B) (hq:B[q]?=some (i,.cells false cs)) (hm:sizeT T t=some 2) (h1:one v=true) (h2:one w=true) (hlt:off+2≤cs.length) (hcs:spliceL cs off [v,w]=cs')
  (hB:B.set q (i,.cells false cs')=B') (ho:setO own p B'=some own')
  (h:WT C n ops rest k F own' (fun k2 F2 own2 rs=>Q k2 F2 own2 (⟨F,own,F,own',[i]⟩::rs))) :
  WT C n ops (o::rest) k F own Q:=by
 have e2:=setO_ok _ _ _ _ ho;subst hcs hB;subst e2;have:=WT.store (C:=C) (n:=n) (k:=k) (F:=F) (Q:=Q) (rest:=rest) (ops:=ops) p q hop hw ha hx hp hq (sizeT_ok hT hm) rfl (by show ([v,w]:List Value).all one=true;simp[h1,h2]) hlt;exact this (by rw[hd];exact h)
end
end Go.Abs
namespace Go.Proofs.D
structure OwS where
 cs:List Value
 bs:List (Nat×Blk)
 rs:List Rule
structure OnS where
 cur:List Sym
 B:List (Nat×Blk)
structure Left(F:Frz)(m:Nat)(xs:List (Nat×Value))(s:OwS):Prop where
 len:s.cs.length=m*2
 at_:∀(i:Nat) (x:Nat×Value),xs[i]?=some x→s.cs[i*2+1]?=some x.2
 rights:Rights F xs s.bs s.rs
 few:∀r∈s.rs,r.right.length≤1000
theorem perm_apart9{α:Type}(x:α)(b1 Br b2 l:List α):(x::(b1++(Br++(b2++l)))).Perm (x::(Br++(b1++(b2++l)))):=by
 refine List.Perm.cons x ?_;have:=(List.perm_append_comm (l₁:=b1) (l₂:=Br)).append_right (b2++l);simpa [List.append_assoc] using this
theorem flatR_len:∀xs:List (Nat×Value),(flatR xs).length=xs.length*2
 | []=>rfl
 | x::xs=>by
  have e:flatR (x::xs)=.int .i64 x.1::x.2::flatR xs:=rfl;rw[e,List.length_cons,List.length_cons,flatR_len xs,List.length_cons];omega
structure ActI(vs:List Value)(s:List (Nat×Blk)):Prop where
 len:s.length=vs.length
 at_:∀(i:Nat) (v:Value),vs[i]?=some v→∃id n cs,v=.slice (some ⟨id,0,none⟩) n 2∧s[i]?=some (id,.cells false cs)∧cs.length=n*2∧n≤1000
theorem ActR.start{vs:List Value}{L:List (Nat×Blk)}{rows:List (List (Nat×Nat))}(h:ActR vs L rows)(hr:∀r∈rows,r.length≤1000):ActI vs L:=by
 obtain⟨e1,e2⟩:=h.len;refine⟨by omega,fun i v hv=>?_⟩;obtain⟨row,hrow⟩:∃row,rows[i]?=some row:=⟨_,gE (by have:=(gS hv).1;omega)⟩;obtain⟨id,h1,h2,_⟩:=h.at_ hrow;rw[hv] at h1;exact⟨id,row.length,flatA row,Option.some.inj h1,h2,flatA_len row,hr row (gM hrow)⟩
theorem ActI.put{vs:List Value}{s:List (Nat×Blk)}(h:ActI vs s){i id n:Nat}{cs:List Value}(hv:vs[i]?=some (.slice (some ⟨id,0,none⟩) n 2))(hcs:cs.length=n*2)(hn:n≤1000):ActI vs (s.set i (id,.cells false cs)):=by
 refine⟨by rw[List.length_set];exact h.len,fun j v hj=>?_⟩;by_cases e:j=i
 ·subst e;rw[hv] at hj;obtain rfl:=Option.some.inj hj;exact⟨id,n,cs,rfl,List.getElem?_set_self (by rw[h.len];exact(gS hv).1),hcs,hn⟩
 ·obtain⟨id2,n2,cs2,h1,h2,h3⟩:=h.at_ j v hj;exact⟨id2,n2,cs2,h1,by rw[List.getElem?_set_ne (Ne.symm e)];exact h2,h3⟩
theorem set_perm{α:Type}{s:List α}{i:Nat}{x:α}(h:i<s.length)(l:List α):(s.set i x++l).Perm (x::((s.take i++s.drop (i+1))++l)):=by
 rw[List.set_eq_take_append_cons_drop,if_pos h];exact(List.perm_middle (a:=x) (l₁:=s.take i) (l₂:=s.drop (i+1))).append_right l
theorem splice2_len{z:List Value}{j n:Nat}{u v:Value}(hz:z.length=n*2)(hj:j<n):(spliceL z (0+j*2) [u,v]).length=n*2:=by
 unfold spliceL;simp only[List.length_append,List.length_take,List.length_drop,List.length_cons,List.length_nil];omega
theorem perm_so{α:Type}(x0 x2 x3 x4 x5 x6:α)(l:List α):(x0::x2::x3::x4::x5::x6::l).Perm (x4::x3::x0::x5::x6::x2::l):=by
 refine(perm_pick (p:=3) (x:=x4) rfl).trans (List.Perm.cons _ ?_);refine(perm_pick (p:=2) (x:=x3) rfl).trans (List.Perm.cons _ (List.Perm.cons _ ?_));refine(perm_pick (p:=1) (x:=x5) rfl).trans (List.Perm.cons _ ?_);exact(perm_pick (p:=1) (x:=x6) rfl).trans (List.Perm.cons _ (List.Perm.refl _))
theorem perm_sn{α:Type}(x0 x1 x2:α)(l:List α):(x0::x1::x2::l).Perm (x1::x2::x0::l):=
 (List.Perm.swap x1 x0 _).trans (List.Perm.cons _ (List.Perm.swap x2 x0 _))
theorem shiftOwn_law(F:Frz)(hLd:Laid F){a b:Option Addr}{m n c d:Nat}{l w0:List Int}(hl:Arr tInt F a m c l)(hw0:Arr tInt F b n d w0)(hm:n≤9223372036854775807) :
  Abs.Spec CC 4 [.slice a m c,.slice b n d] F [] fun _ v o=>o=[]∧v=.bool true:=by
 refine Abs.Spec.fn (n:=163) Tryz.func4 rfl rfl fun own=>?_;refine zB4 ?_;refine WT.callN Tryz.func9 Z Z Z Z Z Z (madeOwn_spec _ hl hw0 hm 8 (by decide)) (fun F1 v B1 hF1 hv=>?_);obtain⟨g,ga,gm,gc,wa,wn,wc,w,B,bs,xs,rfl,rfl,hg,hb,hR,hw,hw1,hw2⟩:=hv;have hL1:=hLd.mono hF1;have hwlen:=hw.len;have hgt:=hg.terms;have hbl:=hb.len;have hRl:=hR.len;have hgr:=hg.rules;have hgv:=hg.valid;obtain⟨io,cs0,rfl,hic,rfl,hcells,_⟩:=hb.at_.resolve_left (fun h=>by rw[h.1] at hRl;simp at hRl;omega);have hic:gc=2:=hic;subst hic;have hcs:=cells_flatR hcells;subst hcs
 have hgG:∀G:Frz,(∀i b,(i,b)∈[(io,Blk.cells false (flatR xs))]++bs→G i=some b)→Arr tRule G (some ⟨io,0,none⟩) gm 2 g.rules:=fun G hG=>
  (bld_rules (Frz.le.refl G) (bld_c hb) (rights_c hR) fun i b hm=>hG i b (List.mem_append_right _ hm)).frozen (Frz.le.refl G) fun i b hm=>hG i b (List.mem_append_left _ hm)
 have hrr:∀r∈g.rules,r.right.length≤1000000:=fun r hr=>by have:=(hg.ok r hr).2.1;omega
 unfold gramCells;refine zB4 ?_;refine WT.allocT hT Z Z Z Z Z Z (fun i5 hi5=>?_);refine zB4 ?_;have hcl:=cleanN_spec F1 g hgv zo hgG;unfold gramCells at hcl;refine WT.callF (oin:=[[(io,Blk.cells false (flatR xs))]++bs]) (fr:=[(i5,.cells false [.int .i64 g.terms,.int .i64 g.nons,.int .i64 g.start,.slice (some ⟨io,0,none⟩) gm 2])]::own) Tryz.func14 Z Z Z Z Z Z hcl ?_ (fun F2 v oout hF2 hv=>?_)
 ·exact List.Perm.swap _ _ _
 obtain⟨L,G0,F',rfl,hle,hFr,hCN,hLM⟩:=hv;obtain⟨tk,a1,n1,c1,a2,n2,c2,a3,n3,c3,bb,rfl,hbb⟩:=hCN;have hL2:=hL1.mono hF2;have hw2':=hw.mono hF2;refine zB4 ?_;refine WT.allocT hT Z Z Z Z Z Z (fun i6 hi6=>?_);refine zB4 ?_;refine WT.callF0 Tryz.func15 Z Z Z Z Z Z (shifts_spec F2) (fun F3 v hF3 hv=>?_);subst hv;have hL3:=hL2.mono hF3;have hw3:=hw2'.mono hF3;cases bb with
 | false=>
  refine zB4 ?_;refine AW.cond Z (fun _=>?_) (fun h=>(by cases h));refine zB4 ?_;refine WT.callF0 Tryz.func15 Z Z Z Z Z Z (shifts_spec F3) (fun F4 v hF4 hv=>?_);subst hv;refine zB4 ?_;exact AW.ret ⟨_,[],⟨_,_,rfl,rfl,rfl⟩,zsb,rfl,rfl⟩
 | true=>
  obtain⟨T,hT2,hTc,hTN⟩:=hbb rfl;obtain⟨I,rows,la,hL⟩:=lrt_of hgv zo hT2 hTc;obtain⟨y1,y2,y3,y4,y5,y6,y7,y8,y9,vs,ev,hAR,hact⟩:=id hTN;refine zB4 ?_;refine AW.cond Z (fun h=>(by cases h)) (fun _=>?_);refine zB4 ?_
  have hnw:=newL_spec F3 g hgv zo hT2 hTc (B:=[(io,Blk.cells false (flatR xs))]++bs) (L:=L) (fun G hG hLG=>hTN.tabV hTc hFr fun i b hi hn=>by
   rcases hLM i b hi hn with ⟨c,hc⟩ | h
   ·have h1:=hFr.2.1 i c hc;rw[hi] at h1;cases h1;exact hLG i _ hc
   ·exact hG _ _ (hF3 _ _ h)) hgG
  unfold gramCells at hnw;refine WT.callF (oin:=[[(io,Blk.cells false (flatR xs))]++bs,L]) (fr:=[(i6,.cells false [.int .i64 tk,.slice a1 n1 c1,.slice a2 n2 c2,.slice a3 n3 c3])]::[(i5,.cells false [.int .i64 g.terms,.int .i64 g.nons,.int .i64 g.start,.slice (some ⟨io,0,none⟩) gm 2])]::own) Tryz.func16 Z Z Z Z Z Z hnw ?_ (fun F4 v oout hF4 hv=>?_)
  ·exact perm_sn _ _ _ _
  obtain⟨pi,p,rfl,rfl,hpp,hrd⟩:=hv;have hL4:=hL3.mono hF4;have hw4:=hw3.mono hF4;refine zB4 ?_;refine WT.ptrEqNil hT Z Z Z Z Z Z Z Z ?_;refine zB4 ?_;refine AW.cond Z (fun h=>(by cases h)) (fun _=>?_);refine zB7 ?_
  refine WT.callLendN (P:=fun v Bh=>∃B' bs' a' c' xs',Bh=B'++bs'∧v=.agg ⟨gramCells g a' gm c'⟩∧Bld tRuleC F1 a' gm c' B' xs'∧Rights F1 xs' bs' g.rules) 0 Tryz.func17 Z Z Z Z Z Z Z (fun G hG hBG=>(copyOwn_spec G g (hgG G hBG) zo hrr).mono fun F' v o _ hv=>by
   obtain⟨B',e,B'',bs',a',c',xs',e2,e3,h4,h5⟩:=hv;exact⟨B',e,B'',bs',a',c',xs',e2,e3,bld_c h4,rights_c h5⟩) (fun v Bh hv=>?_)
  obtain⟨Bh,bsh,ha,hc,xsh,rfl,rfl,hhb,hhR⟩:=hv;unfold gramCells;refine WT.allocT hT Z Z Z Z Z Z (fun i10 hi10=>?_);refine WT.freezeAll 1 Z Z (fun F40 hF40 hB40=>?_);have hh40:Arr tRule F40 ha gm hc g.rules:=(bld_rules (Frz.le.refl F40) (bld_c hhb) (rights_c hhR) fun i b hm=>hB40 i b (List.mem_append_right _ hm)).frozen (Frz.le.refl F40) fun i b hm=>hB40 i b (List.mem_append_left _ hm);have hpp:=hpp.mono hF40;have hL40:=hL4.mono hF40;have hw40:=hw4.mono hF40;refine zB8 ?_
  refine AW.le (own2:=[(pi,.cells false (ppCells g p))]::L::[(i10,.cells false [.int .i64 g.terms,.int .i64 g.nons,.int .i64 g.start,.slice ha gm hc])]::[(i6,.cells false [.int .i64 tk,.slice a1 n1 c1,.slice a2 n2 c2,.slice a3 n3 c3])]::[(i5,.cells false [.int .i64 g.terms,.int .i64 g.nons,.int .i64 g.start,.slice (some ⟨io,0,none⟩) gm 2])]::((io,.cells false (flatR xs))::bs)::own) (OwnLe.trans (OwnLe.flat (perm_so _ _ _ _ _ _ _).flatten) (OwnLe.cons _ (OwnLe.skip _ oR))) ?_
  refine AW.range (S:=OwS) (fun _=>[]) (fun s=>[(pi,.cells false (ppCells g p))]::L::[(i10,.cells false [.int .i64 g.terms,.int .i64 g.nons,.int .i64 g.start,.slice ha gm hc])]::[(i6,.cells false [.int .i64 tk,.slice a1 n1 c1,.slice a2 n2 c2,.slice a3 n3 c3])]::[(i5,.cells false [.int .i64 g.terms,.int .i64 g.nons,.int .i64 g.start,.slice (some ⟨io,0,none⟩) gm 2])]::([(io,.cells false s.cs)]++s.bs)::own)
   (fun i s G=>Left G gm xs s) gm ⟨flatR xs,bs,g.rules⟩
   Z Z Z Z Z Z Z Z Z zo rfl rfl (fun _=>rfl) (fun _=>rfl) sM oR ⟨by rw[flatR_len,hbl],fun i x hx=>(flatR_get hx).2,rights_c hR,fun r hr=>by have:=(hg.ok r hr).2.1;omega⟩ ?_ ?_
  ·intro i s F5 hF5 hi hP;obtain⟨cs,sbs,rs⟩:=s;obtain⟨hlen,hat,hrg,hfew⟩:=hP;dsimp only at hlen hat hrg hfew;have hrsl:=hrg.len;obtain⟨r,hri⟩:∃r,rs[i]?=some r:=⟨_,gE zo⟩;have hrf:=hfew r (gM hri);obtain⟨ra,rn,rc,Br,b1,b2,hx,hbs,hvec,hput⟩:=Rights.split hrg hri;have hvl:=hvec.len;subst hbs;have hcx1:=hat i _ hx
   refine AW.le (own2:=[(pi,.cells false (ppCells g p))]::L::[(i10,.cells false [.int .i64 g.terms,.int .i64 g.nons,.int .i64 g.start,.slice ha gm hc])]::[(i6,.cells false [.int .i64 tk,.slice a1 n1 c1,.slice a2 n2 c2,.slice a3 n3 c3])]::[(i5,.cells false [.int .i64 g.terms,.int .i64 g.nons,.int .i64 g.start,.slice (some ⟨io,0,none⟩) gm 2])]::[(io,.cells false cs)]::Br::(b1++b2)::own) (OwnLe.cons _ (OwnLe.cons _ (OwnLe.cons _ (OwnLe.cons _ (OwnLe.cons _ (OwnLe.flat ?_)))))) ?_
   ·simp only[List.flatten_cons,List.nil_append,List.append_assoc,List.cons_append];exact perm_apart9 _ _ _ _ _
   refine zB5 ?_;refine WT.idxA (j:=i) (s:=2) hT Z Z Z Z Z Z Z Z Z zo ?_;refine ze hT Z Z Z Z Z ?_;refine WT.storeAt hT 5 0 Z Z Z Z Z Z Z Z Z Z zo Z Z ?_;have hcx2:(cs.set (0+i*2+0) (.int .i64 (-1)))[0+i*2+1]?=some (.slice ra rn rc):=by
    rw[List.getElem?_set_ne zo,Nat.zero_add];exact hcx1
   have hlen2:(cs.set (0+i*2+0) (.int .i64 (-1))).length=gm*2:=by rw[List.length_set];exact hlen
   have hat2:∀(i':Nat) (x:Nat×Value),xs[i']?=some x→(cs.set (0+i*2+0) (.int .i64 (-1)))[i'*2+1]?=some x.2:=fun i' x hx'=>by
    rw[List.getElem?_set_ne zo];exact hat i' x hx'
   generalize cs.set (0+i*2+0) (.int .i64 (-1))=ys at *;refine zB5 ?_;refine WT.idxA (j:=i) (s:=2) hT Z Z Z Z Z Z Z Z Z zo ?_;refine ze hT Z Z Z Z Z ?_;refine WT.loadAt hT 5 Z Z Z Z Z Z me Z Z hcx2 ?_;refine zB5 ?_
   refine AW.range (S:=OnS) (fun _=>[]) (fun z=>[(pi,.cells false (ppCells g p))]::L::[(i10,.cells false [.int .i64 g.terms,.int .i64 g.nons,.int .i64 g.start,.slice ha gm hc])]::[(i6,.cells false [.int .i64 tk,.slice a1 n1 c1,.slice a2 n2 c2,.slice a3 n3 c3])]::[(i5,.cells false [.int .i64 g.terms,.int .i64 g.nons,.int .i64 g.start,.slice (some ⟨io,0,none⟩) gm 2])]::[(io,.cells false ys)]::z.B::(b1++b2)::own)
    (fun j z G=>Vec tSym G ra rn rc z.B z.cur) rn ⟨r.right,Br⟩
    Z Z Z Z Z Z Z Z Z zo rfl rfl (fun _=>rfl) (fun _=>rfl) sM oR hvec ?_ ?_
   ·rintro j ⟨cur,Bc⟩ F6 hF6 hj hz1;have hz1:Vec tSym F6 ra rn rc Bc cur:=hz1;have hcl:cur.length=rn:=hz1.len.symm;obtain⟨y,hyc⟩:∃y,cur[j]?=some y:=⟨_,gE zo⟩;obtain⟨ir,cs',e1,e2,e3,_⟩:=hz1.at_ hyc;have e4:=cells_flatS e3;subst e2 e4 e1;refine zB5 ?_;refine WT.idxA (j:=i) (s:=2) hT Z Z Z Z Z Z Z Z Z zo ?_;refine ze hT Z Z Z Z Z ?_;refine WT.loadAt hT 5 Z Z Z Z Z Z me Z Z hcx2 ?_;refine zB5 ?_;refine WT.idxA (j:=j) (s:=2) hT Z Z Z Z Z Z Z Z Z zo ?_;refine ze hT Z Z Z Z Z ?_;refine WT.storeAt hT 6 0 Z Z Z Z Z Z Z Z Z Z (by rw[e3.len,hcl];show 0+j*2+1<rn*2;omega) Z Z ?_
    rw[show (flatS cur).set (0+j*2+1) (.int .i64 99)=flatS (cur.set j ⟨y.term,99⟩) by rw[Nat.zero_add];exact flatS_set 99 hyc];refine zB5 ?_;exact⟨⟨cur.set j ⟨y.term,99⟩,[(ir,.cells false (flatS (cur.set j ⟨y.term,99⟩)))]⟩,sM,OwnLe.refl _,⟨by rw[List.length_set];exact hz1.len,hz1.cap,hz1.zero,hz1.nil,hz1.spot,.inr ⟨ir,_,rfl,rfl,flatS_cells _,by decide⟩⟩⟩
   ·rintro⟨cur,Bc⟩ F6 hF6 hz1;have hz1:Vec tSym F6 ra rn rc Bc cur:=hz1;have hcl:=hz1.len;have hz5:Vec tSym F5 ra rn rc Bc cur:=⟨hz1.len,hz1.cap,hz1.zero,hz1.nil,hz1.spot,hz1.el.imp id fun ⟨i,cs,h1,h2,h3,h4⟩=>⟨i,cs,h1,h2,by rw[cells_flatS h3];exact flatS_cells _,h4⟩⟩;have hnew:=(hput Bc ⟨r.left,cur⟩ hz5).mono hF6;have exs:xs.set i (r.left,Value.slice ra rn rc)=xs:=by
     obtain⟨h1,h2⟩:=gS hx;rw[←h2];exact List.set_getElem_self h1
    have hnew:Rights F6 xs (b1++(Bc++b2)) (rs.set i ⟨r.left,cur⟩):=by rw[←exs];exact hnew
    refine⟨⟨ys,b1++(Bc++b2),rs.set i ⟨r.left,cur⟩⟩,sM,OwnLe.cons _ (OwnLe.cons _ (OwnLe.cons _ (OwnLe.cons _ (OwnLe.cons _ (OwnLe.flat ?_))))),hlen2,hat2,hnew,fun r' hr'=>?_⟩
    ·simp only[List.flatten_cons,List.nil_append,List.append_assoc,List.cons_append];exact(perm_apart9 _ _ _ _ _).symm
    ·rcases List.mem_or_eq_of_mem_set hr' with h | h
     ·exact hfew r' h
     ·rw[h];show cur.length≤1000;omega
  intro s F5 hF5 hP;clear hP;obtain⟨ea,eb,ec⟩:y1=a1∧y2=n1∧y3=c1:=by
   injection ev with e;injection e with e;injection e with _ e;injection e with e1 _;injection e1 with h1 h2 h3;exact⟨h1.symm,h2.symm,h3.symm⟩
  subst ea eb ec;have hvs:=((((hact.1 F2 hLM).mono hF3).mono hF4).mono hF40).mono hF5;have hAI:=hAR.start fun r hr=>by rw[hL.arow r hr];omega
  have hh5:=hh40.mono hF5;have hpp5:=hpp.mono hF5;have hL5:=hL40.mono hF5;have hw5:=hw40.mono hF5;have hvl:=hvs.len;have hvl4:vs.length≤400:=by rw[hAR.len.1];exact hL.few
  refine zB5 ?_;refine AW.le (own2:=[(pi,.cells false (ppCells g p))]::L::[(i10,.cells false [.int .i64 g.terms,.int .i64 g.nons,.int .i64 g.start,.slice ha gm hc])]::[(i6,.cells false [.int .i64 tk,.slice y1 y2 y3,.slice a2 n2 c2,.slice a3 n3 c3])]::own) (OwnLe.cons _ (OwnLe.cons _ (OwnLe.cons _ (OwnLe.cons _ (OwnLe.skip _ (OwnLe.skip _ oR)))))) ?_
  refine AW.range (S:=List (Nat×Blk)) (fun _=>[]) (fun s=>[(pi,.cells false (ppCells g p))]::s::[(i10,.cells false [.int .i64 g.terms,.int .i64 g.nons,.int .i64 g.start,.slice ha gm hc])]::[(i6,.cells false [.int .i64 tk,.slice y1 y2 y3,.slice a2 n2 c2,.slice a3 n3 c3])]::own)
   (fun i s G=>ActI vs s) y2 L
   Z Z Z Z Z Z Z Z Z zo rfl rfl (fun _=>rfl) (fun _=>rfl) sM oR hAI ?_ ?_
  ·intro i s F6 hF6 hi hP;have hvs6:=hvs.mono hF6;obtain⟨v,hv⟩:∃v,vs[i]?=some v:=⟨_,gE zo⟩;obtain⟨id,nn,cs,rfl,hs,hcl,hnn⟩:=hP.at_ i v hv;have hsl:=(gS hs).1;have hss:s.set i (id,.cells false cs)=s:=by
    obtain⟨h1,h2⟩:=gS hs;rw[←h2];exact List.set_getElem_self h1
   refine AW.le (own2:=[(pi,.cells false (ppCells g p))]::[(id,.cells false cs)]::(s.take i++s.drop (i+1))::[(i10,.cells false [.int .i64 g.terms,.int .i64 g.nons,.int .i64 g.start,.slice ha gm hc])]::[(i6,.cells false [.int .i64 tk,.slice y1 y2 y3,.slice a2 n2 c2,.slice a3 n3 c3])]::own) (OwnLe.cons _ (OwnLe.flat ?_)) ?_
   ·simp only[List.flatten_cons];have:=set_perm (x:=(id,Blk.cells false cs)) hsl ([(i10,Blk.cells false [.int .i64 g.terms,.int .i64 g.nons,.int .i64 g.start,.slice ha gm hc])]++([(i6,.cells false [.int .i64 tk,.slice y1 y2 y3,.slice a2 n2 c2,.slice a3 n3 c3])]++own.flatten));rw[hss] at this;exact this
   refine zB5 ?_;refine WT.idxL hT hvs6 Z Z Z Z Z Z Z Z Z zo (fun x hx b1 off1 ro1 cs1 lx1 hb1 hp1 hrel1=>?_);obtain⟨rfl,_⟩:=hrel1;rw[hv] at hx;obtain rfl:=Option.some.inj hx;refine zB5 ?_;refine AW.range (S:=List Value) (fun _=>[]) (fun z=>[(pi,.cells false (ppCells g p))]::[(id,.cells false z)]::(s.take i++s.drop (i+1))::[(i10,.cells false [.int .i64 g.terms,.int .i64 g.nons,.int .i64 g.start,.slice ha gm hc])]::[(i6,.cells false [.int .i64 tk,.slice y1 y2 y3,.slice a2 n2 c2,.slice a3 n3 c3])]::own)
    (fun j z G=>z.length=nn*2) nn cs
    Z Z Z Z Z Z Z Z Z zo rfl rfl (fun _=>rfl) (fun _=>rfl) sM oR hcl ?_ ?_
   ·intro j z F7 hF7 hj hz;have hvs7:=hvs6.mono hF7;refine zB5 ?_;refine WT.idxL hT hvs7 Z Z Z Z Z Z Z Z Z zo (fun x hx b2 off2 ro2 cs2 lx2 hb2 hp2 hrel2=>?_);obtain⟨rfl,_⟩:=hrel2;rw[hv] at hx;obtain rfl:=Option.some.inj hx;refine zB5 ?_;refine WT.idxA (j:=j) (s:=2) hT Z Z Z Z Z Z Z Z Z zo ?_;refine WT.storeS2 hT 1 0 Z Z Z Z Z Z Z Z Z Z (by rw[hz];omega) Z Z Z ?_;refine zB5 ?_;exact⟨spliceL z (0+j*2) [.int .i64 9,.int .i64 9],sM,OwnLe.refl _,splice2_len hz hj⟩
   ·intro z F7 hF7 hz;refine⟨s.set i (id,.cells false z),sM,OwnLe.cons _ (OwnLe.flat ?_),hP.put hv hz hnn⟩;simp only[List.flatten_cons];exact(set_perm (x:=(id,Blk.cells false z)) hsl _).symm
  intro s F6 hF6 hP;refine zB5 ?_;have hto:=of_spec F6 g hgv zo 2 (.inr (.inl rfl)) (hh5.mono hF6);unfold gramCells at hto;refine WT.callF0 Tryz.func18 Z Z Z Z Z Z hto (fun F7 v hF7 hv=>?_);rcases hv with ⟨hn,_⟩ | ⟨T',x,hx1,rfl,hx2⟩
  ·rw[hT2] at hn;cases hn
  rw[hT2] at hx1;obtain rfl:=Option.some.inj hx1;obtain⟨z1,k1,d1,z2,k2,d2,z3,k3,d3,rfl,g1,g2,g3⟩:=id hx2;have hh7:=(hh5.mono hF6).mono hF7;have hpp7:=(hpp5.mono hF6).mono hF7;have hL7:=(hL5.mono hF6).mono hF7;have hw7:=(hw5.mono hF6).mono hF7;refine zB5 ?_;refine WT.allocT hT Z Z Z Z Z Z (fun i15 hi15=>?_);refine zB5 ?_;refine AW.range (S:=ShS) (fun _=>[]) (fun s=>[(i15,.cells false [.int .i64 (2:Nat),.slice z1 k1 d1,.slice z2 k2 d2,.slice z3 k3 d3])]::[(pi,.cells false (ppCells g s.p))]::[(i10,.cells false [.int .i64 g.terms,.int .i64 g.nons,.int .i64 g.start,.slice ha gm hc])]::own)
   (fun j s G=>PPOk g T G s.p s.σ s.τ∧s.p.read=j∧s.σ.length≤1+j*100001∧confAt g (goR g rows) (actT T) 100000 (w.take j).reverse=some (s.σ,s.τ)) wn ⟨p,[0],[]⟩
   Z Z Z Z Z Z Z Z Z zo rfl rfl (fun _=>rfl) (fun _=>rfl) sM (OwnLe.cons _ (OwnLe.cons _ (OwnLe.skip _ (OwnLe.cons _ (OwnLe.skip _ oR))))) ⟨hpp7,hrd,Nat.le_refl _,rfl⟩ ?_ ?_
  ·intro j s F8 hF8 hj hP;obtain⟨p,σ,τ⟩:=s;obtain⟨hp,hpr,hσ,hcf⟩:=hP;dsimp only at hp hpr hσ hcf ⊢;have hs:=confAt_stk hL.lr hL.only j (w:=w) zo hcf;dsimp only at hs;have hw8:=hw7.mono hF8;have hh8:=hh7.mono hF8;have hx8:=hx2.mono hF8;refine zC5 ?_;refine WT.idxL hT hw8 Z Z Z Z Z Z Z Z Z zo (fun t htj b1 off1 ro1 cs1 lx1 hb1 hp1 hrel1=>?_);obtain rfl:lx1=_:=hrel1;have htt:=hw2 t (gM htj);obtain⟨hst1,hst2⟩:=confAt_step hcf htj;have hln:=redN_len (g:=g) (go:=goR g rows) (act:=actT T) t 100000 (σ,τ);refine zC5 ?_;refine AW.draw (ps:=[(0,11),(1,11),(4,11),(5,11)]) Z Z ?_;refine zC5 ?_
   obtain⟨wsa,wsc,hws,hwsl⟩:=hw8.slice (C:=CC) (lo:=0) (hi:=j+1) (Nat.zero_le _) zo hT (t:=22) Z Z Z none (some (.int .i64 ((j+1:Nat):Int))) rfl (by simp[boundA];omega);refine WT.slice Z Z Z Z Z Z Z Z hws ?_;rw[List.drop_zero] at hwsl;have hsp:=shParse_spec F8 g hgv zo (.inr (.inl rfl)) hT2 hTc hL hx8 hh8 hwsl (by rw[List.length_take];omega) (fun t ht=>hw2 t (List.mem_of_mem_take ht));unfold gramCells at hsp;refine WT.callF0 Tryz.func19 Z Z Z Z Z Z hsp (fun F9 v hF9 hv=>?_);obtain⟨ly,at2,e2,rfl,hpv⟩:=hv
   obtain⟨lr,lt,la3,ln3,lc3,hly⟩:∃(r:Int) (t:Nat) (a:Option Addr) (n c:Nat),ly=[.int .i64 r,.int .i64 t,.slice a n c]:=by
    rcases hpv with ⟨_,_,X,c1,_,_,_,_,hrel⟩ | ⟨_,h4,_⟩ | ⟨_,h4,_⟩
    ·obtain⟨r,u,ks⟩:=X;obtain⟨za,zn,zc,rfl,_,_⟩:=tTree_cases hrel;exact⟨_,_,_,_,_,rfl⟩
    ·exact⟨_,0,_,_,_,h4⟩
    ·exact⟨_,0,_,_,_,h4⟩
   subst hly;refine zC5 ?_;refine WT.allocT hT Z Z Z Z Z Z (fun i19 hi19=>?_);refine zC5 ?_;refine⟨zrC,?_⟩;refine zC5 ?_;have hpt:=put_spec F9 g hgv hL (hp.mono hF9) hs zo zo htt (pi:=pi) zo;refine WT.callF (oin:=[[(pi,.cells false (ppCells g p))]]) (fr:=[(i19,.cells false [.int .i64 lr,.int .i64 lt,.slice la3 ln3 lc3])]::[(i15,.cells false [.int .i64 (2:Nat),.slice z1 k1 d1,.slice z2 k2 d2,.slice z3 k3 d3])]::[(i10,.cells false [.int .i64 g.terms,.int .i64 g.nons,.int .i64 g.start,.slice ha gm hc])]::own) Tryz.func20 Z Z Z Z Z Z hpt (perm_pick (p:=2) rfl) (fun F10 v oout hF10 hv=>?_)
   obtain⟨p',rfl,hv⟩:=hv;rcases hv with ⟨rfl,hr1,s',hs1,hok⟩ | ⟨rfl,rfl,hno⟩
   ·refine zC5 ?_;refine AW.cond Z (fun h=>(by cases h)) (fun _=>?_);refine zC5 ?_;have hcf':=hst1 s' hs1;have hσ1:((redN g (goR g rows) (actT T) t 100000 (σ,τ)).1++[s']).length≤1+(j+1)*100001:=by
     rw[List.length_append,List.length_singleton];dsimp only at hln;omega
    generalize (redN g (goR g rows) (actT T) t 100000 (σ,τ)).1++[s']=σ1 at hok hcf' hσ1;generalize (redN g (goR g rows) (actT T) t 100000 (σ,τ)).2++[.mk (-1) t []]=τ1 at hok hcf';have hs':=confAt_stk hL.lr hL.only (j+1) (w:=w) zo hcf';dsimp only at hs'
    refine WT.callF (oin:=[[(pi,.cells false (ppCells g p'))]]) (fr:=[(i19,.cells false [.int .i64 lr,.int .i64 lt,.slice la3 ln3 lc3])]::[(i15,.cells false [.int .i64 (2:Nat),.slice z1 k1 d1,.slice z2 k2 d2,.slice z3 k3 d3])]::[(i10,.cells false [.int .i64 g.terms,.int .i64 g.nons,.int .i64 g.start,.slice ha gm hc])]::own) Tryz.func21 Z Z Z Z Z Z (treeOwn_spec F10 g hgv hL hok hs' zo zo (pi:=pi)) (List.Perm.refl _) (fun F11 v oout hF11 hv=>?_);obtain⟨X1,rfl,ly1,f1,Y1,rfl,hT1,hcase1⟩:=hv
    obtain⟨r1,u1,ya1,yn1,yc1,rfl⟩:∃(r:Int) (t:Nat) (a:Option Addr) (n c:Nat),ly1=[.int .i64 r,.int .i64 t,.slice a n c]:=by
     cases hT1;exact⟨_,_,_,_,_,rfl⟩
    refine zC7 ?_;refine WT.allocT hT Z Z Z Z Z Z (fun i22 hi22=>?_);refine zC7 ?_
    refine WT.callF (oin:=[[(i22,.cells false [.int .i64 r1,.int .i64 u1,.slice ya1 yn1 yc1])],X1]) (fr:=[(pi,.cells false (ppCells g p'))]::[(i19,.cells false [.int .i64 lr,.int .i64 lt,.slice la3 ln3 lc3])]::[(i15,.cells false [.int .i64 (2:Nat),.slice z1 k1 d1,.slice z2 k2 d2,.slice z3 k3 d3])]::[(i10,.cells false [.int .i64 g.terms,.int .i64 g.nons,.int .i64 g.start,.slice ha gm hc])]::own) Tryz.func22 Z Z Z Z Z Z (spoil_spec _ Y1 _ _ _ _ _ X1 hT1 (Nat.lt_succ_self _) F11 i22 0 _ rfl) (List.Perm.cons _ (List.Perm.swap _ _ _)) (fun F12 v oout hF12 hv=>?_);obtain⟨X1',rfl⟩:=hv
    rw[show over [Value.int .i64 r1,.int .i64 u1,.slice ya1 yn1 yc1] 0=[.int .i64 (-7),.int .i64 (-7),.slice ya1 yn1 yc1] from rfl];refine zC8 ?_
    refine WT.callF (oin:=[[(pi,.cells false (ppCells g p'))]]) (fr:=[(i22,.cells false [.int .i64 (-7),.int .i64 (-7),.slice ya1 yn1 yc1])]::X1'::[(i19,.cells false [.int .i64 lr,.int .i64 lt,.slice la3 ln3 lc3])]::[(i15,.cells false [.int .i64 (2:Nat),.slice z1 k1 d1,.slice z2 k2 d2,.slice z3 k3 d3])]::[(i10,.cells false [.int .i64 g.terms,.int .i64 g.nons,.int .i64 g.start,.slice ha gm hc])]::own) Tryz.func21 Z Z Z Z Z Z (treeOwn_spec F12 g hgv hL ((hok.mono hF11).mono hF12) hs' zo zo (pi:=pi)) (perm_pick (p:=2) rfl) (fun F13 v oout hF13 hv=>?_);obtain⟨X3,rfl,ly3,f3,Y3,rfl,hT3,hcase3⟩:=hv
    obtain⟨r3,u3,ya3,yn3,yc3,rfl⟩:∃(r:Int) (t:Nat) (a:Option Addr) (n c:Nat),ly3=[.int .i64 r,.int .i64 t,.slice a n c]:=by
     cases hT3;exact⟨_,_,_,_,_,rfl⟩
    have hboth:e2=f1∧tTree.rel F9 [.int .i64 lr,.int .i64 lt,.slice la3 ln3 lc3] Y3:=by
     rcases hpv with ⟨rfl,_,X,c0,q1,q2,q3,_,hrel⟩ | ⟨_,_,q0,_,q1⟩ | ⟨rfl,q0,_,c0,q1,q2⟩
     ·rw[hcf'] at q1;obtain rfl:=Option.some.inj q1;rcases hcase1 with ⟨rfl,_⟩ | ⟨_,_,_,h⟩
      ·rcases hcase3 with ⟨_,_,h,_⟩ | ⟨_,_,_,h⟩
       ·rw[q3] at h;obtain rfl:X=Y3:=by injection h
        exact⟨rfl,hrel⟩
       ·exact absurd q2 h
      ·exact absurd q2 h
     ·exact(confAt_less _ hcf' q1).elim
     ·rw[hcf'] at q1;obtain rfl:=Option.some.inj q1;rcases hcase1 with ⟨_,h,_⟩ | ⟨rfl,_⟩
      ·exact absurd h q2
      ·rcases hcase3 with ⟨_,h,_⟩ | ⟨_,_,rfl,_⟩
       ·exact absurd h q2
       ·rw[q0];exact⟨rfl,tTree_mk (t:=0) (Arr.nil_ _ _) (Nat.zero_le _)⟩
    obtain⟨rfl,hrelY⟩:=hboth;refine WT.freezeAll 1 Z Z (fun F14 hF14 hB14=>?_);have hrel3:=hT3.frozen hB14;have hrelX:=tTree.mono _ _ _ _ (hF10.trans (hF11.trans (hF12.trans (hF13.trans hF14)))) hrelY;refine zC8 ?_;refine WT.split 156 Z (fun h=>(by simp at h)) (fun _=>?_);refine zC8 ?_;refine WT.callV Tryz.func23 Z Z Z Z Z Z (sameTree_spec _ F14 _ _ Y3 (Nat.lt_succ_self _) hrelX hrel3) (fun v hv=>?_);subst hv;refine zC8 ?_;refine AW.cond Z (fun h=>(by cases h)) (fun _=>?_);refine zC8 ?_
    refine⟨⟨p',σ1,τ1⟩,sM,OwnLe.trans (OwnLe.flat (List.Perm.swap _ _ _).flatten) (OwnLe.cons [(pi,.cells false (ppCells g p'))] (OwnLe.skip _ (OwnLe.skip _ (OwnLe.skip _ (OwnLe.skip _ oR))))),(((hok.mono hF11).mono hF12).mono hF13).mono hF14,by dsimp only;omega,hσ1,hcf'⟩
   ·refine zC5 ?_;refine AW.cond Z (fun _=>?_) (fun h=>(by cases h));refine zC5 ?_;have hnone:=hst2 hno;obtain rfl:e2=10:=by
     rcases hpv with ⟨_,_,X,c0,q1,_⟩ | ⟨h,_⟩ | ⟨h,_⟩
     ·rw[hnone] at q1;cases q1
     ·exact h
     ·exact h
    exact AW.ret ⟨_,[],⟨_,_,rfl,rfl,rfl⟩,zsb,rfl,rfl⟩
  ·intro s F8 hF8 hP;refine zC5 ?_;exact AW.ret ⟨_,[],⟨_,_,rfl,rfl,rfl⟩,zsb,rfl,rfl⟩
end Go.Proofs.D