/-
  Walks: what functions of the program do, over the abstract machine.
-/
import Derived.Test.YtmbdmfjijofmmaaGreatDoorWk4
set_option linter.unusedVariables false
set_option maxRecDepth 20000
set_option maxHeartbeats 0
open Go Go.Abs Go.Proofs Go.Proofs.D
set_option linter.unusedVariables false
set_option maxRecDepth 20000
set_option maxHeartbeats 0
open Go Go.Abs Go.Proofs Go.Proofs.D
namespace Go.Proofs.D
theorem H8(a b:Nat×aD)(BS BL BX:List (Nat×aD))(own:a6):ah ((a::(BS++BL))::BX::own) ((a::(BS++(BL++(b::BX))))::own):=by
 refine⟨(a::(BS++(BL++BX)))++own.flatten,?_,Ss (by simp)⟩;simp only[SC];refine List.Sublist.append_right (List.Sublist.cons_cons _ (List.Sublist.append_left (List.Sublist.append_left (SF _ _) _) _)) _
theorem zj(F:ar)(g:af)(hg:∀r∈g.rules,r.right.length<=4)(hgl:g.rules.length<=32){Q:Nat->Item->Prop}(hQ:yU g Q)(hst:∀i r,g.rules[i]?=some r->r.left=g.start->Q 0 ⟨i,0,0⟩)
  {a:Option Addr} {m c:Nat} (hr:bw bK F a m c g.rules) :
  Abs.Spec CC 57 [.agg ⟨ai g a m c⟩] F [] λF' v o=>
   ∃B',o=[B']/\∃q s,v=.pointer (some ⟨q.ic,0,none⟩)/\B'=cB g q s/\pE g Q q F' s/\s.k=0/\(∀i r,g.rules[i]?=some r->r.left=g.start->(⟨i,0,0⟩:Item)∈s.last)/\(∀x∈s.last,dU g.rules (LS s) s.k x)/\q=⟨q.ic,a,m,c⟩:=by
 unfold ai;refine Abs.Spec.fn (n:=17) Tryz.func57 rfl rfl λown=>?_;refine AW.seq (AW.du ?_);refine WT.cC Z Z Z Z Z Z (λi1 hi1=>?_);refine au ?_;refine WT.cC Z Z Z Z Z Z (λic hic=>?_);refine au ?_;refine WT.bW 0 Tryz.func110 Z Z Z Z Z Z Z (λ_=>rfl) (Gt F (ic:=ic) (n:=0) (BS:=[]) (BL:=[]) (dy.gq iC F) (dy.gq iC F) (by decide) ⟨rfl,rfl,rfl,rfl⟩) (λF1 v B1 hF1 hv=>?_);obtain⟨sa,sc,la,lc,BS,BL,im,hs,hl,rfl⟩:=hv;have h0:pE g Q ⟨ic,a,m,c⟩ F1 ⟨0,[],[],sa,sc,BS,[],la,lc,BL,[],im,[],none,0,0,[]⟩:=
  ⟨hr.mono hF1,hs,hl,rfl,rfl,λj l h=>by simp at h,λy=>by simp[Abs.look],dy.gq _ _,Te,λj l h=>by simp at h,λx h=>by simp at h,RC _,λj l h=>by simp at h,λj l h=>by simp at h⟩
 refine au ?_;refine WT.bN Tryz.func84 Z Z Z Z Z Z (qJ _ _) (λv hv=>?_);subst hv;refine WT.bW 0 Tryz.func111 Z Z Z Z Z Z Z (λ_=>rfl) (pA _ g hg hgl hQ h0 ⟨false,g.start⟩ (λ_ i r hr hl=>hst i r hr hl)) (λF2 v B2 hF2 hv=>?_);obtain⟨s1,rfl,h1,hg1,hin⟩:=hv;refine au ?_;refine WT.bW 0 Tryz.func112 Z Z Z Z Z Z Z (λ_=>rfl) (nZ _ g hg hgl hQ h1) (λF3 v B3 hF3 hv=>?_);obtain⟨s2,rfl,h2,hg2,hcl⟩:=hv;refine au ?_;refine AW.perm (BB _ _ _) ?_
 exact AW.ret ⟨_,[_],⟨_,_,rfl,rfl,rfl⟩,bU,_,rfl,⟨ic,a,m,c⟩,s2,rfl,rfl,h2,hg2.k.trans hg1.k,λi r hr hl=>hg2.mem (hin i r hr rfl hl),hcl,rfl⟩
theorem Ck(F:ar)(g:af)(hg:∀r∈g.rules,r.right.length<=4)(hgl:g.rules.length<=32){Q:Nat->Item->Prop}(hQ:yU g Q)(hst:∀i r,g.rules[i]?=some r->r.left=g.start->Q 0 ⟨i,0,0⟩)
  {a:Option Addr} {m c:Nat} (hr:bw bK F a m c g.rules) :
  Abs.Spec CC 57 [.agg ⟨ai g a m c⟩] F [] λF' v o=>
   ∃B',o=[B']/\∃q s,v=.pointer (some ⟨q.ic,0,none⟩)/\B'=cB g q s/\pE g Q q F' s/\s.k=0/\(∀i r,g.rules[i]?=some r->r.left=g.start->(⟨i,0,0⟩:Item)∈s.last)/\∀x∈s.last,dU g.rules (LS s) s.k x:=
 (zj F g hg hgl hQ hst hr).mono λ_ _ _ _ ⟨B',h1,q,s,h2,h3,h4,h5,h6,h7,_⟩=>⟨B',h1,q,s,h2,h3,h4,h5,h6,h7⟩
theorem Il{F:ar}{i n:Nat}(z:Bool):dC cd F (some ⟨i,0,none⟩) n (bif n==0 then 0 else 1) [(i,.cells false (List.replicate n (.bool z)))] (List.replicate n z):=by
 refine⟨by simp,?_,λh=>?_,λh=>(by cases h),λp hp=>(by cases hp;rfl),.inr ⟨i,_,rfl,rfl,?_,by decide⟩⟩
 ·cases n<;>simp[cd]
 ·cases n with
  | zero=>rfl
  | succ n=>simp at h
 ·induction n with
  | zero=>exact .nil
  | succ n ih=>
   rw[TE,TE];exact aF.cons (R:=cd) (l:=[.bool z]) rfl ih
structure NB where
 xs:List Bool
 B:List (Nat×aD)
theorem NW{p:Prop} (h:p:=by
 refine AW.seq (AW.du ?_);refine WT.cC Z Z Z Z Z Z (λi2 hi2=>?_);refine au ?_;refine WT.split 7 Z (λhty=>?_) (λhty=>?_)
 ·have hty:y.term=false:=by simpa using hty
  have hyn:y.n<E.length:=by rcases hy with h | h;rw[hty] at h;cases h;exact h
  refine au ?_;refine WT.bG hT hE Z Z Z Z Z Z Z Z Z hyn (λz hz b3 off3 ro3 cs3 lx3 hb3 hp3 hrel3=>?_);obtain rfl:lx3=_:=hrel3;refine au ?_;refine AW.ret ⟨_,[],⟨_,_,rfl,rfl,rfl⟩,bU,rfl,?_⟩;rw[hty,BY,hz];rfl
 ·have hty:y.term=true:=by simpa using hty
  refine au ?_;refine AW.ret ⟨_,[],⟨_,_,rfl,rfl,rfl⟩,bU,rfl,?_⟩;rw[hty];rfl):p:=h
theorem BU(F:ar){ie:Nat}{ro:Bool}{ea:Option Addr}{en ec:Nat}{E:List Bool}(hi:F ie=some (.cells ro [.slice ea en ec]))(hE:bw cd F ea en ec E)(y:Sym)(hy:y.term=true\/y.n<E.length) :
  Abs.Spec CC 56 [.agg ⟨[.bool y.term,.int .i64 y.n]⟩,.pointer (some ⟨ie,0,none⟩)] F [] λ_ v o=>o=[]/\v=.bool (!y.term&&!(E.getD y.n false)):=by
 have hEl:=hE.len;refine Abs.Spec.fn (n:=15) Tryz.func56 rfl rfl λown=>?_;exact NW
theorem DH(F:ar){ie:Nat}{ro:Bool}{ea:Option Addr}{en ec:Nat}{E:List Bool}(hi:F ie=some (.cells ro [.slice ea en ec]))(hE:bw cd F ea en ec E)(r:bz)(hr:∀y∈r.right,y.term=true\/y.n<E.length){b:Option Addr}{n d:Nat}(hb:bw fh F b n d r.right)(hn:n<=1000000) :
  Abs.Spec CC 54 [.agg ⟨[.int .i64 r.left,.slice b n d]⟩,.pointer (some ⟨ie,0,none⟩)] F [] λ_ v o=>o=[]/\v=.bool (r.right.any λy=>!y.term&&!(E.getD y.n false)):=by
 refine Abs.Spec.fn (n:=8) Tryz.func54 rfl rfl λown=>?_;refine AW.seq (AW.du ?_);refine WT.cC Z Z Z Z Z Z (λi2 hi2=>?_);refine au ?_;refine WT.bN Tryz.func55 Z Z Z Z Z Z (nz _ hb hn (λy=>!y.term&&!(E.getD y.n false)) (first:=[]) (capt:=[.pointer (some ⟨ie,0,none⟩)]) Tryz.func56 Z (λy hy=>BU _ hi hE y (hr y hy))) (λv hv=>?_)
 subst hv;refine au ?_;exact AW.ret ⟨_,[],⟨_,_,rfl,rfl,rfl⟩,bU,rfl,rfl⟩
def QI(g:af):Nat->Item->Prop:=λk x=>kR g.rules k x
theorem gI{rs:List bz}{x:Item}{y:Sym}(h:bg rs x=some y):∃r,rs[x.aA]?=some r/\r.right[x.dot]?=some y:=by
 unfold bg at h;cases hr:rs[x.aA]? with
 | none=>rw[hr] at h;cases h
 | some r=>rw[hr] at h;exact⟨r,rfl,h⟩
theorem Mf(g:af):yU g (QI g) where
 ok:=λ_ _ h=>h
 yP:=λk x n i r _ _ hr _=>⟨r,hr,RC _,AS _⟩
 complete:=λk x y r hx hr hd hy hn=>by
  obtain⟨ry,h1,h2,h3⟩:=hy;obtain⟨r',h4,h5⟩:=gI hn;rw[h1] at h4;obtain rfl:=AT h4;obtain⟨_,_,_,h6⟩:=hx;have:=(gS h5).1;exact⟨ry,h1,by show y.dot+1<=_;omega,by show y.gU<=k;omega⟩
theorem Kh(g:af)(k t:Nat):∀x,QI g k x->bg g.rules x=some ⟨true,t⟩->QI g (k+1) (cF x):=λx hx hn=>by
 obtain⟨rx,h1,h2,h3⟩:=hx;obtain⟨r',h4,h5⟩:=gI hn;rw[h1] at h4;obtain rfl:=AT h4;have:=(gS h5).1;exact⟨rx,h1,by show x.dot+1<=_;omega,by show x.gU<=k+1;omega⟩
structure Po where
 fi:Nat
 ga:Option Addr
 gm:Nat
 gc:Nat
 q:uq
 s:oS
 wa:Option Addr
 wn:Nat
 wc:Nat
 BW:List (Nat×aD)
 w:List Nat
 E:List Bool
structure MK(g:af)(F:ar)(f:Po):Prop where
 rules:bw bK F f.ga f.gm f.gc g.rules
 ends:pT g f.E
 ri:pE (trimmed f.E g) (QI (trimmed f.E g)) f.q F f.s
 k:f.s.k=f.w.length
 jo:ui (trimmed f.E g) f.w (LS f.s)
 word:dy eS F f.wa f.wn f.wc f.BW f.w
 ok:∀t∈f.w,t<g.ae
theorem MK.mono{g:af}{F G:ar}{f:Po}(h:MK g F f)(hF:ar.le F G):MK g G f:=⟨h.rules.mono hF,h.ends,h.ri.mono hF,h.k,h.jo,h.word.mono hF,h.ok⟩
theorem kl{g:af}(hg:Valid g)(E:List Bool):∀r∈(trimmed E g).rules,r.right.length<=4:=λr hr=>(hg.right r (Ra.1 hr).1).2.1
theorem uN{g:af}(hg:Valid g)(E:List Bool):(trimmed E g).rules.length<=32:=AI (S9 _ _) hg.range.rules
theorem Ih{g:af}(hg:Valid g)(E:List Bool):∀r∈(trimmed E g).rules,∀y∈r.right,bZ (trimmed E g).ae (trimmed E g).ak y:=λr hr=>(hg.right r (Ra.1 hr).1).2.2
structure Pw(g:af)(f:Po)(xs:List Bool):Prop where
 len:xs.length=g.ae+1
 term:∀t,t<g.ae->(xs[t]?=some true↔∃x∈f.s.last,bg (trimmed f.E g).rules x=some ⟨true,t⟩)
 done:xs[g.ae]?=some (oQ g f.w g.start 0 f.w.length)
theorem dC.J3{F G:ar}{a:Option Addr}{n c:Nat}{B:List (Nat×aD)}{xs:List Bool}(h:dC cd F a n c B xs):dC cd G a n c B xs:=by
 have cells:∀{cs:List Value} {xs:List Bool},aF cd F cs xs->aF cd G cs xs:=by
  intro cs xs h
  induction h with
  | nil=>exact .nil
  | cons h1 _ ih=>exact .cons h1 ih
 exact⟨h.len,h.cap,h.zero,h.nil,h.spot,h.el.imp id λ⟨i,cs,h1,h2,h3,h4⟩=>⟨i,cs,h1,h2,cells h3,h4⟩⟩
theorem Dg(F:ar){ic n sc lc:Nat}{x0 x1 x2 x3:Value}{sa la:Option Addr}{BS BL:List (Nat×aD)}{vs us:List Value}(hs:GB iC F sa n sc BS vs)(hl:GB iC F la n lc BL us)(hn:n<=1000)
  (ho:Go.Abs.one x0=true/\Go.Abs.one x1=true/\Go.Abs.one x2=true/\Go.Abs.one x3=true) :
  Abs.Spec CC 110 [.pointer (some ⟨ic,0,none⟩)] F [(ic,.cells false [x0,x1,x2,x3,.slice sa n sc,.slice la n lc])::(BS++BL)] λF' v o=>
   ∃B',o=[B']/\∃sa' sc' la' lc' BS' BL' im,dy iC F' sa' (n+1) sc' BS' (vs++[.map (some im)])/\dy iC F' la' (n+1) lc' BL' (us++[.slice none 0 0])/\
    B'=(ic,.cells false [x0,x1,x2,x3,.slice sa' (n+1) sc',.slice la' (n+1) lc'])::(BS'++(BL'++[(im,.map [])])):=by
 have hsl:=hs.len;have hll:=hl.len;refine Abs.Spec.fn (n:=21) Tryz.func110 rfl rfl λown=>?_;refine AW.le (own2:=[(ic,.cells false [x0,x1,x2,x3,.slice sa n sc,.slice la n lc])]::BS::BL::own) (ah.flat (Ss (by simp))) ?_;refine AW.draw (ps:=[(5,6),(5,7),(5,13),(12,6),(12,7),(12,8),(12,13)]) Z Z ?_;refine au ?_;refine WT.makeMap Z Z Z Z (λim him=>?_);refine WT.bd hT Z Z Z Z Z Z Z Z Z Z Z Z Z Z (λi9 hi9=>?_)
 refine WT.zm (ys:=[.map (some im)]) hT 3 hs Z (λ_=>rfl) Z Z Z Z Z Z Z Z Z Z Z (λh0 s0=>bh hT s0 0 Z Z Z Z) (aF.single (R:=iC) (x:=.map (some im)) ⟨rfl,rfl⟩) Z (by decide) kq (λsa' sc' BS' hBS'=>?_);refine dA ?_;refine WT.bd hT Z Z Z Z Z Z Z Z Z Z Z Z Z Z (λi15 hi15=>?_);refine WT.zm (ys:=[.slice none 0 0]) hT 5 hl Z (λ_=>rfl) Z Z Z Z Z Z Z Z Z Z Z (λh0 s0=>bh hT s0 0 Z Z Z Z) (aF.single (R:=iC) (x:=.slice none 0 0) ⟨rfl,rfl⟩) Z (by decide) kq (λla' lc' BL' hBL'=>?_)
 refine WT.le (own2:=((ic,.cells false [x0,x1,x2,x3,.slice sa n sc,.slice la n lc])::(BS'++(BL'++[(im,.map [])])))::own) (ah.skip _ (ah.skip _ (Ea _ _ _ _ _))) ?_;refine dA ?_;refine⟨oF,?_⟩;exact⟨_,[_],rfl,bU,_,rfl,sa',sc',la',lc',BS',BL',im,hBS',hBL',rfl⟩
structure Je where
 k:Nat
 lists:List (List Item)
 sa:Option Addr
 sc:Nat
 BS:List (Nat×aD)
 vs:List Value
 la:Option Addr
 lc:Nat
 BL:List (Nat×aD)
 us:List Value
def E3(g:af)(q:uq)(s:Je):List Value:=[.int .i64 g.ae,.int .i64 g.ak,.int .i64 g.start,.slice q.ra q.rm q.rc,.slice s.sa (s.k+1) s.sc,.slice s.la (s.k+1) s.lc]
def Mz(g:af)(q:uq)(s:Je):List (Nat×aD):=(q.ic,.cells false (E3 g q s))::(s.BS++s.BL)
structure H9(g:af)(Q:Nat->Item->Prop)(q:uq)(F:ar)(s:Je):Prop where
 rules:bw bK F q.ra q.rm q.rc g.rules
 jo:GB iC F s.sa (s.k+1) s.sc s.BS s.vs
 list:GB iC F s.la (s.k+1) s.lc s.BL s.us
 len:s.lists.length=s.k+1
 xl:∀(j:Nat) (l:List Item),s.lists[j]?=some l->∃a n c,s.us[j]?=some (.slice a n c)/\bw kA F a n c l
 all:∀(j:Nat) (l:List Item),s.lists[j]?=some l->∀x∈l,Q j x
 small:s.k<=20
 xh:∀(j:Nat) (l:List Item),s.lists[j]?=some l->l.length<=3360
 nd:∀(j:Nat) (l:List Item),s.lists[j]?=some l->l.Nodup
theorem H9.mono{g:af}{Q:Nat->Item->Prop}{q:uq}{F G:ar}{s:Je}(h:H9 g Q q F s)(hF:ar.le F G):H9 g Q q G s:=
 ⟨h.rules.mono hF,h.jo.mono hF,h.list.mono hF,h.len,λj l hj=>by obtain⟨a,n,c,h1,h2⟩:=h.xl j l hj;exact⟨a,n,c,h1,h2.mono hF⟩,h.all,h.small,h.xh,h.nd⟩
theorem H9.weaken{g:af}{Q Q':Nat->Item->Prop}{q:uq}{F:ar}{s:Je}(h:H9 g Q q F s)(hQ:∀k x,k<=s.k->Q k x->Q' k x):H9 g Q' q F s:=
 ⟨h.rules,h.jo,h.list,h.len,h.xl,λj l hj x hx=>hQ j x (by have:=(gS hj).1;have:=h.len;omega) (h.all j l hj x hx),h.small,h.xh,h.nd⟩
def LZ(s:Je):Nat->List Item:=λj=>s.lists.getD j []
def jr(s:oS):Je:=⟨s.k,s.cw++[s.last],s.sa,s.sc,s.BS,s.vs++[.map (some s.im)],s.la,s.lc,s.BL,s.us++[.slice s.xa s.xn s.xc]⟩
theorem pE.rest{g:af}{Q:Nat->Item->Prop}{q:uq}{F G:ar}{s:oS}(h:pE g Q q F s)(hfew:s.last.length<=3360)(hG:ar.le F G)(hB:∀i b,(i,b)∈s.BX->G i=some b):H9 g Q q G (jr s):=by
 have hol:=h.CD;have hul:=h.Nr;have hpass:∀j l,(s.cw++[s.last])[j]?=some l->s.cw[j]?=some l\/(j=s.k/\l=s.last):=by
  intro j l hj;rcases Rw j s.cw.length with h1 | h1
  ·rw[Rj h1] at hj;exact .inl hj
  ·rw[Rs h1] at hj;have:=(gS hj).1;simp at this;have e:j-s.cw.length=0:=by omega
   rw[e] at hj;exact .inr ⟨by omega,by simpa using hj.symm⟩
 refine⟨h.rules.mono hG,(h.jo.mono hG).gb,(h.list.mono hG).gb,by simp[jr,hol],λj l hj=>?_,λj l hj x hx=>?_,h.small,λj l hj=>?_,λj l hj=>?_⟩
 ·rcases hpass j l hj with h1 | ⟨rfl,rfl⟩
  ·obtain⟨a,n,c,h2,h3⟩:=h.xl j l h1;exact⟨a,n,c,by show (s.us++[_])[j]?=_;rw[Rj (gS h2).1];exact h2,h3.mono hG⟩
  ·exact⟨_,_,_,h.uk,h.last.frozen hG hB⟩
 ·rcases hpass j l hj with h1 | ⟨rfl,rfl⟩
  ·exact h.K3 j l h1 x hx
  ·exact h.wL x hx
 ·rcases hpass j l hj with h1 | ⟨rfl,rfl⟩
  ·exact h.xh j l h1
  ·exact hfew
 ·rcases hpass j l hj with h1 | ⟨rfl,rfl⟩
  ·exact h.H7 j l h1
  ·exact h.nodup
theorem yH{s:oS}(hol:s.cw.length=s.k):LZ (jr s)=LS s:=by
 funext j;unfold LZ LS jr;show (s.cw++[s.last]).getD j []=_;rw[BY];by_cases h:j=s.k
 ·rw[If h,Rs zo,show j-s.cw.length=0 by omega];rfl
 ·rw[By h,BY];rcases Rw j s.k with h1 | h1
  ·rw[Rj zo]
  ·rw[Ry (by simp;omega),Ry zo]
theorem BP{g:af}{q:uq}{s:oS}(own:a6):ah (Mz g q (jr s)::s.BX::own) (cB g q s::own):=H8 _ _ _ _ _ _
theorem Av(G:ar)(g:af)(hg:∀r∈g.rules,r.right.length<=4)(hgt:g.ae<=1000)(hsym:∀r∈g.rules,∀y∈r.right,bZ g.ae g.ak y){ic rm rc sc lc k xn xc:Nat}{ra sa la xa:Option Addr}{us:List Value}{last:List Item}
  (hic:G ic=some (.cells false [.int .i64 g.ae,.int .i64 g.ak,.int .i64 g.start,.slice ra rm rc,.slice sa (k+1) sc,.slice la (k+1) lc])) (hr:bw bK G ra rm rc g.rules) (hla:bw iC G la (k+1) lc us) (huk:us[k]?=some (.slice xa xn xc)) (hxa:bw kA G xa xn xc last) (hok:∀x∈last,kR g.rules k x) (hfew:last.length<=3360) (hsm:k<=20) :
  Abs.Spec CC 60 [.pointer (some ⟨ic,0,none⟩)] G [] λF' v o=>
   ∃B',o=[B']/\∃a' c' xs,v=.slice a' g.ae c'/\dC cd F' a' g.ae c' B' xs/\∀t,t<g.ae->(xs[t]?=some true↔∃x∈last,bg g.rules x=some ⟨true,t⟩):=by
 have hxl:=hxa.len;have hlal:=hla.len;refine Abs.Spec.fn (n:=48) Tryz.func60 rfl rfl λown=>?_;refine au ?_;refine WT.nD (by_:=1) hT Z Z Z Z Z Z Z Z Z Z Z Z zo (λio hio=>?_);have hv0:=Il (F:=G) (i:=io) (n:=g.ae) false;refine au ?_;refine WT.iE (v':=.int .i64 (k:Nat)) 23 Z (by congr 1;omega) ?_;refine WT.bG hT hla Z Z Z Z Z Z Z Z Z zo (λv hv b off ro cs lx hb1 hp1 hrel=>?_);obtain rfl:v=.slice xa xn xc:=by rw[huk] at hv;exact(AT hv).symm
 obtain⟨rfl,_⟩:=hrel;refine au ?_;refine AW.range (S:=NB) (λ_=>[]) (λu=>u.B::own)
  (λj u F=>dC cd F (some ⟨io,0,none⟩) g.ae (bif g.ae==0 then 0 else 1) u.B u.xs/\∀t,t<g.ae->(u.xs[t]?=some true↔∃x∈last.take j,bg g.rules x=some ⟨true,t⟩)) xn ⟨_,_⟩
  Z Z Z Z Z Z Z Z Z zo rfl rfl (λ_=>rfl) (λ_=>rfl) sM oR ⟨hv0,λt ht=>?_⟩ ?_ ?_
 ·simp[Sp]
 ·intro j u F1 hF1 hj hP;obtain⟨hv,hin⟩:=hP;have hxa1:=hxa.mono hF1;have hrules:=hr.mono hF1;have hic1:=hF1 _ _ hic;refine dA ?_;refine WT.bG hT hxa1 Z Z Z Z Z Z Z Z Z zo (λy hyj b7 off7 ro7 cs7 lx7 hb7 hp7 hrel7=>?_);obtain rfl:lx7=_:=hrel7;have hyok:=hok y (gM hyj);have htk:last.take (j+1)=last.take j++[y]:=by rw[Rk,hyj];rfl
  refine dA ?_;refine WT.aI hT Z Z Z Z Z Z (λi5 hi5=>?_);refine dA ?_;refine WT.bN Tryz.func114 Z Z Z Z Z Z (mG F1 g hg (q:=⟨ic,ra,rm,rc⟩) (s:=⟨k,[],[],sa,sc,[],[],la,lc,[],[],0,[],none,0,0,[]⟩) hic1 hrules hyok) (λv hv'=>?_);rcases hv' with ⟨hno2,_,rfl⟩ | ⟨z,hzn,rfl⟩
  ·refine dA ?_;refine WT.aI hT Z Z Z Z Z Z (λi6 hi6=>?_);refine dA ?_;refine AW.cond Z (λh=>(by cases h)) (λ_=>?_);refine dA ?_;refine⟨u,sM,cy,hv,λt ht=>?_⟩;rw[hin t ht,htk];simp[hno2]
  ·have hzt:z.term=true->z.n<g.ae:=λhzt=>by
    unfold bg at hzn;cases hr:g.rules[y.aA]? with
    | none=>rw[hr] at hzn;cases hzn
    | some r=>
     rw[hr] at hzn;have:=hsym r (gM hr) z (gM (show r.right[y.dot]?=some z from hzn));rw[bZ,If hzt] at this;exact this
   refine dA ?_;refine WT.aI hT Z Z Z Z Z Z (λi6 hi6=>?_);refine dA ?_;refine AW.cond Z (λhc=>?_) (λhc=>?_)
   ·have hc:z.term=true:=hc;have hzn':bg g.rules y=some ⟨true,z.n⟩:=by rw[hzn];cases z;simp only at hc;rw[hc]
    have hlt:=hzt hc;have hvl:=hv.len;obtain⟨w,hw⟩:∃w,u.xs[z.n]?=some w:=⟨_,gE zo⟩;refine dA ?_;refine WT.be hT hv Z Z Z Z Z Z Z Z Z hlt (λb5 hb5=>?_);refine WT.oY (y:=true) hT 2 hv hb5 hw Z Z Z Z Z Z Z (λ_=>rfl) Z (λB6 hB6=>?_);refine dA ?_;refine⟨⟨u.xs.set z.n true,B6⟩,sM,cy,hB6,λt ht=>?_⟩;show (u.xs.set z.n true)[t]?=some true↔_;rw[htk];by_cases e:t=z.n
    ·subst e;rw[RA zo];simp only[true_iff];exact⟨y,by simp,hzn'⟩
    ·rw[RO (λh=>e h.symm),hin t ht];constructor
     ·rintro⟨x,hx,hn⟩;exact⟨x,R6 _ hx,hn⟩
     ·rintro⟨x,hx,hn⟩;rcases Rx.1 hx with hx | hx
      ·exact⟨x,hx,hn⟩
      ·simp at hx;subst hx;rw[hzn'] at hn;injection hn with hn;injection hn with _ hn;exact absurd hn.symm e
   ·have hc:z.term=false:=hc;refine dA ?_;refine⟨u,sM,cy,hv,λt ht=>?_⟩;rw[hin t ht,htk];constructor
    ·rintro⟨x,hx,hn⟩;exact⟨x,R6 _ hx,hn⟩
    ·rintro⟨x,hx,hn⟩;rcases Rx.1 hx with hx | hx
     ·exact⟨x,hx,hn⟩
     ·simp at hx;subst hx;rw[hzn] at hn;injection hn with hn;rw[hn] at hc;cases hc
 ·intro u F1 hF1 hP;obtain⟨hv,hin⟩:=hP;rw[No zo] at hin;refine dA ?_;exact AW.ret ⟨_,[_],⟨_,_,rfl,rfl,rfl⟩,bU,_,rfl,_,_,u.xs,rfl,hv,hin⟩
theorem C3(F:ar)(g:af)(hg:∀r∈g.rules,r.right.length<=4)(hgl:g.rules.length<=32){Q:Nat->Item->Prop}(hQ:yU g Q){q:uq}{s:Je}(h:H9 g Q q F s)(hk:s.k<20)(t:Nat)
  (hsc:∀x,Q s.k x->bg g.rules x=some ⟨true,t⟩->Q (s.k+1) (cF x)) :
  Abs.Spec CC 61 [.pointer (some ⟨q.ic,0,none⟩),.int .i64 t] F [Mz g q s] λF' v o=>
   ∃B',o=[B']/\∃s',B'=Mz g q s'/\H9 g Q q F' s'/\s'.k=s.k+1/\∃last new,s.lists[s.k]?=some last/\s'.lists=s.lists++[new]/\(∀x∈last,bg g.rules x=some ⟨true,t⟩->cF x∈new)/\∀x∈new,dU g.rules (LZ s') s'.k x:=by
 have hll:=h.len;obtain⟨last,hlast⟩:∃l,s.lists[s.k]?=some l:=⟨_,gE zo⟩;obtain⟨xa,xn,xc,huk,hxa⟩:=h.xl _ _ hlast;have hall:=h.all _ _ hlast;have hxl:=hxa.len;have hlen:=h.xh _ _ hlast;have hul:=h.list.len;have hvl:=h.jo.len;have hsets:=h.jo;have hlist:=h.list;have holds:=h.xl;have hallq:=h.all;have holen:=h.xh;have hnd:=h.nd;have hrules:=h.rules;clear h;obtain⟨k,lists,sa,sc,BS,vs,la,lc,BL,us⟩:=s;have hll:lists.length=k+1:=hll;have hk:k<20:=hk;have hlast:lists[k]?=some last:=hlast;have huk:us[k]?=some (.slice xa xn xc):=huk;have hul:k+1=us.length:=hul;have hvl:k+1=vs.length:=hvl
 have hlist:GB iC F la (k+1) lc BL us:=hlist;have hsets:GB iC F sa (k+1) sc BS vs:=hsets;have hsc:∀x,Q k x->bg g.rules x=some ⟨true,t⟩->Q (k+1) (cF x):=hsc;have holds:∀(j:Nat) (l:List Item),lists[j]?=some l->∃a n c,us[j]?=some (.slice a n c)/\bw kA F a n c l:=holds;have hall:∀x∈last,Q k x:=hall;rcases hlist.at_ with ⟨e0,_⟩ | ⟨il,cs,rst,e1,e2,e3,e4,_⟩
 ·rw[e0] at hul;simp at hul
 have e5:=sf e4;have e2:lc=1:=e2;subst e1 e2 e5;unfold Mz E3;refine Abs.Spec.fn (n:=55) Tryz.func61 rfl rfl λown=>?_;refine AW.seq (AW.draw (ps:=[]) Z Z ?_);refine au ?_;refine WT.iE (v':=.int .i64 (k:Nat)) 18 Z (by congr 1;simp) ?_;refine WT.dL (j:=k) (s:=1) hT Z Z Z Z Z Z Z Z Z (SK _) ?_;refine WT.loadAt hT 0 Z Z Z Z Z Z (show (il,aD.cells false (cs++rst))∈_ by simp[e3]) Z Z (v:=.slice xa xn xc) (by rw[Rn,RQ,Rj zo];exact huk) ?_;refine au ?_
 refine WT.bW 0 Tryz.func110 Z Z Z Z Z Z Z (λ_=>rfl) (Dg F (ic:=q.ic) hsets hlist zo ⟨rfl,rfl,rfl,rfl⟩) (λF2 v B2 hF2 hv=>?_);obtain⟨sa',sc',la',lc',BS',BL',im,hs2,hl2,rfl⟩:=hv;have hold2:=hxa.mono hF2;have h0:pE g Q q F2 ⟨k+1,lists,[],sa',sc',BS',vs,la',lc',BL',cs,im,[],none,0,0,[]⟩:=
  ⟨hrules.mono hF2,hs2,hl2,hul.symm,hll,λj l hj=>by obtain⟨a,n,c,h1,h2⟩:=holds j l hj;exact⟨a,n,c,h1,h2.mono hF2⟩,λy=>by simp[Abs.look],dy.gq _ _,Te,hallq,λx h=>by simp at h,by dsimp only;omega,holen,hnd⟩
 refine au ?_;refine AW.range (S:=oS) (λ_=>[]) (λu=>cB g q u::own)
  (λj u G=>pE g Q q G u/\cT ⟨k+1,lists,[],sa',sc',BS',vs,la',lc',BL',cs,im,[],none,0,0,[]⟩ u (λ_=>True)/\∀y∈last.take j,bg g.rules y=some ⟨true,t⟩->cF y∈u.last) xn
  ⟨k+1,lists,[],sa',sc',BS',vs,la',lc',BL',cs,im,[],none,0,0,[]⟩
  Z Z Z Z Z Z Z Z Z zo rfl rfl (λ_=>rfl) (λ_=>rfl) sM oR ⟨h0,cT.refl _ _,λy hy=>by simp at hy⟩ ?_ ?_
 ·intro j u F4 hF4 hj hP4;obtain⟨hu,hgu,hin⟩:=hP4;have hku:u.k=k+1:=hgu.k;have hya4:=hold2.mono hF4;have hfew4:=hu.m5 hg hgl hQ;refine dA ?_;refine WT.bG hT hya4 Z Z Z Z Z Z Z Z Z zo (λy hyj b7 off7 ro7 cs7 lx7 hb7 hp7 hrel7=>?_);obtain rfl:lx7=_:=hrel7;have hQy:=hall y (gM hyj);have hyok:=hQ.ok _ _ hQy;have next:∀w:oS,cT u w (λ_=>True)->(bg g.rules y=some ⟨true,t⟩->cF y∈w.last)->∀z∈last.take (j+1),bg g.rules z=some ⟨true,t⟩->cF z∈w.last:=by
   intro w hw h1 z hz hn;rw[Rk,hyj] at hz;rcases Rx.1 hz with hz | hz
   ·exact hw.mem (hin z hz hn)
   ·simp at hz;subst hz;exact h1 hn
  refine dA ?_;refine WT.aI hT Z Z Z Z Z Z (λi9 hi9=>?_);refine dA ?_;refine WT.eK 1 Tryz.func114 Z Z Z Z Z Z Z (λG hG hBG=>mG G g hg (hBG _ _ me) (hu.rules.mono hG) hyok) (λv hv=>?_);rcases hv with ⟨hno2,_,rfl⟩ | ⟨z,hzn,rfl⟩
  ·refine dA ?_;refine WT.aI hT Z Z Z Z Z Z (λi10 hi10=>?_);refine dA ?_;refine AW.draw (ps:=[(2,4)]) Z Z ?_;refine dA ?_;refine⟨oF,?_⟩;refine AW.cond Z (λh=>(by cases h)) (λ_=>?_);refine dA ?_;exact⟨u,sM,cy,hu,hgu,next u (cT.refl _ _) (λh=>by rw[hno2] at h;cases h)⟩
  ·refine dA ?_;refine WT.aI hT Z Z Z Z Z Z (λi10 hi10=>?_);refine dA ?_;refine AW.draw (ps:=[(2,4)]) Z Z ?_;refine dA ?_;refine WT.bN Tryz.func115 Z Z Z Z Z Z (EJ _ _) (λv hv=>?_);subst hv;refine dA ?_;refine⟨oF,?_⟩;refine AW.cond Z (λhc=>?_) (λhc=>?_)
   ·have hz:z=(⟨true,t⟩:Sym):=by
     have h1:=vM z ⟨true,t⟩;rw[show ((z.term==true)&&(((z.n:Int)==(t:Int))&&true))=true from hc] at h1;exact Sm h1.symm
    have hyd:y.dot<=4:=by
     obtain⟨ry,hy1,hy2,_⟩:=hyok;have:=hg ry (gM hy1);omega
    refine dA ?_;refine WT.iE (v':=.agg ⟨[.int .i64 (y.aA:Nat),.int .i64 ((y.dot+1:Nat):Int),.int .i64 (y.gU:Nat)]⟩) 50 Z (by simp) ?_;refine WT.bW 2 Tryz.func116 Z Z Z Z Z Z Z (λ_=>rfl) (sE _ g hu zo (cF y) (by rw[hku];exact hsc y hQy (by rw[hzn,hz]))) (λF5 v B5 hF5 hv=>?_);obtain⟨w,rfl,hw,hgw,hmem⟩:=hv;refine dA ?_;have hgw':=hgw.mono (P':=λ_=>True) (λ_ _=>trivial);exact⟨w,sM,cy,hw,hgu.trans hgw',next w hgw' (λ_=>hmem)⟩
   ·have hz:z≠(⟨true,t⟩:Sym):=by
     have h1:=vM z ⟨true,t⟩;rw[show ((z.term==true)&&(((z.n:Int)==(t:Int))&&true))=false from hc] at h1;exact TL h1.symm
    refine dA ?_;exact⟨u,sM,cy,hu,hgu,next u (cT.refl _ _) (λh=>by rw[hzn] at h;exact absurd (AT h) hz)⟩
 ·intro u F4 hF4 hP4;obtain⟨hu,hgu,hin⟩:=hP4;rw[No zo] at hin;refine dA ?_;refine WT.bW 0 Tryz.func112 Z Z Z Z Z Z Z (λ_=>rfl) (nZ _ g hg hgl hQ hu) (λF5 v B5 hF5 hv=>?_);obtain⟨w,rfl,hw,hgw,hcl⟩:=hv;have hfw:=hw.m5 hg hgl hQ;refine WT.le (BP _) ?_;refine WT.aw 1 Z Z (λF6 hF6 hB6=>?_);have hrest:=hw.rest zo hF6 hB6;refine WT.le (own2:=Mz g q (jr w)::own) (ah.flat (Ss (by simp))) ?_;refine dA ?_;have hwo:w.cw=lists:=hgw.cw.trans hgu.cw;have hwk:w.k=k+1:=hgw.k.trans hgu.k
  refine⟨_,[_],rfl,bU,_,rfl,jr w,rfl,hrest,hwk,last,w.last,hlast,?_,λx hx hn=>hgw.mem (hin x hx hn),?_⟩
  ·show w.cw++[w.last]=lists++[w.last];rw[hwo]
  ·rw[yH hw.CD];exact hcl
theorem ui.cut{g:af}{w:List Nat}{L:Nat->List Item}(h:ui g w L)(j:Nat):ui g (w.take j) L where
 ok:=λk hk=>h.ok k (by rw[RK] at hk;omega)
 start:=h.start
 closed:=λk hk=>h.closed k (by rw[RK] at hk;omega)
 scan:=λk t hk=>h.scan k t (by
  rw[RD] at hk;split at hk
  ·exact hk
  ·cases hk)
def QP(g:af)(w:List Nat):Nat->Item->Prop:=λk x=>kR g.rules k x/\(k<=w.length->∀L,ui g (w.take k) L->x∈L k)
theorem CX(g:af)(w:List Nat):yU g (QP g w) where
 ok:=λ_ _ h=>h.1
 yP:=λk x n i r hx hn hr hl=>⟨⟨r,hr,RC _,AS _⟩,λhk L hL=>(hL.closed k (by rw[RK];omega) x (hx.2 hk L hL)).1 n i r hn hr hl⟩
 complete:=λk x y r hx hr hd hy hn=>by
  refine⟨(Mf g).complete k x y r hx.1 hr hd hy.1 hn,λhk L hL=>?_⟩;obtain⟨_,_,_,hf⟩:=hx.1;refine(hL.closed k (by rw[RK];omega) x (hx.2 hk L hL)).2 r hr hd y ?_ hn;refine hy.2 zo L ?_;have:=hL.cut x.gU;rw[Uk,show min x.gU k=x.gU by omega] at this;exact this
theorem K9{g:af}{w:List Nat}{m:Nat}(hm:m=w.length)(t:Nat):∀k x,k<=m->QP g w k x->QP g (w++[t]) k x:=λk x hk hx=>
 ⟨hx.1,λ_ L hL=>hx.2 zo L (by rw[SO zo] at hL;exact hL)⟩
theorem K7{g:af}{w:List Nat}{m:Nat}(hm:m=w.length)(t:Nat):∀x,QP g (w++[t]) m x->bg g.rules x=some ⟨true,t⟩->QP g (w++[t]) (m+1) (cF x):=λx hx hn=>by
 subst hm;refine⟨Kh g _ t x hx.1 hn,λhk L hL=>?_⟩;rw[No (by simp)] at hL;refine hL.scan w.length t (by simp) x (hx.2 (by simp) L ?_) hn;exact hL.cut _
structure FZ where
 fi:Nat
 ga:Option Addr
 gm:Nat
 gc:Nat
 q:uq
 s:Je
 wa:Option Addr
 wn:Nat
 wc:Nat
 BW:List (Nat×aD)
 w:List Nat
 E:List Bool
def Hs(g:af)(f:FZ):List Value:=[.int .i64 g.ae,.int .i64 g.ak,.int .i64 g.start,.slice f.ga f.gm f.gc,.pointer (some ⟨f.q.ic,0,none⟩),.slice f.wa f.wn f.wc]
def zB(g:af)(f:FZ):List (Nat×aD):=(f.fi,.cells false (Hs g f))::(f.BW++Mz (trimmed f.E g) f.q f.s)
structure JK(g:af)(F:ar)(f:FZ):Prop where
 rules:bw bK F f.ga f.gm f.gc g.rules
 ends:pT g f.E
 ri:H9 (trimmed f.E g) (QP (trimmed f.E g) f.w) f.q F f.s
 k:f.s.k=f.w.length
 jo:ui (trimmed f.E g) f.w (LZ f.s)
 word:GB eS F f.wa f.wn f.wc f.BW f.w
 ok:∀t∈f.w,t<g.ae
theorem JK.mono{g:af}{F G:ar}{f:FZ}(h:JK g F f)(hF:ar.le F G):JK g G f:=⟨h.rules.mono hF,h.ends,h.ri.mono hF,h.k,h.jo,h.word.mono hF,h.ok⟩
structure PT(g:af)(f:FZ)(xs:List Bool):Prop where
 len:xs.length=g.ae+1
 term:∀t,t<g.ae->(xs[t]?=some true↔∃x∈LZ f.s f.s.k,bg (trimmed f.E g).rules x=some ⟨true,t⟩)
 done:xs[g.ae]?=some (oQ g f.w g.start 0 f.w.length)
theorem Ha(a:Nat×aD)(BW C:List (Nat×aD))(own:a6):ah ([a]::BW::C::own) ((a::(BW++C))::own):=ah.flat (Ss (by simp))
theorem xR(a:Nat×aD)(BW C:List (Nat×aD))(own:a6):ah ((a::(BW++C))::own) ([a]::BW::C::own):=ah.flat (Ss (by simp))
theorem Fy(F:ar)(g:af)(hg:Valid g){a:Option Addr}{m c:Nat}(hr:bw bK F a m c g.rules) :
  Abs.Spec CC 16 [.agg ⟨ai g a m c⟩] F [] λF' v o=>∃B',o=[B']/\∃f,v=.tuple ⟨[.pointer (some ⟨f.fi,0,none⟩),.int .i64 0]⟩/\B'=zB g f/\JK g F' f/\f.w=[]:=by
 have hrl:=hr.len;have hgr:=hg.range.rules;have hr4:∀r∈g.rules,r.right.length<=1000000:=λr h=>by have:=(hg.right r h).2.1;omega
 unfold ai;refine Abs.Spec.fn (n:=28) Tryz.func16 rfl rfl λown=>?_;refine AW.seq (AW.du ?_);refine WT.cC Z Z Z Z Z Z (λi1 hi1=>?_);refine au ?_;refine WT.dH Tryz.func51 Z Z Z Z Z Z (DY _ g hg hr) (λF1 v hF1 hv=>?_);obtain⟨ea,ec,E,rfl,hE,hEi⟩:=hv;have hr1:=hr.mono hF1;refine au ?_;refine WT.aI hT Z Z Z Z Z Z (λi4 hi4=>?_);refine au ?_;refine AW.cond Z (λh=>(by cases h)) (λ_=>?_);refine au ?_;refine WT.lC Tryz.func52 Z Z Z Z Z Z (x5 _ g hr1 zo hr4) (λF2 v B2 hF2 hv=>?_);obtain⟨ca,cc,rfl,hc⟩:=hv;have hr2:=hr1.mono hF2
 have hE2:=hE.mono hF2;unfold ai;refine WT.aI hT Z Z Z Z Z Z (λi6 hi6=>?_);refine dA ?_;refine WT.aw 2 Z Z (λF3 hF3 hB3=>?_);have hie:=hB3 i4 _ me;have hr3:=hr2.mono hF3;have hE3:=hE2.mono hF3
 refine WT.Es (oin:=[B2]) Tryz.func53 Z Z Z Z Z Z (uh F3 (hc.mono hF3) zo (λr=>r.right.any λy=>!y.term&&!(E.getD y.n false)) (first:=[]) (capt:=[.pointer (some ⟨i4,0,none⟩)]) Tryz.func54 Z (λG hG r hrg b n d hb=>DH G (hG _ _ hie) (hE3.mono hG) r (λy hy=>?_) hb (by have:=hb.len;have:=(hg.right r hrg).2.1;omega))) (List.Perm.swap _ _ _) (λF4 v oout hF4 hv=>?_)
 ·have:=(hg.right r hrg).2.2 y hy;unfold bZ at this;cases hty:y.term with
  | true=>exact .inl rfl
  | false=>rw[By (by simp[hty])] at this;rw[hEi.len];exact .inr this
 obtain⟨rfl,xa,xn,xc,rfl,hx⟩:=hv;have hr4':=hr3.mono hF4;refine dA ?_;refine AW.draw (ps:=[(2,1)]) Z Z ?_;refine dA ?_;refine WT.lC Tryz.func52 Z Z Z Z Z Z (x5 _ g hr4' zo hr4) (λF5 v B5 hF5 hv=>?_);obtain⟨da,dc,rfl,hd⟩:=hv;refine WT.aw 0 Z Z (λF6 hF6 hB6=>?_);have hd6:=hd.frozen hF6 hB6;have hx6:=(hx.mono hF5).mono hF6;unfold ai;refine dA ?_
 refine WT.lC Tryz.func57 Z Z Z Z Z Z (Ck F6 (trimmed E g) (kl hg E) (uN hg E) (CX (trimmed E g) []) (λi r hr' hl=>⟨⟨r,hr',RC _,AS _⟩,λ_ L hL=>hL.start i r hr' hl⟩) hx6) (λF7 v B7 hF7 hv=>?_);obtain⟨q,s,rfl,rfl,hs,hk,hin,hcl⟩:=hv;refine dA ?_;refine WT.cC Z Z Z Z Z Z (λfi hfi=>?_);refine dA ?_;refine⟨oF,?_⟩;have hfew:=hs.m5 (kl hg E) (uN hg E) (CX (trimmed E g) [])
 refine AW.le (own2:=zB g ⟨fi,da,m,dc,q,jr s,none,0,0,[],[],E⟩::s.BX::own) (ah.trans (b:=[(fi,.cells false (Hs g ⟨fi,da,m,dc,q,jr s,none,0,0,[],[],E⟩))]::cB (trimmed E g) q s::own) (ah.trans (ah.flat (Ss (by simp[zB]))) (ah.cons _ (BP (g:=trimmed E g) (q:=q) (s:=s) own))) (ah.cons _ (ah.cons _ cy))) ?_;refine AW.aw 1 Z Z (λF8 hF8 hB8=>?_);refine AW.le (own2:=zB g ⟨fi,da,m,dc,q,jr s,none,0,0,[],[],E⟩::own) (ah.flat (Ss (by simp))) ?_
 have hls:LZ (jr s) 0=s.last:=by rw[yH hs.CD];unfold LS;rw[If hk.symm]
 refine AW.ret ⟨_,[_],⟨_,_,rfl,⟨_,_,rfl,rfl,rfl⟩,rfl⟩,bU,_,rfl,⟨fi,da,m,dc,q,jr s,none,0,0,[],[],E⟩,rfl,rfl,⟨(hd6.mono hF7).mono hF8,hEi,hs.rest zo hF8 hB8,hk,⟨?_,?_,?_,?_⟩,(dy.gq _ _).gb,λt h=>by cases h⟩,rfl⟩
 ·intro k hk0 x hx;obtain rfl:k=0:=Nat.le_zero.1 hk0;rw[hls] at hx;have:=(hs.wL x hx).1;rw[hk] at this;exact this
 ·intro i r hr' hl;rw[hls];exact hin i r hr' hl
 ·intro k hk0 x hx;obtain rfl:k=0:=Nat.le_zero.1 hk0;rw[hls] at hx;have:=hcl x hx;rw[hk,<-yH hs.CD] at this;exact this
 ·intro k t h;simp at h
theorem yI(G:ar)(g:af)(hg:Valid g){f:FZ}(h:JK g G f)(hB:∀i b,(i,b)∈Mz (trimmed f.E g) f.q f.s->G i=some b) :
  Abs.Spec CC 60 [.pointer (some ⟨f.q.ic,0,none⟩)] G [] λF' v o=>
   ∃B',o=[B']/\∃a' c' xs,v=.slice a' g.ae c'/\dC cd F' a' g.ae c' B' xs/\∀t,t<g.ae->(xs[t]?=some true↔∃x∈LZ f.s f.s.k,bg (trimmed f.E g).rules x=some ⟨true,t⟩):=by
 have hgt:=hg.range.ae;have hc:=h.ri;have hll:=hc.len;obtain⟨last,hlast⟩:∃l,f.s.lists[f.s.k]?=some l:=⟨_,gE zo⟩;obtain⟨xa,xn,xc,huk,hxa⟩:=hc.xl _ _ hlast;have e:LZ f.s f.s.k=last:=by unfold LZ;rw[BY,hlast];rfl
 rw[e];exact Av G (trimmed f.E g) (kl hg _) (by show g.ae<=1000;omega) (Ih hg _) (hB _ _ me) hc.rules (hc.list.arr (ar.le.refl G) (λi b hb=>hB i b (I9 _ (R7 _ hb)))) huk hxa (λx hx=>(hc.all _ _ hlast x hx).1) (hc.xh _ _ hlast) hc.small
theorem Gg{g:af}{w:List Nat}{t:Nat}{s s':Je}{last new:List Item}(h:ui g w (LZ s))(hw:s.k=w.length)(hk:s'.k=s.k+1)(hlen:s.lists.length=s.k+1)(hlast:s.lists[s.k]?=some last)(ho:s'.lists=s.lists++[new])
  (hok:∀x∈new,kR g.rules (s.k+1) x) (hsc:∀x∈last,bg g.rules x=some ⟨true,t⟩->cF x∈new) (hcl:∀x∈new,dU g.rules (LZ s') s'.k x):ui g (w++[t]) (LZ s'):=by
 have hL:∀j,j<=s.k->LZ s' j=LZ s j:=λj hj=>by
  unfold LZ;rw[ho,BY,BY,Rj zo]
 have hN:LZ s' (s.k+1)=new:=by
  unfold LZ;rw[ho,BY,Rs zo,show s.k+1-s.lists.length=0 by omega];rfl
 have hS:LZ s s.k=last:=by unfold LZ;rw[BY,hlast];rfl
 refine⟨λk hk1 x hx=>?_,λi r hr hl=>?_,λk hk1 x hx=>?_,λk t' ht x hx hn=>?_⟩
 ·simp only[Rf,Sx] at hk1;rcases Rw k (s.k+1) with h1 | h1
  ·rw[hL k zo] at hx;exact h.ok k zo x hx
  ·obtain rfl:k=s.k+1:=by omega
   rw[hN] at hx;exact hok x hx
 ·rw[hL 0 (RC _)];exact h.start i r hr hl
 ·simp only[Rf,Sx] at hk1;rcases Rw k (s.k+1) with h1 | h1
  ·rw[hL k zo] at hx;obtain⟨c1,c2⟩:=h.closed k zo x hx;obtain⟨_,_,_,hf⟩:=h.ok k zo x hx;refine⟨λn i r hn hr hl=>?_,λr hr hd y hy hn=>?_⟩
   ·rw[hL k zo];exact c1 n i r hn hr hl
   ·rw[hL x.gU zo] at hy;rw[hL k zo];exact c2 r hr hd y hy hn
  ·obtain rfl:k=s.k+1:=by omega
   rw[hN] at hx;have:=hcl x hx;rw[hk] at this;exact this
 ·rcases Rw k w.length with h1 | h1
  ·rw[Rj h1] at ht;rw[hL k zo] at hx;have h2:=h.scan k t' ht x hx hn;rw[hL (k+1) zo];exact h2
  ·rw[Rs h1] at ht;have:=(gS ht).1;simp at this;have e:k=s.k:=by omega
   subst e;rw[hw,SV] at ht;obtain rfl:t=t':=by simpa using ht
   rw[hL _ (AS _),hS] at hx;rw[hN];exact hsc x hx hn
theorem Gh(F:ar)(g:af)(hg:Valid g){f:FZ}(h:JK g F f)(hw:f.w.length<12)(t:Nat)(ht:t<g.ae) :
  Abs.Spec CC 19 [.pointer (some ⟨f.fi,0,none⟩),.int .i64 t] F [zB g f] λF' v o=>∃B',o=[B']/\∃f',B'=zB g f'/\JK g F' f'/\f'.fi=f.fi/\f'.E=f.E/\
   (((∃x∈LZ f.s f.s.k,bg (trimmed f.E g).rules x=some ⟨true,t⟩)/\v=.int .i64 0/\f'.w=f.w++[t])\/((¬∃x∈LZ f.s f.s.k,bg (trimmed f.E g).rules x=some ⟨true,t⟩)/\v=.int .i64 10/\f'.w=f.w)):=by
 have hgt:=hg.range.ae;have hwl:=h.word.len;have hk:=h.k;refine Abs.Spec.fn (n:=47) Tryz.func19 rfl rfl λown=>?_;refine AW.le (Ha _ _ _ _) ?_;refine au ?_;refine AW.cond Z (λh=>(by simp at h;omega)) (λ_=>?_);refine au ?_;refine AW.cond Z (λh=>(by simp at h;omega)) (λ_=>?_);refine au ?_
 refine WT.sN (P:=λv B'=>∃a' c' xs,v=.slice a' g.ae c'/\dC cd F a' g.ae c' B' xs/\∀t,t<g.ae->(xs[t]?=some true↔∃x∈LZ f.s f.s.k,bg (trimmed f.E g).rules x=some ⟨true,t⟩)) 2 Tryz.func60 Z Z Z Z Z Z Z (λG hG hBG=>Spec.mono (yI G g hg (h.mono hG) hBG) (λF' v o _ hv=>by
  obtain⟨B',e,a2,c2,xs,e2,hv,hx⟩:=hv;exact⟨B',e,a2,c2,xs,e2,dC.J3 hv,hx⟩)) (λv BN hv=>?_)
 obtain⟨na,nc,xs,rfl,hv,hxs⟩:=hv;have hxl:xs.length=g.ae:=hv.len.symm;obtain⟨z,hz⟩:∃z,xs[t]?=some z:=⟨_,gE zo⟩;refine au ?_;refine WT.be hT hv Z Z Z Z Z Z Z Z Z ht (λb5 hb5=>?_);refine WT.C8 hT 0 hv hb5 hz Z Z Z Z Z Z Z Z Z (λl h=>h) ?_;refine au ?_;refine AW.cond Z (λhc=>?_) (λhc=>?_)
 ·have hc:z=false:=by simpa using hc
  have hno:¬∃x∈LZ f.s f.s.k,bg (trimmed f.E g).rules x=some ⟨true,t⟩:=by
   rw[<-hxs t ht,hz,hc];simp
  refine au ?_;refine AW.le (ah.skip _ (xR _ _ _ _)) ?_;exact AW.ret ⟨_,[_],⟨_,_,rfl,rfl,rfl⟩,bU,_,rfl,f,rfl,h,rfl,rfl,.inr ⟨hno,rfl,rfl⟩⟩
 ·have hc:z=true:=by simpa using hc
  have hyes:∃x∈LZ f.s f.s.k,bg (trimmed f.E g).rules x=some ⟨true,t⟩:=by
   rw[<-hxs t ht,hz,hc]
  refine au ?_;refine WT.bW 3 Tryz.func61 Z Z Z Z Z Z Z (λ_=>rfl) (C3 F (trimmed f.E g) (kl hg _) (uN hg _) (CX _ (f.w++[t])) (h.ri.weaken (K9 hk t)) zo t (K7 hk t)) (λF1 v B1 hF1 hv1=>?_);obtain⟨s',rfl,hs',hk',last,new,hlast,hold,hsc,hcl⟩:=hv1;refine au ?_;refine WT.bd hT Z Z Z Z Z Z Z Z Z Z Z Z Z Z (λi43 hi43=>?_);refine WT.zm (ys:=[t]) hT 3 (h.word.mono hF1) Z (λ_=>rfl) Z Z Z Z Z Z Z Z Z Z Z (λh0 s0=>bh hT s0 0 Z Z Z Z) (aF.single (R:=eS) (x:=t) rfl) Z (by decide) kq (λwa' wc' BW' hBW'=>?_);refine au ?_
  refine AW.le (ah.skip _ (ah.skip _ (xR _ _ _ _))) ?_;refine AW.ret ⟨_,[_],⟨_,_,rfl,rfl,rfl⟩,bU,_,rfl,{ f with s:=s',wa:=wa',wn:=f.wn+1,wc:=wc',BW:=BW',w:=f.w++[t] },rfl,⟨h.rules.mono hF1,h.ends,hs',?_,?_,hBW'.gb,?_⟩,rfl,rfl,.inl ⟨hyes,rfl,rfl⟩⟩
  ·show s'.k=(f.w++[t]).length;rw[hk',hk];simp
  ·exact Gg h.jo hk hk' h.ri.len hlast hold (λx hx=>(hs'.all _ _ (by rw[hold,Rs (by have:=h.ri.len;omega),show f.s.k+1-f.s.lists.length=0 by have:=h.ri.len;omega];rfl) x hx).1) hsc hcl
  ·intro t' ht';rcases Rx.1 ht' with h1 | h1
   ·exact h.ok t' h1
   ·simp at h1;subst h1;exact ht
theorem kD{g:af}{w:List Nat}{l2:List Sym}:∀{l:List Sym} {i m j:Nat},gH g w l i m->gH g w l2 m j->gH g w (l++l2) i j
 | [],i,m,j,h1,h2=>by rw[nt.1 h1];exact h2
 | a::l,i,m,j,h1,h2=>by
  obtain⟨p,h3,h4⟩:=lG.1 h1;exact .cons h3 (kD h4 h2)
def DW(g:af)(y:List Nat)(l:List Sym):Prop:=gH g y l 0 y.length
theorem DW.app{g:af}{y z:List Nat}{l m:List Sym}(h1:DW g y l)(h2:DW g z m):DW g (y++z) (l++m):=by
 have h3:=kZ (u:=[]) (v:=z) h1;have h4:=kZ (u:=y) (v:=[]) h2;simp only[SG,R0,TQ,Rn,SJ] at h3 h4;unfold DW;rw[Rf];exact kD h3 h4
theorem DW.one{g:af}{y:List Nat}{s:Sym}(h:iB g y s 0 y.length):DW g y [s]:=.cons h .nil
def P8(g:af)(v:List Nat)(k:Nat)(x:Item):Prop:=
 ∃r,g.rules[x.aA]?=some r/\x.dot<=r.right.length/\x.gU<=k/\gH g v (r.right.take x.dot) x.gU k/\∃z,∀y,DW g y (r.right.drop x.dot)->iB g (v.take k++(y++z)) ⟨false,g.start⟩ 0 (v.take k++(y++z)).length
theorem D8(g:af)(h4:∀r∈g.rules,r.right.length<=4)(P:Nat->Item->Prop)(hP:∀k x,P k x->kR g.rules k x):∃L:Nat->List Item,∀k x,x∈L k↔P k x:=by
 classical
 refine⟨λk=>((List.range g.rules.length).flatMap λi=>(List.range 5).flatMap λd=>(List.range (k+1)).map λf=>(⟨i,d,f⟩:Item)).filter λx=>decide (P k x),λk x=>?_⟩;simp only[Ra,SM,Rm,Rg,RS];constructor
 ·exact λh=>h.2
 ·intro h;obtain⟨r,h1,h2,h3⟩:=hP k x h;have h5:=h4 r (gM h1);exact⟨⟨x.aA,(gS h1).1,x.dot,by omega,x.gU,by omega,rfl⟩,h⟩
theorem G6{g:af}{v:List Nat}(hW:∀r∈g.rules,∀y∈r.right,y.term=true\/dp g y.n){L:Nat->List Item}(hL:∀k x,x∈L k↔P8 g v k x):ui g v L where
 ok:=λk _ x hx=>by
  obtain⟨r,h1,h2,h3,_⟩:=(hL k x).1 hx;exact⟨r,h1,h2,h3⟩
 start:=λi r hr hl=>(hL 0 _).2 ⟨r,hr,RC _,AS _,.nil,[],λy hy=>by
  rw[TV,SG,R0,<-hl];exact .ym (gM hr) hy⟩
 closed:=λk hk x hx=>by
  obtain⟨rx,h1,h2,h3,h4,z,hz⟩:=(hL k x).1 hx;refine⟨λn i r hn hr hl=>?_,λr hr hd y hy hn=>?_⟩
  ·obtain⟨r',h5,h6⟩:=gI hn;rw[h1] at h5;obtain rfl:=AT h5;have hdrop:rx.right.drop x.dot=⟨false,n⟩::rx.right.drop (x.dot+1):=Tf.trans (by rw[h6];rfl);obtain⟨u,hu⟩:=ia (g:=g) (rx.right.drop (x.dot+1)) (λy hy=>hW rx (gM h1) y (S2 hy));refine(hL k _).2 ⟨r,hr,RC _,AS _,.nil,u++z,λy hy=>?_⟩;have:=hz (y++u) (by
    rw[hdrop];exact DW.app (l:=[⟨false,n⟩]) (.one (by rw[<-hl];exact .ym (gM hr) hy)) hu)
   rw[RY] at this;exact this
  ·obtain⟨ry,g1,g2,g3,g4,zy,gz⟩:=(hL _ y).1 hy;obtain⟨r',h5,h6⟩:=gI hn;rw[g1] at h5;obtain rfl:=AT h5;rw[h1] at hr;obtain rfl:=AT hr;rw[hd,S1] at h4;have hder:iB g v ⟨false,rx.left⟩ x.gU k:=.ym (gM h1) h4;have hdrop:ry.right.drop y.dot=⟨false,rx.left⟩::ry.right.drop (y.dot+1):=Tf.trans (by rw[h6];rfl);have hlt:=(gS h6).1;refine(hL k _).2 ⟨ry,g1,by show y.dot+1<=_;omega,by show y.gU<=k;omega,?_,zy,λu hu=>?_⟩
   ·show gH g v (ry.right.take (y.dot+1)) y.gU k;rw[Rk,h6];exact kD g4 (.cons hder .nil)
   ·have hp:=A1 (a:=x.gU) (b:=k) hk hder (AS _) (AS _);have hlen:((v.take k).drop x.gU).length=k-x.gU:=by simp;omega
    have:=gz ((v.take k).drop x.gU++u) (by
     rw[hdrop];refine DW.app (l:=[⟨false,rx.left⟩]) (.one ?_) hu;rw[hlen,SV] at *;exact hp)
    rw[show v.take x.gU++((v.take k).drop x.gU++u++zy)=v.take k++(u++zy) by
     rw[RY,<-RY];congr 1;have:v.take x.gU=(v.take k).take x.gU:=by rw[Uk,Se h3]
     rw[this,Si]] at this
    exact this
 scan:=λk t ht x hx hn=>by
  obtain⟨rx,h1,h2,h3,h4,z,hz⟩:=(hL k x).1 hx;obtain⟨r',h5,h6⟩:=gI hn;rw[h1] at h5;obtain rfl:=AT h5;have hlt:=(gS h6).1;have hdrop:rx.right.drop x.dot=⟨true,t⟩::rx.right.drop (x.dot+1):=Tf.trans (by rw[h6];rfl);refine(hL _ _).2 ⟨rx,h1,by show x.dot+1<=_;omega,by show x.gU<=k+1;omega,?_,z,λy hy=>?_⟩
  ·show gH g v (rx.right.take (x.dot+1)) x.gU (k+1);rw[Rk,h6];exact kD h4 (.cons (.term ht) .nil)
  ·have:=hz ([t]++y) (by
    rw[hdrop];exact DW.app (l:=[⟨true,t⟩]) (.one (.term rfl)) hy)
   rw[show v.take (k+1)++(y++z)=v.take k++([t]++y++z) by rw[Rk,ht];simp];exact this
theorem CW{g:af}{E:List Bool}(hE:pT g E):∀r∈(trimmed E g).rules,∀y∈r.right,y.term=true\/dp (trimmed E g) y.n:=by
 intro r hr y hy;obtain⟨h1,h2⟩:=Ra.1 hr;rcases vP.1 h2 y hy with h3 | h3
 ·exact .inl h3
 ·obtain⟨w,hw⟩:=hE.iff.1 h3;exact .inr ⟨w,(ng hE.closed hw).1⟩
theorem xx{g:af}{E:List Bool}{w:List Nat}:∀{s:Sym} {i j:Nat},iB (trimmed E g) w s i j->iB g w s i j:=by
 intro s i j h;refine iB.rec (motive_1:=λs i j _=>iB g w s i j) (motive_2:=λl i j _=>gH g w l i j) ?_ ?_ ?_ ?_ h
 ·intro t i h;exact .term h
 ·intro r i j hr _ ih;exact .ym (Ra.1 hr).1 ih
 ·intro i;exact .nil
 ·intro s l i m j _ _ ih1 ih2;exact .cons ih1 ih2
theorem iB.tree{g:af}{w:List Nat}{s:Sym}{i j:Nat}(h:iB g w s i j):∃T,bj g w s T i j:=by
 refine iB.rec (motive_1:=λs i j _=>∃T,bj g w s T i j) (motive_2:=λl i j _=>∃ts,aG g w l ts i j) ?_ ?_ ?_ ?_ h
 ·intro t i h;exact⟨_,.leaf h⟩
 ·intro r i j hr _ ⟨ts,h2⟩;obtain⟨k,hk⟩:=TU hr;exact⟨_,.node hk h2⟩
 ·intro i;exact⟨[],.nil⟩
 ·intro s l i m j _ _ ⟨T,h1⟩ ⟨ts,h2⟩;exact⟨_,.cons h1 h2⟩
def Hd(g:af)(u:List Nat)(i:Nat)(x:Lr):Prop:=∃z,∀y,DW g y ((aX g x.aA).drop x.dot)->iB g (u.take i++(y++z)) ⟨false,g.start⟩ 0 (u.take i++(y++z)).length
theorem td{g:af}(hg:Valid g)(hP:∀n,n<g.ak->dp g n)(k d:Nat):∃v,DW g v ((aX g k).drop d):=
 ia _ λy hy=>by
  have:=sS hg k y (S2 hy);obtain⟨b,n⟩:=y;cases b with
  | true=>exact .inl rfl
  | false=>exact .inr (hP n this)
theorem uB{α:Type}{l:List α}{d:Nat}{a:α}(h:l[d]?=some a):l.drop d=a::l.drop (d+1):=Tf.trans (by rw[h];rfl)
theorem xJ{g:af}(hg:Valid g)(hP:∀n,n<g.ak->dp g n){u:List Nat}{i:Nat}{l:List Lr}(hl:∀x∈l,Hd g u i x){x:Lr}(h:eT g l x):Hd g u i x:=by
 induction h with
 | base h=>exact hl _ h
 | @more x n k r h1 ha hr hn ih=>
  obtain⟨z,hz⟩:=ih;rw[bq] at ha;obtain⟨v,hv⟩:=td hg hP x.aA (x.dot+1);refine⟨v++z,λy hy=>?_⟩;have hy:DW g y ((aX g k).drop 0):=hy;rw[S6,cf hr] at hy;have:=hz (y++v) (by
   rw[uB ha];exact DW.app (l:=[⟨false,n⟩]) (.one (by rw[<-hn];exact .ym (gM hr) hy)) hv)
  rw[RY] at this;exact this
theorem Gi{u y z:List Nat}{i j:Nat}(h:i<=j):u.take i++((u.take j).drop i++y++z)=u.take j++(y++z):=by
 rw[RY,<-RY];congr 1;have:u.take i=(u.take j).take i:=by rw[Uk,Se h]
 rw[this,Si]
theorem xq.OW{g:af}{I:List (List Lr)}{rows:List (List Int)}(hg:Valid g)(hA:gL g I rows)(hP:∀n,n<g.ak->dp g n){u:List Nat}{σ:List Nat}{τ:List Tree}{i:Nat}(h:xq g (jm g rows) u σ τ i) :
  i<=u.length->∀x,lP I (mW σ) x->Hd g u i x:=by
 induction h with
 | nil=>
  intro _ x ⟨st,hst,hx⟩;obtain⟨st0,hst0,hz⟩:=hA.zero;rw[show mW [0]=0 from rfl,hst0] at hst;obtain rfl:=AT hst;refine xJ hg hP (λx hx=>?_) ((hz _).1 hx);rw[Rh.1 hx];refine⟨[],λy hy=>?_⟩;have hy:DW g y ((aX g g.rules.length).drop 0):=hy;rw[eB] at hy;obtain⟨m,h1,h2⟩:=lG.1 (show gH g y (⟨false,g.start⟩::[]) 0 y.length from hy);rw[nt.1 h2] at h1;rw[TV,SG,R0];exact h1
 | @snoc σ τ i j s s' y T h1 h2 h3 ih=>
  intro hj x ⟨st1,hst1,hx⟩;rw[lH] at hst1;obtain⟨st,st',e1,e2,_,e4⟩:=hA.goes hg h2;rw[e2] at hst1;obtain rfl:=AT hst1;have hij:=(bj.le h3).1;refine xJ hg hP (λx hx=>?_) ((e4 _).1 hx);obtain⟨x0,f1,f2,rfl⟩:=gu.1 hx;obtain⟨z,hz⟩:=ih zo x0 ⟨st,by rw[lH];exact e1,f1⟩;rw[bq] at f2;refine⟨z,λy2 hy2=>?_⟩;have hp:=A1 (a:=i) (b:=j) hj (bj.Au h3) (AS _) (AS _);have hlen:((u.take j).drop i).length=j-i:=by simp;omega
  have:=hz ((u.take j).drop i++y2) (by
   rw[uB f2];refine DW.app (l:=[y]) (.one ?_) hy2;rw[hlen,SV] at *;exact hp)
  rw[Gi hij] at this;exact this
theorem xq.Mj{g:af}{I:List (List Lr)}{rows:List (List Int)}(hg:Valid g)(hA:gL g I rows)(hP:∀n,n<g.ak->dp g n){u:List Nat}{σ:List Nat}{τ:List Tree}{i:Nat}(h:xq g (jm g rows) u σ τ i)(hi:i<=u.length) :
  ∃v,iB g (u.take i++v) ⟨false,g.start⟩ 0 (u.take i++v).length:=by
 obtain⟨x,hx⟩:∃x,lP I (mW σ) x:=by
  cases h with
  | nil=>
   obtain⟨st0,hst0,hz⟩:=hA.zero;exact⟨_,st0,hst0,(hz _).2 (.base (Rh.2 rfl))⟩
  | snoc h1 h2 h3=>
   obtain⟨st,st',e1,e2,e3,e4⟩:=hA.goes hg h2;obtain⟨z,hz⟩:=List.exists_mem_of_ne_nil _ e3;exact⟨z,st',by rw[lH];exact e2,(e4 _).2 (.base hz)⟩
 obtain⟨z,hz⟩:=h.OW hg hA hP hi x hx;obtain⟨v,hv⟩:=td hg hP x.aA x.dot;exact⟨v++z,hz v hv⟩
inductive qH(g:af)(w:List Nat)(p c:Nat):Sym->Nat->Nat->Prop
 | leaf:qH g w p c ⟨true,c⟩ p 0
 | node {k:Nat} {r:bz} {pre post:List Sym} {s:Sym} {ts:List Tree} {i m n:Nat}:g.rules[k]?=some r->r.right=pre++s::post->aG g w pre ts i m->qH g w p c s m n->qH g w p c ⟨false,r.left⟩ i (n+(Fu ts).length+1)
mutual
theorem bj.spine{g:af}{w:List Nat}{p c:Nat}(hc:w[p]?=some c):∀{T:Tree} {X:Sym} {i j:Nat},bj g w X T i j->i<=p->p<j->∃n,qH g w p c X i n
 | .mk _ _ _,_,i,_,.leaf h,h1,h2=>by
  obtain rfl:i=p:=by omega
  rw[hc] at h;obtain rfl:=AT h;exact⟨0,.leaf⟩
 | .mk _ _ ks,_,i,j,.node h h2,h3,h4=>by
  obtain⟨pre,s,post,ts,m,n,e1,e2,e3⟩:=aG.spine hc h2 h3 h4;exact⟨_,.node h e1 e2 e3⟩
theorem aG.spine{g:af}{w:List Nat}{p c:Nat}(hc:w[p]?=some c):∀{ts:List Tree} {l:List Sym} {i j:Nat},aG g w l ts i j->i<=p->p<j->∃pre s post ts1 m n,l=pre++s::post/\aG g w pre ts1 i m/\qH g w p c s m n
 | [],_,i,_,.nil,h1,h2=>by omega
 | T::ts,_,i,j,.cons (s:=s) (l:=l) (m:=m) h1 h2,h3,h4=>by
  rcases Rw p m with h5 | h5
  ·obtain⟨n,hn⟩:=bj.spine hc h1 h3 h5;exact⟨[],s,l,[],i,n,rfl,.nil,hn⟩
  ·obtain⟨pre,s',post,ts1,m',n,e1,e2,e3⟩:=aG.spine hc h2 h5 h4;exact⟨s::pre,s',post,T::ts1,m',n,by rw[e1];rfl,.cons h1 e2,e3⟩
end
theorem dj.app{g:af}{l m:List Sym}{t:Nat}(h:dj g l t):dj g (l++m) t:=by
 obtain⟨pre,s,post,e,h1,h2⟩:=h;exact⟨pre,s,post++m,by rw[e];simp,h1,h2⟩
theorem dj.behind{g:af}:∀{l m:List Sym} {t:Nat},gG g l->dj g m t->dj g (l++m) t
 | [],_,_,_,h=>h
 | s::l,m,t,hl,h=>dj.cons (hl s me).1 (hl s me).2 (dj.behind (λx hx=>hl x (I9 _ hx)) h)
theorem qH.begin{g:af}{w:List Nat}{p c:Nat}(hc:w[p]?=some c){X:Sym}{i n:Nat}(h:qH g w p c X i n):i<=p/\∃c',w[i]?=some c'/\(X=⟨true,c'⟩\/(X.term=false/\Ep g X.n c')):=by
 induction h with
 | leaf=>exact⟨AS _,c,hc,.inl rfl⟩
 | @node k r pre post s ts i m n hr he ht _ ih=>
  obtain⟨h1,c',h2,h3⟩:=ih;have hle:=(aG.le ht).1;obtain⟨b1,b2⟩:=aG.begin ht;have hm:=gM hr;refine⟨by omega,?_⟩;rcases Rw i m with h4 | h4
  ·obtain⟨c2,hc2,h5⟩:=b2 h4;exact⟨c2,hc2,.inr ⟨rfl,.of hm (by rw[he];exact h5.app)⟩⟩
  ·obtain rfl:i=m:=by omega
   exact⟨c',h2,.inr ⟨rfl,.of hm (by rw[he];exact dj.behind (b1 rfl) (.head h3))⟩⟩
section
variable {g:af}{it:Nat->Lr->Prop}{la:Nat->Lr->Nat->Prop}{go:Nat->Sym->Option Nat}{act:Nat->Nat->Act}{w:List Nat}
theorem Ge(hg:Valid g)(hP:∀n,n<g.ak->dp g n)(x:Lr):(∃t,dj g (cD g x) t)\/gG g (cD g x):=by
 obtain⟨v,hv⟩:=td hg hP x.aA (x.dot+1);obtain⟨ts,ht⟩:∃ts,aG g v (cD g x) ts 0 v.length:=by
  have h:gH g v (cD g x) 0 v.length:=hv;refine gH.rec (motive_1:=λs i j _=>∃T,bj g v s T i j) (motive_2:=λl i j _=>∃ts,aG g v l ts i j) ?_ ?_ ?_ ?_ h
  ·intro t i h;exact⟨_,.leaf h⟩
  ·intro r i j hr _ ⟨ts,h2⟩;obtain⟨k,hk⟩:=TU hr;exact⟨_,.node hk h2⟩
  ·intro i;exact⟨[],.nil⟩
  ·intro s l i m j _ _ ⟨T,h1⟩ ⟨ts,h2⟩;exact⟨_,.cons h1 h2⟩
 obtain⟨b1,b2⟩:=aG.begin ht;rcases Tb v.length with h | h
 ·exact .inr (b1 h.symm)
 ·obtain⟨c,_,h2⟩:=b2 h;exact .inl ⟨c,h2⟩
theorem Kc(hg:Valid g)(hP:∀n,n<g.ak->dp g n)(ok:o7 g it la go){s:Nat}{x:Lr}{k:Nat}{r:bz}(hx:it s x)(hu:∃u,la s x u)(ha:aR g x=some ⟨false,r.left⟩)(hr:g.rules[k]?=some r):∃u,la s ⟨k,0⟩ u:=by
 obtain⟨u,hu⟩:=hu;rcases Ge hg hP x with ⟨t,h⟩ | h
 ·exact⟨t,ok.fD hx hu ha hr (.inl h)⟩
 ·exact⟨u,ok.fD hx hu ha hr (.inr ⟨h,hu⟩)⟩
end
section
variable {g:af}{it:Nat->Lr->Prop}{la:Nat->Lr->Nat->Prop}{go:Nat->Sym->Option Nat}{w:List Nat}{p n:Nat}{G:Gr}
structure jt(g:af)(go:Nat->Sym->Option Nat)(w:List Nat)(p n:Nat)(G:Gr):Prop where
 wf:Np G
 key:∀x∈aQ G,x.1<=p/\x.2<n/\∃σ τ,xq g go w (σ++[x.2]) τ x.1
 y5:∀x y,y∈bl G x->y∈aQ G/\∃X T,go y.2 X=some x.2/\bj g w X T y.1 x.1
theorem jt.first(hn:0<n):jt g go w 0 n [((0,0),[])] where
 wf:=⟨by simp[aQ],λe he=>by rw[Rh.1 he];exact Te⟩
 key:=λx hx=>by
  obtain rfl:x=(0,0):=by simpa [aQ] using hx
  exact⟨AS _,hn,[],[],.nil⟩
 y5:=λx y hy=>by
  exfalso;unfold bl at hy;split at hy
  ·cases hy
  ·cases hy
theorem jt.up(h:jt g go w p n G){q:Nat}(hq:p<=q):jt g go w q n G:=⟨h.wf,λx hx=>⟨AI (h.key x hx).1 hq,(h.key x hx).2⟩,h.y5⟩
theorem jt.add(h:jt g go w p n G){y:Nd}(hy:y∈aQ G){X:Sym}{s' i:Nat}(hgo:go y.2 X=some s')(hs:s'<n){T:Tree}(hT:bj g w X T y.1 i)(hi:i<=p):jt g go w p n (eJ G (i,s') y) where
 wf:=h.wf.add _ _
 key:=λx hx=>by
  rcases eZ.1 hx with hx | rfl
  ·exact h.key x hx
  ·obtain⟨_,_,σ,τ,hl⟩:=h.key y hy;exact⟨hi,hs,_,_,.snoc hl hgo hT⟩
 y5:=λx z hz=>by
  rcases dv.1 hz with hz | ⟨rfl,rfl⟩
  ·obtain⟨h1,h2⟩:=h.y5 x z hz;exact⟨eZ.2 (.inl h1),h2⟩
  ·exact⟨eZ.2 (.inl hy),X,T,hgo,hT⟩
theorem jt.Ar(h:jt g go w p n G):qz G<=((p+1)*n)*((p+1)*n):=MT h.wf (λx hx=>⟨(h.key x hx).1,(h.key x hx).2.1⟩) λx y hy=>(h.y5 x y hy).1
theorem jt.low(h:jt g go w p n G){x y:Nd}:∀{d:Nat},Cq G d x y->y.1<=x.1
 | 0,e=>by obtain rfl:y=x:=e;exact AS _
 | d+1,⟨z,h1,h2⟩=>by
  obtain⟨_,X,T,_,hT⟩:=h.y5 _ _ h2;exact AI (bj.le hT).1 (h.low h1)
theorem jt.Nk(h:jt g go w p n G){x y:Nd}(hx:x∈aQ G):∀{d:Nat},Cq G d x y->y∈aQ G
 | 0,e=>by obtain rfl:y=x:=e;exact hx
 | d+1,⟨z,h1,h2⟩=>(h.y5 _ _ h2).1
theorem jt.IG(h:jt g go w p n G){t b x y:Nd}(hx:x.1<t.1):∀{d:Nat},Cq (eJ G t b) d x y↔Cq G d x y
 | 0=>Iff.rfl
 | d+1=>by
  constructor
  ·rintro⟨z,h0,h2⟩;have h3:=(h.IG hx).1 h0;rcases dv.1 h2 with h4 | ⟨e,_⟩
   ·exact⟨z,h3,h4⟩
   ·have:=h.low h3;rw[e] at this;omega
  ·rintro⟨z,h1,h2⟩;exact⟨z,(h.IG hx).2 h1,dv.2 (.inl h2)⟩
theorem jt.under(ok:o7 g it la go)(h:jt g go w p n G){x:Nd}{k m:Nat}(hit:it x.2 ⟨k,m⟩)(hm:m<=(aX g k).length):∀{d:Nat} {y:Nd},d<=m->Cq G d x y->it y.2 ⟨k,m-d⟩/\∃ts,aG g w (((aX g k).take m).drop (m-d)) ts y.1 x.1
 | 0,y,_,e=>by
  obtain rfl:y=x:=e;refine⟨hit,[],?_⟩;rw[List.drop_eq_nil_of_le (by rw[RK];omega)];exact .nil
 | d+1,y,hd,⟨z,h1,h2⟩=>by
  obtain⟨h3,ts,h4⟩:=h.under ok hit hm zo h1;obtain⟨_,X,T,h5,h6⟩:=h.y5 _ _ h2;have e:m-d=(m-(d+1))+1:=by omega
  rw[e] at h3 h4;obtain⟨h7,h8⟩:=ok.back h5 h3;rw[bq] at h8;have h8:(aX g k)[m-(d+1)]?=some X:=h8;refine⟨h7,T::ts,?_⟩;rw[uB (l:=(aX g k).take m) (d:=m-(d+1)) (a:=X) (by rw[RD,If zo];exact h8)];exact .cons h6 h4
theorem jt.red(ok:o7 g it la go)(h:jt g go w p n G){x y:Nd}{k:Nat}{r:bz}(hr:g.rules[k]?=some r)(hit:it x.2 ⟨k,r.right.length⟩)(hd:Cq G r.right.length x y):∃s' T,go y.2 ⟨false,r.left⟩=some s'/\bj g w ⟨false,r.left⟩ T y.1 x.1:=by
 have hrl:=cf hr;obtain⟨h1,ts,h2⟩:=h.under ok hit (by rw[hrl];exact AS _) (AS _) hd;rw[SV,S6,hrl,S1] at h2;rw[SV] at h1;obtain⟨s',hs'⟩:=ok.fill h1 hr;exact⟨s',_,hs',.node hr h2⟩
def mT(g:af)(it:Nat->Lr->Prop)(la:Nat->Lr->Nat->Prop)(go:Nat->Sym->Option Nat)(G:Gr)(j t:Nat):Prop:=
 ∀s k r,(j,s)∈aQ G->g.rules[k]?=some r->it s ⟨k,r.right.length⟩->la s ⟨k,r.right.length⟩ t->∀x,Cq G r.right.length (j,s) x->∀s',go x.2 ⟨false,r.left⟩=some s'->x∈bl G (j,s')
def vr(go:Nat->Sym->Option Nat)(G:Gr)(j t:Nat):Prop:=∀s s',(j,s)∈aQ G->go s ⟨true,t⟩=some s'->(j,s)∈bl G (j+1,s')
theorem mT.add(h:jt g go w p n G){j t:Nat}(hr:mT g it la go G j t){a b:Nd}(ha:j<a.1):mT g it la go (eJ G a b) j t:=by
 intro s k r h1 h2 h3 h4 x h5 s' h6;rcases eZ.1 h1 with h1 | e
 ·exact dv.2 (.inl (hr s k r h1 h2 h3 h4 x ((h.IG ha).1 h5) s' h6))
 ·rw[<-e] at ha;exact absurd ha (S4 _)
theorem vr.add{j t:Nat}(hr:vr go G j t){a b:Nd}(ha:j<a.1):vr go (eJ G a b) j t:=by
 intro s s' h1 h2;rcases eZ.1 h1 with h1 | e
 ·exact dv.2 (.inl (hr s s' h1 h2))
 ·rw[<-e] at ha;exact absurd ha (S4 _)
mutual
theorem bj.graph(ok:o7 g it la go)(hR:∀j,j<=p->mT g it la go G j (lookW g w j))(hS:∀j t,j<p->w[j]?=some t->vr go G j t):∀{T:Tree} {X:Sym} {i j:Nat},bj g w X T i j->j<=p->∀{s:Nat} {x:Lr},(i,s)∈aQ G->it s x->(∃u,la s x u)->aR g x=some X->kK g la s x (lookW g w j)->
  ∃s',go s X=some s'/\(i,s)∈bl G (j,s')
 | .mk _ t _,_,i,_,.leaf h,hj,s,x,hk,hx,_,ha,_=>by
  obtain⟨s',h1,_,_⟩:=ok.step hx ha;exact⟨s',h1,hS i t zo h s s' hk h1⟩
 | .mk _ _ ks,_,i,j,.node (k:=k) (r:=r) h h2,hj,s,x,hkey,hx,⟨u,hu⟩,ha,hal=>by
  obtain⟨s',h3,_,_⟩:=ok.step hx ha;have hk0:=ok.xf hx ha h;have hk1:=ok.fD (t:=lookW g w j) hx hu ha h hal;obtain⟨s2,e1,e2,e3,e4⟩:=aG.graph ok hR hS h2 hj (s:=s) (k:=k) (d:=0) (r:=r) hkey h hk0 hk1 (RC _) rfl;rw[aG.len h2] at e4;exact⟨s',h3,hR j hj s2 k r e1 h e2 e3 _ e4 s' h3⟩
theorem aG.graph(ok:o7 g it la go)(hR:∀j,j<=p->mT g it la go G j (lookW g w j))(hS:∀j t,j<p->w[j]?=some t->vr go G j t):∀{ts:List Tree} {l:List Sym} {i j:Nat},aG g w l ts i j->j<=p->∀{s k d:Nat} {r:bz},(i,s)∈aQ G->g.rules[k]?=some r->it s ⟨k,d⟩->la s ⟨k,d⟩ (lookW g w j)->d<=r.right.length->r.right.drop d=l->
  ∃s',(j,s')∈aQ G/\it s' ⟨k,r.right.length⟩/\la s' ⟨k,r.right.length⟩ (lookW g w j)/\Cq G ts.length (j,s') (i,s)
 | [],_,i,_,.nil,hj,s,k,d,r,hkey,hk,hit,hla,hdl,hd=>by
  obtain rfl:d=r.right.length:=by have:=List.drop_eq_nil_iff.1 hd;omega
  exact⟨s,hkey,hit,hla,rfl⟩
 | T::ts,X::l,i,j,.cons (m:=m) h1 h2,hj,s,k,d,r,hkey,hk,hit,hla,hdl,hd=>by
  have hd1:r.right[d]?=some X:=by rw[<-List.head?_drop,hd];rfl
  have hd2:r.right.drop (d+1)=l:=by rw[<-List.tail_drop,hd];rfl
  have hdlt:=(gS hd1).1;have haf:aR g ⟨k,d⟩=some X:=by rw[bq];show (aX g k)[d]?=_;rw[cf hk];exact hd1
  have hrest:cD g ⟨k,d⟩=l:=by unfold cD;show (aX g k).drop (d+1)=_;rw[cf hk];exact hd2
  obtain⟨b1,b2⟩:=aG.begin h2;have hle:=(aG.le h2).1;have hal:kK g la s ⟨k,d⟩ (lookW g w m):=by
   unfold kK;rw[hrest];by_cases hm:m<j
   ·obtain⟨c,hc,h5⟩:=b2 hm;rw[ll hc];exact .inl h5
   ·obtain rfl:m=j:=by omega
    exact .inr ⟨b1 rfl,hla⟩
  obtain⟨s',e1,e2⟩:=bj.graph ok hR hS h1 zo hkey hit ⟨_,hla⟩ haf hal;obtain⟨s2,f1,f2,f3⟩:=ok.step hit haf;rw[e1] at f1;obtain rfl:=AT f1;obtain⟨s3,g1,g2,g3,g4⟩:=aG.graph ok hR hS h2 hj (s:=s') (k:=k) (d:=d+1) (r:=r) (fP e2) hk f2 (f3 _ hla) zo hd2;exact⟨s3,g1,g2,g3,(m,s'),g4,e2⟩
end
theorem aG.BZ(ok:o7 g it la go)(hR:∀j,j<=p->mT g it la go G j (lookW g w j))(hS:∀j t,j<p->w[j]?=some t->vr go G j t){rest:List Sym}:∀{ts:List Tree} {l:List Sym} {i m:Nat},aG g w l ts i m->m<=p->∀{s k d:Nat} {r:bz},(i,s)∈aQ G->g.rules[k]?=some r->it s ⟨k,d⟩->(∃u,la s ⟨k,d⟩ u)->r.right.drop d=l++rest->dj g rest (lookW g w m)->
  ∃s',(m,s')∈aQ G/\it s' ⟨k,d+l.length⟩/\∃u,la s' ⟨k,d+l.length⟩ u
 | [],_,i,_,.nil,hm,s,k,d,r,hkey,hk,hit,hla,hd,hb=>⟨s,hkey,hit,hla⟩
 | T::ts,X::l,i,j,.cons (m:=m) h1 h2,hj,s,k,d,r,hkey,hk,hit,⟨u,hla⟩,hd,hb=>by
  have hd1:r.right[d]?=some X:=by rw[<-List.head?_drop,hd];rfl
  have hd2:r.right.drop (d+1)=l++rest:=by rw[<-List.tail_drop,hd];rfl
  have haf:aR g ⟨k,d⟩=some X:=by rw[bq];show (aX g k)[d]?=_;rw[cf hk];exact hd1
  have hrest:cD g ⟨k,d⟩=l++rest:=by unfold cD;show (aX g k).drop (d+1)=_;rw[cf hk];exact hd2
  obtain⟨b1,b2⟩:=aG.begin h2;have hle:=(aG.le h2).1;have hal:kK g la s ⟨k,d⟩ (lookW g w m):=by
   unfold kK;rw[hrest];left;by_cases hm:m<j
   ·obtain⟨c,hc,h5⟩:=b2 hm;rw[ll hc];exact h5.app
   ·obtain rfl:m=j:=by omega
    exact dj.behind (b1 rfl) hb
  obtain⟨s',e1,e2⟩:=bj.graph ok hR hS h1 zo hkey hit ⟨_,hla⟩ haf hal;obtain⟨s2,f1,f2,f3⟩:=ok.step hit haf;rw[e1] at f1;obtain rfl:=AT f1;obtain⟨s3,g1,g2,g3⟩:=aG.BZ ok hR hS h2 hj (s:=s') (k:=k) (d:=d+1) (r:=r) (fP e2) hk f2 ⟨u,f3 _ hla⟩ hd2 hb;have e6:d+1+l.length=d+(X::l).length:=by rw[RG];omega
  rw[e6] at g2 g3;exact⟨s3,g1,g2,g3⟩
theorem qH.graph(hg:Valid g)(hP:∀n,n<g.ak->dp g n)(ok:o7 g it la go)(hR:∀j,j<=p->mT g it la go G j (lookW g w j))(hS:∀j t,j<p->w[j]?=some t->vr go G j t){c:Nat}(hc:w[p]?=some c){X:Sym}{i m:Nat}(h:qH g w p c X i m) :
  ∀{s:Nat} {x:Lr},(i,s)∈aQ G->it s x->(∃u,la s x u)->aR g x=some X->∃s1 s',(p,s1)∈aQ G/\go s1 ⟨true,c⟩=some s':=by
 induction h with
 | leaf=>
  intro s x hk hx hu ha;obtain⟨s',h1,_,_⟩:=ok.step hx ha;exact⟨s,s',hk,h1⟩
 | @node k r pre post X ts i m n hr he ht hs ih=>
  intro s x hkey hx hu ha;have hk0:=ok.xf hx ha hr;have hk1:=Kc hg hP ok hx hu ha hr;obtain⟨hmp,c',hc',hb⟩:=hs.begin hc;obtain⟨s2,e1,e2,e3⟩:=aG.BZ ok hR hS ht hmp (s:=s) (k:=k) (d:=0) (r:=r) (rest:=X::post) hkey hr hk0 hk1 (by rw[S6];exact he) (by rw[ll hc'];exact .head hb);rw[Rn] at e2 e3;have haf:aR g ⟨k,pre.length⟩=some X:=by
   rw[bq];show (aX g k)[pre.length]?=_;rw[cf hr,he];simp
  exact ih e1 e2 e3 haf
structure m6(g:af)(it:Nat->Lr->Prop)(la:Nat->Lr->Nat->Prop)(go:Nat->Sym->Option Nat)(w:List Nat)(n p:Nat)(G:Gr):Prop where
 so:jt g go w p n G
 bot:(0,0)∈aQ G
 red:∀j,j<p->mT g it la go G j (lookW g w j)
 sh:∀j t,j<p->w[j]?=some t->vr go G j t
theorem m6.first(hn:0<n):m6 g it la go w n 0 [((0,0),[])]:=⟨jt.first hn,Rl ..,λj h=>by omega,λj t h=>by omega⟩
theorem m6.add(h:m6 g it la go w n p G){y:Nd}(hy:y∈aQ G){X:Sym}{s':Nat}(hgo:go y.2 X=some s')(hs:s'<n){T:Tree}(hT:bj g w X T y.1 p):m6 g it la go w n p (eJ G (p,s') y):=
 ⟨h.so.add hy hgo hs hT (AS _),eZ.2 (.inl h.bot),λj hj=>(h.red j hj).add h.so hj,λj t hj ht=>(h.sh j t hj ht).add hj⟩
theorem m6.alive(hg:Valid g)(hP:∀n,n<g.ak->dp g n){I:List (List Lr)}{rows:List (List Int)}(hA:gL g I rows)(ok:o7 g (lP I) la (jm g rows))(h:m6 g (lP I) la (jm g rows) w n p G){q:Nat}(hq:q<p)(hqw:q<=w.length) :
  (∃s,(q,s)∈aQ G)↔∃v,iB g (w.take q++v) ⟨false,g.start⟩ 0 (w.take q++v).length:=by
 constructor
 ·rintro⟨s,hs⟩;obtain⟨_,_,σ,τ,hl⟩:=h.so.key _ hs;exact hl.Mj hg hA hP hqw
 ·rintro⟨v,hv⟩;cases q with
  | zero=>exact⟨0,h.bot⟩
  | succ q=>
   have hql:q<w.length:=hqw;have htl:(w.take (q+1)).length=q+1:=by rw[RK];omega
   have hat:∀j,j<=q->(w.take (q+1)++v)[j]?=w[j]?:=λj hj=>by
    rw[Rj zo,RD,If zo]
   obtain⟨T,hT⟩:=hv.tree;have hc:(w.take (q+1)++v)[q]?=some w[q]:=by rw[hat q (AS _)];exact gE hql
   obtain⟨m,hsp⟩:=bj.spine hc hT (RC _) (by rw[Rf,htl];omega);have ha:aR g ⟨g.rules.length,0⟩=some ⟨false,g.start⟩:=by rw[bq];show (aX g g.rules.length)[0]?=_;rw[eB];rfl
   obtain⟨s1,s',h1,h2⟩:=hsp.graph hg hP ok (G:=G) (λj hj=>by
    have:=h.red j zo;unfold lookW at this ⊢;rw[hat j hj];exact this) (λj t hj ht=>h.sh j t zo (by rw[<-hat j zo];exact ht)) hc (s:=0) h.bot ok.start ⟨_,ok.zN⟩ ha
   exact⟨s',fP (h.sh q _ zo (gE hql) s1 s' h1 h2)⟩
end
section
variable {g:af}{it:Nat->Lr->Prop}{la:Nat->Lr->Nat->Prop}{go:Nat->Sym->Option Nat}{w:List Nat}{p n:Nat}{G G0:Gr}{again:Bool}
structure Jd(g:af)(it:Nat->Lr->Prop)(la:Nat->Lr->Nat->Prop)(go:Nat->Sym->Option Nat)(w:List Nat)(n p:Nat)(G0 G:Gr)(again:Bool):Prop where
 fin:m6 g it la go w n p G
 same:again=false->G=G0
 more:again=true->qz G0<qz G
 keys:∀x∈aQ G0,x∈aQ G
 low:∀q s,q<p->((q,s)∈aQ G↔(q,s)∈aQ G0)
theorem Jd.begin(h:m6 g it la go w n p G):Jd g it la go w n p G G false:=⟨h,λ_=>rfl,λh=>(by cases h),λ_ h=>h,λ_ _ _=>Iff.rfl⟩
theorem Jd.le(h:Jd g it la go w n p G0 G again):qz G0<=qz G:=by
 cases again with
 | false=>rw[h.same rfl];exact AS _
 | true=>exact R9 (h.more rfl)
theorem Jd.add(h:Jd g it la go w n p G0 G again){y:Nd}(hy:y∈aQ G){X:Sym}{s':Nat}(hgo:go y.2 X=some s')(hs:s'<n){T:Tree}(hT:bj g w X T y.1 p) :
  Jd g it la go w n p G0 (eJ G (p,s') y) (!decide (y∈bl G (p,s'))||again) where
 fin:=h.fin.add hy hgo hs hT
 same:=λe=>by
  rw[Tt] at e;have hb:y∈bl G (p,s'):=by simpa using e.1
  rw[yV hb];exact h.same e.2
 more:=λe=>by
  by_cases hb:y∈bl G (p,s')
  ·rw[yV hb];refine h.more ?_;simpa [hb] using e
  ·have:=h.le;rw[Eh hb];omega
 keys:=λx hx=>eZ.2 (.inl (h.keys x hx))
 low:=λq s hq=>by
  rw[eZ,<-h.low q s hq];exact⟨λe=>e.elim id λe=>(by cases e;omega),.inl⟩
structure JN(g:af)(it:Nat->Lr->Prop)(la:Nat->Lr->Nat->Prop)(go:Nat->Sym->Option Nat)(w:List Nat)(n p:Nat)(G0 G:Gr):Prop where
 so:jt g go w (p+1) n G
 bot:(0,0)∈aQ G
 red:∀j,j<p+1->mT g it la go G j (lookW g w j)
 sh:∀j t,j<p->w[j]?=some t->vr go G j t
 low:∀q s,q<p+1->((q,s)∈aQ G↔(q,s)∈aQ G0)
theorem JN.begin(h:m6 g it la go w n p G)(hr:mT g it la go G p (lookW g w p)):JN g it la go w n p G G:=
 ⟨h.so.up (Nat.le_succ p),h.bot,λj hj=>by
  rcases Rw j p with h1 | h1
  ·exact h.red j h1
  ·obtain rfl:j=p:=by omega
   exact hr,h.sh,λ_ _ _=>Iff.rfl⟩
theorem JN.add(h:JN g it la go w n p G0 G){s s' t:Nat}(hk:(p,s)∈aQ G)(ht:w[p]?=some t)(hgo:go s ⟨true,t⟩=some s')(hs:s'<n):JN g it la go w n p G0 (eJ G (p+1,s') (p,s)) where
 so:=h.so.add hk (X:=⟨true,t⟩) (T:=.mk (-1) t []) hgo hs (.leaf ht) (AS _)
 bot:=eZ.2 (.inl h.bot)
 red:=λj hj=>(h.red j hj).add h.so hj
 sh:=λj t hj ht=>(h.sh j t hj ht).add (show j<p+1 by omega)
 low:=λq s hq=>by
  rw[eZ,<-h.low q s hq];exact⟨λe=>e.elim id λe=>(by cases e;omega),.inl⟩
theorem JN.fin(h:JN g it la go w n p G0 G)(hs:∀t,w[p]?=some t->vr go G p t):m6 g it la go w n (p+1) G:=
 ⟨h.so,h.bot,h.red,λj t hj ht=>by
  rcases Rw j p with h1 | h1
  ·exact h.sh j t h1 ht
  ·obtain rfl:j=p:=by omega
   exact hs t ht⟩
end
section
variable {g:af}{S:List (List bL)}{rows:List (List Int)}{w:List Nat}{p t:Nat}{G:Gr}
def IY(g:af)(rows:List (List Int))(G:Gr)(p s:Nat)(a:Nat×Nat):Prop:=
 a.1=2->∀r,g.rules[a.2]?=some r->∀x,Cq G r.right.length (p,s) x->∀s',jm g rows x.2 ⟨false,r.left⟩=some s'->x∈bl G (p,s')
def Jz(G:Gr)(p s:Nat)(a:Nat×Nat):Prop:=a.1=1->(p,s)∈bl G (p+1,a.2)
theorem Kd(hA:gL g (S.map aP) rows){s k:Nat}(hs:s<S.length)(ht:t<=g.ae)(h:(2,k)∈fu g (S.getD s []) (rows.getD s []) t):∃r,g.rules[k]?=some r/\lP (S.map aP) s ⟨k,r.right.length⟩/\qR S s ⟨k,r.right.length⟩ t:=by
 have:=((rQ hA hs ht _).1 h).2;cases this with
 | red h1 h2 h3=>exact⟨_,h1,h2,h3⟩
theorem MO(hA:gL g (S.map aP) rows){s k:Nat}(hs:s<S.length)(ht:t<=g.ae)(h:(1,k)∈fu g (S.getD s []) (rows.getD s []) t):t<g.ae/\jm g rows s ⟨true,t⟩=some k:=by
 have:=((rQ hA hs ht _).1 h).2;cases this with
 | shift h1 h2=>exact⟨h1,h2⟩
theorem I0(hA:gL g (S.map aP) rows)(ht:t<=g.ae)(hk:∀x∈aQ G,x.2<S.length)(h:∀s,(p,s)∈aQ G->∀a∈fu g (S.getD s []) (rows.getD s []) t,IY g rows G p s a) :
  mT g (lP (S.map aP)) (qR S) (jm g rows) G p t:=by
 intro s k r h1 h2 h3 h4 x h5 s' h6;exact h s h1 (2,k) ((rQ hA (hk _ h1) ht _).2 ⟨⟨Act.noConfusion,λe=>absurd (show (2:Nat)=3 from e) (by decide)⟩,.red h2 h3 h4⟩) rfl r h2 x h5 s' h6
theorem Ke(hA:gL g (S.map aP) rows)(ht:t<g.ae)(hk:∀x∈aQ G,x.2<S.length)(h:∀s,(p,s)∈aQ G->∀a∈fu g (S.getD s []) (rows.getD s []) t,Jz G p s a):vr (jm g rows) G p t:=by
 intro s s' h1 h2;exact h s h1 (1,s') ((rQ hA (hk _ h1) (R9 ht) _).2 ⟨⟨Act.noConfusion,λe=>absurd (show (1:Nat)=3 from e) (by decide)⟩,.shift ht h2⟩) rfl
end
theorem LM{g:af}(hg:Valid g){S:List (List bL)}{rows:List (List Int)}(hA:gL g (S.map aP) rows){s s':Nat}{y:Sym}(h:jm g rows s y=some s'):s'<S.length:=by
 obtain⟨_,st',_,h2,_⟩:=hA.goes hg h;have:=(gS h2).1
 rwa [Rq] at this
theorem N6{g:af}{rows:List (List Int)}{s s' n:Nat}(h:jm g rows s ⟨false,n⟩=some s'):∃row,(rows.map (·.drop g.ae))[s]?=some row/\row[n]?=some (s':Int):=by
 unfold jm at h;split at h
 ·split at h
  ·rename_i row hr;refine⟨row.drop g.ae,by rw[Re,hr];rfl,?_⟩;rw[RI];have e:D5 g ⟨false,n⟩=g.ae+n:=TW n g.ae;rw[e] at h;split at h
   ·rename_i j hj;rw[hj];split at h
    ·cases h;congr 1;omega
    ·cases h
   ·cases h
  ·cases h
 ·cases h
theorem EL{g:af}{S:List (List bL)}{rows:List (List Int)}{s t:Nat}(hs:s<S.length)(ht:t<=g.ae):∃l:List (List (Nat×Nat)),(oZ g S rows)[s]?=some l/\l[t]?=some (fu g (S.getD s []) (rows.getD s []) t):=by
 refine⟨(List.range (g.ae+1)).map λt=>fu g (S.getD s []) (rows.getD s []) t,?_,?_⟩
 ·unfold oZ;rw[Re,SP hs];rfl
 ·rw[Re,SP zo];rfl
theorem JQ{g:af}{w:List Nat}(hw:∀t∈w,t<g.ae)(p:Nat):lookW g w p<=g.ae:=by
 unfold lookW;cases h:w[p]? with
 | none=>exact AS _
 | some t=>exact R9 (hw t (gM h))
structure Qg where
 s:iu
 a:Option Addr
 m:Nat
 c:Nat
 B:List (Nat×aD)
 L:List (List Nat)
structure OL where
 s:iu
 again:Bool
theorem Mg{g:af}{go:Nat->Sym->Option Nat}{w:List Nat}{p n:Nat}{s:iu}(h:jt g go w p n s.abs)(hp:p<=20)(hn:n<=400):s.es.length<=1000000:=by
 have h1:=iD (m:=Ft p n) h.wf.nd λx hx=>vf.2 ⟨(h.key x hx).1,(h.key x hx).2.1⟩;rw[vm] at h1;unfold aQ iu.abs at h1;rw[Rq,Rq] at h1;have:(p+1)*n<=21*400:=RN zo hn;omega
theorem ID(g:af)(st:List bL)(row:List Int)(t:Nat):(fu g st row t).length<=st.length+1:=by
 unfold fu;rw[Rf,TW st.length 1];refine Rr ?_ (List.length_filterMap_le ..);split
 ·split
  ·split<;>simp
  ·simp
 ·simp
theorem xM{g:af}(hg:Valid g){S:List (List bL)}{rows:List (List Int)}(hst:cW g 1=some (S,rows)){s t:Nat}(hs:s<S.length):(fu g (S.getD s []) (rows.getD s []) t).length<=1001:=by
 have h1:=ID g (S.getD s []) (rows.getD s []) t;have h2:=(vd hg hst (S.getD s []) (by rw[getD_some (gE hs)];exact TG hs)).1;omega
theorem Iq(ok:CC.Ok Tryz.prog)(fok:bH CC Tryz.prog)(F:ar)(g:af)(hg:Valid g)(ht5:g.ae<=5){a:Option Addr}{m c:Nat}(hr:bw bK F a m c g.rules){b:Option Addr}{n d:Nat}{w:List Nat}(hw:bw eS F b n d w)(hw1:w.length<=12)(hw2:∀t∈w,t<g.ae)
  {S:List (List bL)} {rows:List (List Int)} (hst:cW g 1=some (S,rows)) :
  cm CC Tryz.prog 105 [.agg ⟨ai g a m c⟩,.slice b n d] F [] λF' v o=>o=[]/\∃G L a1 n1 c1,v=.tuple ⟨[.slice a1 n1 c1,.int .i64 0]⟩/\bw (cg eS) F' a1 n1 c1 L/\L.length=w.length+1/\
   m6 g (lP (S.map aP)) (qR S) (jm g rows) w S.length (w.length+1) G/\∀q l,L[q]?=some l->nI G q l:=by
 have hgr:=hg.range.rules;have hgt:=hg.range.ae;have hgn:=hg.range.ak;have hrl:=hr.len;have hwl:=hw.len;obtain⟨hA,hLR⟩:=lS hg hst;have hfew:=xF hst;have hS0:0<S.length:=by
  obtain⟨st,h1,_⟩:=hLR.start;have:=(gS h1).1;rw[Rq] at this;omega
 have hrs:rows.length=S.length:=by have:=hA.len;rwa [Rq] at this
 refine cm.fn (n:=161) ok Tryz.func105 rfl rfl λown=>?_;refine bf.du ok fok ?_;refine WT.cC Z Z Z Z Z Z (λi2 hi2=>?_);refine WT.aw 0 Z Z (λF0 hF0 hB0=>?_);have hi2:=hB0 i2 _ me;have hr:=hr.mono hF0;have hw:=hw.mono hF0;unfold ai at hi2 ⊢;refine aj ?_;refine bf.du ok fok ?_;refine aj ?_;have hall:=Gd F0 g hg ht5 hr;unfold ai at hall;refine WT.dH Tryz.func45 Z Z Z Z Z Z hall (λF1 v hF1 hv=>?_);rcases hv with ⟨hno,_⟩ | ⟨S',rows',a1,n1,c1,a2,n2,c2,hst',rfl,hAct,hTo⟩
 ·rw[hst] at hno;cases hno
 rw[hst] at hst';cases hst';have hr:=hr.mono hF1;have hw:=hw.mono hF1;have hi2:=hF1 _ _ hi2;have hActl:=hAct.len;have hTol:=hTo.len;refine aj ?_;refine bf.seq (bf.du ok fok ?_);refine aj ?_;refine bf.cond rfl (λh=>(by cases h)) (λ_=>?_);refine bf.skip ok fok ?_;show bf CC Tryz.prog 161 _ _ F1 _ _;refine bf.draw ok fok (ps:=[(0,1),(0,3),(0,4)]) rfl rfl ?_;refine aj ?_;refine WT.makeMap Z Z Z Z (λi34 hi34=>?_);refine aj ?_;refine WT.makeMap Z Z Z Z (λi36 hi36=>?_);refine WT.C1 j9 (key:=((0,0):Nd)) (m:=[]) hT 1 0 Z Z Z Z Z Z Z Z Z Z Z Z ?_;refine aj ?_
 refine WT.cC Z Z Z Z Z Z (λi39 hi39=>?_);refine WT.aw 0 Z Z (λF2 hF2 hB2=>?_);have hi:=hB2 i39 _ me;refine aj ?_;refine⟨oF,?_⟩;have hr:=hr.mono hF2;have hw:=hw.mono hF2;have hi2:=hF2 _ _ hi2;have hAct:=hAct.mono hF2;have hTo:=hTo.mono hF2;refine bf.du ok fok ?_;refine aj ?_;refine bf.seq (bf.du ok fok ?_);refine aj ?_;refine bf.weaken (k2:=[(1,.slice b n d),(2,.pointer (some ⟨i2,0,none⟩)),(6,.slice a1 n1 c1),(7,.slice a2 n2 c2),(9,.pointer (some ⟨i39,0,none⟩)),(10,.slice none 0 0),(42,.int .i64 ((n+1:Nat):Int)),(43,.int .i64 0)]) sM ?_
 refine bf.range ok fok (S:=Qg) (λu=>[(10,.slice u.a u.m u.c)]) (λu=>u.s.B::u.B::own) (λj u G=>m6 g (lP (S.map aP)) (qR S) (jm g rows) w S.length j u.s.abs/\u.s.oi=i34/\dy (cg eS) G u.a u.m u.c u.B u.L/\u.L.length=j/\∀q l,u.L[q]?=some l->nI u.s.abs q l) (n+1) ⟨⟨i34,[((0,0),i36,[])]⟩,none,0,0,[],[]⟩
  Z Z Z Z Z Z Z Z Z zo rfl rfl (λ_=>rfl) (λ_=>rfl) sM (ah.flat (List.Perm.swap _ _ _)) ⟨m6.first hS0,rfl,dy.gq _ _,rfl,λq l h=>(by simp at h)⟩ ?_ ?_
 ·intro j u F3 hF3 hj hI;obtain⟨hfin,hoi,hbld,hLl,hLt⟩:=hI;have hi:=hF3 _ _ hi;have hi2:=hF3 _ _ hi2;have hw:=hw.mono hF3;have hr:=hr.mono hF3;have hAct:=hAct.mono hF3;have hTo:=hTo.mono hF3;refine bf.du ok fok ?_;refine aj ?_;refine bf.du ok fok ?_;refine aj ?_;refine bf.seq (bf.du ok fok ?_);refine aj ?_;refine bf.EG ok fok (S:=Unit) (λ_=>[(12,.int .i64 (lookW g w j:Nat))]) (λ_=>u.s.B::u.B::own) (λ_ _=>True) ?_ (λ_ F4 hF4 _=>?_)
  ·refine AW.cond Z (λh=>?_) (λh=>?_)
   ·have h:j<n:=by simpa using h
    refine aj ?_;refine WT.bG hT hw Z Z Z Z Z Z Z Z Z zo (λy hy b1 off1 ro1 cs1 lx1 hb1 hp1 hrel1=>?_);obtain rfl:lx1=_:=hrel1;obtain rfl:lookW g w j=y:=ll hy;refine aj ?_;exact⟨(),sM,ah.refl _,trivial⟩
   ·have h:j=n:=by simp at h;omega
    have e:lookW g w j=g.ae:=by unfold lookW;rw[Ry zo];rfl
    refine aj ?_;exact⟨(),by rw[e];exact sM,ah.refl _,trivial⟩
  have hi:=hF4 _ _ hi;have hi2:=hF4 _ _ hi2;have hw:=hw.mono hF4;have hr:=hr.mono hF4;have hAct:=hAct.mono hF4;have hTo:=hTo.mono hF4;have hbld:=hbld.mono hF4;have htl:=JQ hw2 j (g:=g);generalize ht:lookW g w j=t at htl;refine bf.seq (bf.du ok fok ?_);refine aj ?_;refine bf.weaken (k2:=[(1,.slice b n d),(2,.pointer (some ⟨i2,0,none⟩)),(6,.slice a1 n1 c1),(7,.slice a2 n2 c2),(9,.pointer (some ⟨i39,0,none⟩)),(10,.slice u.a u.m u.c),(11,.int .i64 j),(12,.int .i64 t),(13,.bool true),(42,.int .i64 ((n+1:Nat):Int)),(43,.int .i64 j)]) sM ?_;refine bf.block ?_
  refine bf.cK (S:=OL) (λv=>[(13,.bool v.again)]) (λv=>v.s.B::u.B::own) (λv _=>m6 g (lP (S.map aP)) (qR S) (jm g rows) w S.length j v.s.abs/\v.s.oi=i34/\(v.again=false->mT g (lP (S.map aP)) (qR S) (jm g rows) v.s.abs j t)/\∀q s,q<j->((q,s)∈aQ v.s.abs↔(q,s)∈aQ u.s.abs)) (λv=>if v.again=true then ((j+1)*S.length)*((j+1)*S.length)-qz v.s.abs+1 else 0) ⟨u.s,true⟩ sM oR ⟨hfin,hoi,λh=>(by cases h),λ_ _ _=>Iff.rfl⟩ ?_;intro v F5 hF5 hv;obtain⟨hfv,hov,hred,hlow⟩:=hv;have hi:=hF5 _ _ hi;have hi2:=hF5 _ _ hi2;have hw:=hw.mono hF5;have hr:=hr.mono hF5
  have hAct:=hAct.mono hF5;have hTo:=hTo.mono hF5;have hbld:=hbld.mono hF5;have hiv:F5 i39=some (.cells false [.int .i64 g.ae,.int .i64 g.ak,.int .i64 g.start,.slice a m c,.map (some v.s.oi)]):=by rw[hov];exact hi
  have hes:=Mg hfv.so zo hfew;refine bf.seq (bf.du ok fok ?_);refine aj ?_;refine bf.cond (b:=v.again) rfl (λh=>?_) (λh=>?_)
  ·refine bf.skip ok fok ?_;show bf CC Tryz.prog 161 _ _ F5 _ _;refine bf.block ?_;refine bf.du ok fok ?_;refine aj ?_;refine bf.seq (bf.region (dJ.take ok fok 2 ?_));refine aj ?_;refine dJ.call ok rfl (λ_=>rfl) (sZ ok fok F5 v.s hiv hfv.so.wf.nd hes j) (Rc _) (λF6 x o hF6 hx=>?_);obtain⟨L,ta,tn,tc,rfl,hL,rfl,hLa⟩:=hx;refine dJ.all ok fok ?_;refine aj ?_;have hi:=hF6 _ _ hi;have hi2:=hF6 _ _ hi2;have hr:=hr.mono hF6;have hAct:=hAct.mono hF6;have hTo:=hTo.mono hF6;have hbld:=hbld.mono hF6;have hLl:=hLa.len;show bf CC Tryz.prog 161 _ _ F6 _ _
   refine bf.weaken (k2:=[(2,.pointer (some ⟨i2,0,none⟩)),(6,.slice a1 n1 c1),(7,.slice a2 n2 c2),(9,.pointer (some ⟨i39,0,none⟩)),(11,.int .i64 j),(12,.int .i64 t),(13,.bool false),(59,.slice ta tn tc),(60,.int .i64 tn),(61,.int .i64 0),(1,.slice b n d),(10,.slice u.a u.m u.c),(42,.int .i64 ((n+1:Nat):Int)),(43,.int .i64 j)]) sM ?_
   refine bf.range ok fok (S:=OL) (λx=>[(13,.bool x.again)]) (λx=>x.s.B::u.B::own) (λi x _=>Jd g (lP (S.map aP)) (qR S) (jm g rows) w S.length j v.s.abs x.s.abs x.again/\x.s.oi=i34/\(x.again=false->∀i',i'<i->∀st,L[i']?=some st->∀z∈fu g (S.getD st []) (rows.getD st []) t,IY g rows v.s.abs j st z)) tn ⟨v.s,false⟩
    Z Z Z Z Z Z Z Z Z (by have:=hL.m5 (hfv.so.wf.nd);have:v.s.es.length=(aQ v.s.abs).length:=by { unfold aQ iu.abs;simp };omega) rfl rfl (λ_=>rfl) (λ_=>rfl) sM oR ⟨Jd.begin hfv,hov,λ_ i' h=>by omega⟩ ?_ ?_
   ·intro i x F7 hF7 hi' hx;obtain⟨hrnd,hox,hdone⟩:=hx;have hi:=hF7 _ _ hi;have hi2:=hF7 _ _ hi2;have hr:=hr.mono hF7;have hAct:=hAct.mono hF7;have hTo:=hTo.mono hF7;have hLa:=hLa.mono hF7;refine bf.du ok fok ?_;refine WT.bG hT hLa Z Z Z Z Z Z Z Z Z zo (λst hstL b1 off1 ro1 cs1 lx1 hb1 hp1 hrel1=>?_);obtain rfl:lx1=_:=hrel1;have hstk:(j,st)∈aQ v.s.abs:=(hL.mem st).1 (gM hstL);have hstl:st<S.length:=(hfv.so.key _ hstk).2.1;obtain⟨al,hal,hat⟩:=EL (S:=S) (rows:=rows) (g:=g) hstl htl;have hAl:(oZ g S rows).length=S.length:=by unfold oZ;simp
    refine aj ?_;refine bf.du ok fok ?_;refine aj ?_;refine WT.bG hT hAct Z Z Z Z Z Z Z Z Z zo (λal' hal' b2 off2 ro2 cs2 lx2 hb2 hp2 hrel2=>?_);obtain rfl:al=al':=by rw[hal] at hal';exact AT hal'
    obtain⟨aa,an,ac,rfl,haa⟩:=hrel2;have hall2:=(gS hat).1;refine aj ?_;refine WT.bG hT haa Z Z Z Z Z Z Z Z Z hall2 (λac' hac' b3 off3 ro3 cs3 lx3 hb3 hp3 hrel3=>?_);have hax1:=xM hg hst hstl (t:=t);generalize hax:fu g (S.getD st []) (rows.getD st []) t=ax at hat hax1;obtain rfl:ax=ac':=by rw[hat] at hac';exact AT hac'
    obtain⟨ba,bn,bc,rfl,hba⟩:=hrel3;have hbl:=hba.len;refine aj ?_;refine bf.weaken (k2:=[(15,.int .i64 st),(71,.slice ba bn bc),(72,.int .i64 bn),(73,.int .i64 0),(62,.bool true),(13,.bool x.again),(2,.pointer (some ⟨i2,0,none⟩)),(6,.slice a1 n1 c1),(7,.slice a2 n2 c2),(9,.pointer (some ⟨i39,0,none⟩)),(11,.int .i64 j),(12,.int .i64 t),(59,.slice ta tn tc),(60,.int .i64 tn),(61,.int .i64 i),(1,.slice b n d),(10,.slice u.a u.m u.c),(42,.int .i64 ((n+1:Nat):Int)),(43,.int .i64 j)]) sM ?_
    refine bf.range ok fok (S:=OL) (λy=>[(13,.bool y.again)]) (λy=>y.s.B::u.B::own) (λi y _=>Jd g (lP (S.map aP)) (qR S) (jm g rows) w S.length j v.s.abs y.s.abs y.again/\y.s.oi=i34/\(y.again=false->x.again=false)/\(y.again=false->∀i',i'<i->∀z,ax[i']?=some z->IY g rows v.s.abs j st z)) bn x
     Z Z Z Z Z Z Z Z Z zo rfl rfl (λ_=>rfl) (λ_=>rfl) sM oR ⟨hrnd,hox,id,λ_ i' h=>by omega⟩ ?_ ?_
    ·intro i3 y F8 hF8 hi3 hy;obtain⟨hyr,hoy,hyx,hyd⟩:=hy;have hi:=hF8 _ _ hi;have hi2:=hF8 _ _ hi2;have hr:=hr.mono hF8;have hTo:=hTo.mono hF8;have hba:=hba.mono hF8;refine bf.du ok fok ?_;refine WT.bG hT hba Z Z Z Z Z Z Z Z Z zo (λz hz b4 off4 ro4 cs4 lx4 hb4 hp4 hrel4=>?_);obtain rfl:lx4=_:=hrel4;refine aj ?_;refine WT.aI hT Z Z Z Z Z Z (λi17 hi17=>?_);refine aj ?_;refine bf.seq (bf.du ok fok ?_);refine aj ?_;refine bf.cond rfl (λh=>?_) (λh=>?_)
     ·refine bf.exit ok fok ?_;have hz2:z.1≠2:=by simp at h;omega
      refine⟨y,sM,cy,hyr,hoy,hyx,λe i' hi' z' hz' e2=>?_⟩;rcases Rw i' i3 with h1 | h1
      ·exact hyd e i' h1 z' hz' e2
      ·obtain rfl:i'=i3:=by omega
       rw[hz] at hz';obtain rfl:=AT hz';exact absurd e2 hz2
     refine bf.skip ok fok ?_;have hz2:z.1=2:=by simp at h;omega
     obtain⟨zk,zn⟩:=z;obtain rfl:zk=2:=hz2;obtain⟨r,hrr,hit,hla⟩:=Kd hA hstl htl (by rw[hax];exact gM hz);have hrrl:=(gS hrr).1;show bf CC Tryz.prog 161 _ _ F8 _ _;refine bf.du ok fok ?_;refine aj ?_;refine WT.bG hT hr Z Z Z Z Z Z Z Z Z hrrl (λr' hr' b5 off5 ro5 cs5 lx5 hb5 hp5 hrel5=>?_);obtain rfl:r=r':=by rw[hrr] at hr';exact AT hr'
     obtain⟨ra,rn,rc,rfl,hra⟩:=hrel5;have hrnl:=hra.len;have hr4:=(hg.right r (gM hrr)).2.1;refine aj ?_;refine WT.aI hT Z Z Z Z Z Z (λi18 hi18=>?_);refine aj ?_;refine bf.rangeMap ok fok [_,_,_,_,_,_,_,_] Z Z Z Z Z Z Z Z Z Z Z Z Z Z Z ?_;refine dJ.take ok fok 7 ?_;refine aj ?_;have hiy:F8 i39=some (.cells false [.int .i64 g.ae,.int .i64 g.ak,.int .i64 g.start,.slice a m c,.map (some y.s.oi)]):=by rw[hoy];exact hi
     have hyk:(j,st)∈aQ y.s.abs:=hyr.keys _ hstk;refine dJ.call ok rfl (λ_=>rfl) (Gl ok fok F8 y.s hiy (λx z hz=>(hyr.fin.so.y5 x z hz).1) (j,st) hyk rn zo) (bX (p:=2) rfl) (λF9 xv o hF9 hv9=>?_);obtain⟨id,l,rfl,rfl,hlnd,hlm⟩:=hv9;refine dJ.nil ?_;have hi:=hF9 _ _ hi;have hTo:=hTo.mono hF9
     refine⟨id,aK j9 (mr l),_,BF.of (S:=OL) (λq=>[(13,.bool q.again)]) (λq=>[(id,m9 l)]::q.s.B::[(i18,.cells false [.int .i64 r.left,.slice ra rn rc])]::[(i17,.cells false [.int .i64 2,.int .i64 zn])]::u.B::own) (λseen q G=>Jd g (lP (S.map aP)) (qR S) (jm g rows) w S.length j v.s.abs q.s.abs q.again/\q.s.oi=i34/\(q.again=false->y.again=false)/\(∀x∈aQ y.s.abs,x∈aQ q.s.abs)/\(q.again=false->∀i∈seen,∀x,l[i]?=some x->∀s',jm g rows x.2 ⟨false,r.left⟩=some s'->x∈bl v.s.abs (j,s'))) y rfl ⟨_,_,dP hT rfl rfl⟩ (λp hp=>?_) rfl rfl (λ_=>⟨rfl,rfl,rfl,rfl⟩) sM oR ⟨hyr,hoy,λh=>h,λ_ h=>h,λ_ i h=>(by cases h)⟩ (λseen q F hI h hs=>St.has (p:=0) hs rfl me) (λii seen q F10 hF10 hq ix p hp hns=>?_) (λseen q F10 hF10 hq hall=>?_)⟩
     ·obtain⟨e,he,rfl⟩:=Rg.1 hp;rfl
     ·obtain⟨hqr,hoq,hqy,hqk,hqd⟩:=hq;have hi:=hF10 _ _ hi;have hTo:=hTo.mono hF10;obtain⟨x',hx',rfl⟩:∃x',l[ix]?=some x'/\p=(j9.key x',.bool true):=by
       unfold aK mr at hp;rw[Re,Re] at hp;cases hm:l[ix]? with
       | none=>rw[hm] at hp;cases hp
       | some x0=>rw[hm] at hp;cases hp;exact⟨x0,rfl,rfl⟩
      have hdn:=(hlm x').1 (gM hx');rw[hrnl] at hdn;obtain⟨s',T,hgo,hTr⟩:=hyr.fin.so.red hLR hrr hit hdn;obtain⟨row,hrow,hrs'⟩:=N6 hgo;have hxk:=hqk _ (hyr.fin.so.Nk hyk hdn);have hs'l:=LM hg hA hgo;have hiq:F10 i39=some (.cells false [.int .i64 g.ae,.int .i64 g.ak,.int .i64 g.start,.slice a m c,.map (some q.s.oi)]):=by rw[hoq];exact hi
      have hadd:=hqr.add hxk hgo hs'l hTr;refine dJ.weaken (k2:=(97,.tuple ⟨[.agg ⟨[.int .i64 x'.1,.int .i64 x'.2]⟩,.bool true]⟩)::_) (λ_ _ h=>h) (dJ.rv ok fok ?_);refine aj ?_;refine WT.aI hT Z Z Z Z Z Z (λi19 hi19=>?_);refine aj ?_;refine bf.fY ok fok ?_;refine aj ?_;refine WT.bG hT hTo Z Z Z Z Z Z Z Z Z (gS hrow).1 (λrow' hrow' b6 off6 ro6 cs6 lx6 hb6 hp6 hrel6=>?_);obtain rfl:row=row':=by rw[hrow] at hrow';exact AT hrow'
      obtain⟨wa,wn,wc,rfl,hrowA⟩:=hrel6;have hrowl:=hrowA.len;have hrl2:=(gS hrs').1;refine aj ?_;refine WT.bG hT hrowA Z Z Z Z Z Z Z Z Z hrl2 (λs2 hs2 b7 off7 ro7 cs7 lx7 hb7 hp7 hrel7=>?_);obtain rfl:(s':Int)=s2:=by rw[hrs'] at hs2;exact AT hs2
      obtain rfl:lx7=_:=hrel7;refine aj ?_;refine WT.bW 2 Tryz.func164 Z Z Z Z Z Z Z (λ_=>rfl) (BA F10 q.s hiq (j,s') x') (λF11 bv B' hF11 hv11=>?_);obtain⟨s3,rfl,hs3o,hs3a,rfl⟩:=hv11;have hs3:s3.oi=i34:=hs3o.trans hoq;rw[<-hs3a] at hadd;refine aj ?_;refine WT.split 113 Z (λhb=>?_) (λhb=>?_)
      ·rw[hb] at hadd;refine aj ?_;exact⟨rfl,⟨s3,true⟩,sM,ah.skip _ oR,hadd,hs3,λe=>(by cases e),λx0 h0=>by rw[hs3a];exact eZ.2 (.inl (hqk x0 h0)),λe=>(by cases e)⟩
      ·rw[hb] at hadd;have hold:x'∈bl q.s.abs (j,s'):=by simpa using hb
       refine aj ?_;refine⟨rfl,⟨s3,q.again⟩,sM,ah.skip _ oR,hadd,hs3,hqy,λx0 h0=>by rw[hs3a];exact eZ.2 (.inl (hqk x0 h0)),λe i0 hi0 x0 hx0 s0 hs0=>?_⟩;rcases Rt.1 hi0 with rfl | hi0
       ·rw[hx'] at hx0;obtain rfl:=AT hx0;rw[hgo] at hs0;obtain rfl:=AT hs0;rw[<-hqr.same e];exact hold
       ·exact hqd e i0 hi0 x0 hx0 s0 hs0
     ·obtain⟨hqr,hoq,hqy,hqk,hqd⟩:=hq;refine⟨q,sM,ah.skip _ (ah.cons _ (ah.skip _ (ah.skip _ oR))),hqr,hoq,λe=>hyx (hqy e),λe i' hi' z' hz' e2 r' hr' x' hx' s' hs'=>?_⟩;rcases Rw i' i3 with h1 | h1
      ·exact hyd (hqy e) i' h1 z' hz' e2 r' hr' x' hx' s' hs'
      ·obtain rfl:i'=i3:=by omega
       rw[hz] at hz';obtain rfl:=AT hz';rw[hrr] at hr';obtain rfl:=AT hr';rw[<-hyr.same (hqy e),<-hrnl] at hx';obtain⟨ix,hix,rfl⟩:=R2 ((hlm x').2 hx');exact hqd e ix (hall ix (by unfold aK mr;simpa using hix)) _ (gE hix) s' hs'
    ·intro y F8 hF8 hy;obtain⟨hyr,hoy,hyx,hyd⟩:=hy;refine⟨y,sM,ah.refl _,hyr,hoy,λe i' hi' st' hst' z hz=>?_⟩;rcases Rw i' i with h1 | h1
     ·exact hdone (hyx e) i' h1 st' hst' z hz
     ·obtain rfl:i'=i:=by omega
      rw[hstL] at hst';obtain rfl:=AT hst';rw[hax] at hz;obtain⟨iz,hiz,rfl⟩:=R2 hz;exact hyd e iz zo _ (gE hiz)
   ·intro x F7 hF7 hx;obtain⟨hrnd,hox,hdone⟩:=hx;refine⟨x,?_,sM,ah.refl _,hrnd.fin,hox,λe=>?_,λq s hq=>(hrnd.low q s hq).trans (hlow q s hq)⟩
    ·have h1:=hrnd.fin.so.Ar;rw[h,If rfl];by_cases e:x.again=true
     ·have:=hrnd.more e;rw[If e];omega
     ·rw[By e];omega
    ·have e1:=hrnd.same e;rw[e1];refine I0 hA htl (λx hx=>(hfv.so.key x hx).2.1) λs hs z hz=>?_;obtain⟨is,his,rfl⟩:=R2 ((hL.mem s).2 hs);exact hdone e is zo _ (gE his) z hz
  ·refine bf.exit ok fok ?_;have hredv:=hred h;show bf CC Tryz.prog 161 _ _ F5 _ _;refine bf.seq (bf.region (dJ.take ok fok 3 ?_));refine aj ?_;refine dJ.call ok rfl (λ_=>rfl) (sZ ok fok F5 v.s hiv hfv.so.wf.nd hes j) (Rc _) (λF6 x o hF6 hx=>?_);obtain⟨L,ta,tn,tc,rfl,hL,rfl,hLa⟩:=hx;have hbl:=hbld.len;refine dJ.all ok fok ?_;refine WT.bd hT Z Z Z Z Z Z Z Z Z Z Z Z Z Z (λi122 hi122=>?_)
   refine WT.bP (R:=cg eS) (ys:=[L]) hT 2 (hbld.mono hF6) Z (λ_=>rfl) Z Z Z Z Z Z Z Z Z Z Z (λh0 s0=>bh hT s0 0 Z Z Z Z) (aF.single (R:=cg eS) (x:=L) ⟨_,_,_,rfl,hLa⟩) Z (by decide) kq (λa3 c3 B3 hB3=>?_);refine aj ?_;have hi:=hF6 _ _ hi;have hiv:=hF6 _ _ hiv;have hAct:=hAct.mono hF6;refine bf.le (own2:=v.s.B::B3::own) (ah.skip _ oR) ?_
   refine bf.weaken (k2:=[(10,.slice a3 (u.m+1) c3),(1,.slice b n d),(2,.pointer (some ⟨i2,0,none⟩)),(6,.slice a1 n1 c1),(7,.slice a2 n2 c2),(9,.pointer (some ⟨i39,0,none⟩)),(11,.int .i64 j),(12,.int .i64 t),(42,.int .i64 ((n+1:Nat):Int)),(43,.int .i64 j)]) sM ?_;refine bf.seq (bf.region (dJ.take ok fok 2 ?_));refine aj ?_;refine dJ.call ok rfl (λ_=>rfl) (sZ ok fok F6 v.s hiv hfv.so.wf.nd hes j) (Rc _) (λF7 x o hF7 hx=>?_);obtain⟨L2,sa,sn,sc,rfl,hL2,rfl,hLa2⟩:=hx;have hi:=hF7 _ _ hi;have hAct:=hAct.mono hF7;have hLl2:=hLa2.len
   have hL2f:L2.length<=v.s.es.length:=by
    have h1:=hL2.m5 hfv.so.wf.nd;unfold aQ iu.abs at h1;simpa using h1
   refine dJ.all ok fok ?_;refine aj ?_;refine bf.fY ok fok ?_;refine AW.range (S:=iu) (λ_=>[]) (λx=>x.B::B3::own) (λi x _=>JN g (lP (S.map aP)) (qR S) (jm g rows) w S.length j v.s.abs x.abs/\x.oi=i34/\∀i',i'<i->∀st,L2[i']?=some st->∀z∈fu g (S.getD st []) (rows.getD st []) t,Jz x.abs j st z) sn v.s
    Z Z Z Z Z Z Z Z Z zo rfl rfl (λ_=>rfl) (λ_=>rfl) sM oR ⟨JN.begin hfv (by rw[ht];exact hredv),hov,λi' h=>by omega⟩ ?_ ?_
   ·intro i x F8 hF8 hi' hx;obtain⟨hsh,hox,hdone⟩:=hx;have hi:=hF8 _ _ hi;have hAct:=hAct.mono hF8;have hLa2:=hLa2.mono hF8;refine aj ?_;refine WT.bG hT hLa2 Z Z Z Z Z Z Z Z Z zo (λst hstL b1 off1 ro1 cs1 lx1 hb1 hp1 hrel1=>?_);obtain rfl:lx1=_:=hrel1;have hstk:(j,st)∈aQ v.s.abs:=(hL2.mem st).1 (gM hstL);have hstl:st<S.length:=(hfv.so.key _ hstk).2.1;obtain⟨al,hal,hat⟩:=EL (S:=S) (rows:=rows) (g:=g) hstl htl;have hAl:(oZ g S rows).length=S.length:=by unfold oZ;simp
    refine aj ?_;refine WT.bG hT hAct Z Z Z Z Z Z Z Z Z zo (λal' hal' b2 off2 ro2 cs2 lx2 hb2 hp2 hrel2=>?_);obtain rfl:al=al':=by rw[hal] at hal';exact AT hal'
    obtain⟨aa,an,ac,rfl,haa⟩:=hrel2;have hall2:=(gS hat).1;refine aj ?_;refine WT.bG hT haa Z Z Z Z Z Z Z Z Z hall2 (λac' hac' b3 off3 ro3 cs3 lx3 hb3 hp3 hrel3=>?_);have hax1:=xM hg hst hstl (t:=t);generalize hax:fu g (S.getD st []) (rows.getD st []) t=ax at hat hax1;obtain rfl:ax=ac':=by rw[hat] at hac';exact AT hac'
    obtain⟨ba,bn,bc,rfl,hba⟩:=hrel3;have hbl2:=hba.len;refine aj ?_;refine AW.range (S:=iu) (λ_=>[]) (λy=>y.B::B3::own) (λi y _=>JN g (lP (S.map aP)) (qR S) (jm g rows) w S.length j v.s.abs y.abs/\y.oi=i34/\(∀p q,q∈bl x.abs p->q∈bl y.abs p)/\∀i',i'<i->∀z,ax[i']?=some z->Jz y.abs j st z) bn x
     Z Z Z Z Z Z Z Z Z zo rfl rfl (λ_=>rfl) (λ_=>rfl) sM oR ⟨hsh,hox,λ_ _ h=>h,λi' h=>by omega⟩ ?_ ?_
    ·intro i3 y F9 hF9 hi3 hy;obtain⟨hys,hoy,hym,hyd⟩:=hy;have hi:=hF9 _ _ hi;have hba:=hba.mono hF9;refine aj ?_;refine WT.bG hT hba Z Z Z Z Z Z Z Z Z zo (λz hz b4 off4 ro4 cs4 lx4 hb4 hp4 hrel4=>?_);obtain rfl:lx4=_:=hrel4;refine aj ?_;refine WT.aI hT Z Z Z Z Z Z (λi23 hi23=>?_);refine aj ?_;refine AW.cond Z (λh=>?_) (λh=>?_)
     ·have hz1:z.1=1:=by simp at h;omega
      obtain⟨zk,zn⟩:=z;obtain rfl:zk=1:=hz1;obtain⟨htt,hgo⟩:=MO hA hstl htl (by rw[hax];exact gM hz);have hwt:w[j]?=some t:=by
       unfold lookW at ht;cases hwj:w[j]? with
       | none=>rw[hwj] at ht;simp at ht;omega
       | some y=>rw[hwj] at ht;exact congrArg some ht
      have hiy:F9 i39=some (.cells false [.int .i64 g.ae,.int .i64 g.ak,.int .i64 g.start,.slice a m c,.map (some y.oi)]):=by rw[hoy];exact hi
      have hadd:=hys.add ((hys.low j st (SK j)).2 hstk) hwt hgo (LM hg hA hgo);refine aj ?_;refine WT.bW 1 Tryz.func164 Z Z Z Z Z Z Z (λ_=>rfl) (BA F9 y hiy (j+1,zn) (j,st)) (λF10 bv B' hF10 hv10=>?_);obtain⟨s3,rfl,hs3o,hs3a,rfl⟩:=hv10;rw[<-hs3a] at hadd;refine aj ?_;refine⟨s3,sM,cy,hadd,hs3o.trans hoy,λp q hq=>by rw[hs3a];exact dv.2 (.inl (hym p q hq)),λi' hi' z' hz' e=>?_⟩;rw[hs3a];rcases Rw i' i3 with h1 | h1
      ·exact dv.2 (.inl (hyd i' h1 z' hz' e))
      ·obtain rfl:i'=i3:=by omega
       rw[hz] at hz';obtain rfl:=AT hz';exact dv.2 (.inr ⟨rfl,rfl⟩)
     ·have hz1:z.1≠1:=by simp at h;omega
      refine aj ?_;refine⟨y,sM,cy,hys,hoy,hym,λi' hi' z' hz' e=>?_⟩;rcases Rw i' i3 with h1 | h1
      ·exact hyd i' h1 z' hz' e
      ·obtain rfl:i'=i3:=by omega
       rw[hz] at hz';obtain rfl:=AT hz';exact absurd e hz1
    ·intro y F9 hF9 hy;obtain⟨hys,hoy,hym,hyd⟩:=hy;refine⟨y,sM,ah.refl _,hys,hoy,λi' hi' st' hst' z hz=>?_⟩;rcases Rw i' i with h1 | h1
     ·exact λe=>hym _ _ (hdone i' h1 st' hst' z hz e)
     ·obtain rfl:i'=i:=by omega
      rw[hstL] at hst';obtain rfl:=AT hst';rw[hax] at hz;obtain⟨iz,hiz,rfl⟩:=R2 hz;exact hyd iz zo _ (gE hiz)
   ·intro x F8 hF8 hx;obtain⟨hsh,hox,hdone⟩:=hx;have hfin':=hsh.fin λt' ht'=>by
     have htt:t'=t:=by rw[<-ht];exact(ll ht').symm
     subst htt;refine Ke hA (hw2 _ (gM ht')) (λx hx=>(hsh.so.key x hx).2.1) λs hs z hz=>?_;obtain⟨is,his,rfl⟩:=R2 ((hL2.mem s).2 ((hsh.low j s (SK j)).1 hs));exact hdone is zo _ (gE his) z hz
    refine⟨⟨x,a3,u.m+1,c3,B3,u.L++[L]⟩,sM,ah.refl _,hfin',hox,(hB3.mono hF7).mono hF8,by rw[Rf,hLl];rfl,λq l hl=>?_⟩;rcases Rw q u.L.length with h1 | h1
    ·rw[Rj h1] at hl;have:=hLt q l hl;exact⟨this.sorted,λs=>((this.mem s).trans (hlow q s zo).symm).trans (hsh.low q s zo).symm⟩
    ·have hql:=(gS hl).1;rw[Rf,Sx] at hql;obtain rfl:q=u.L.length:=by omega
     rw[Rs (AS _),SV] at hl;obtain rfl:=AT hl;rw[hLl];exact⟨hL.sorted,λs=>(hL.mem s).trans (hsh.low j s (SK j)).symm⟩
 ·intro u F3 hF3 hI;obtain⟨hfin,hoi,hbld,hLl,hLt⟩:=hI;refine bf.fY ok fok ?_;refine aj ?_;refine AW.aw 1 Z Z (λF4 hF4 hB4=>?_);have hfz:=hbld.frozen hF4 hB4;rw[hwl] at hLl hfin;exact AW.ret ⟨_,[],⟨_,_,rfl,⟨_,_,rfl,rfl,rfl⟩,rfl⟩,bU,rfl,u.s.abs,u.L,_,_,_,rfl,hfz,hLl,hfin,hLt⟩
def G5 (g : af) (S : List (List bL)) (rows : List (List Int)) (w : List Nat) (F' : ar) (v : Value) : Prop := ∃ G L a1 n1 c1, v = .tuple ⟨[.slice a1 n1 c1, .int .i64 0]⟩ /\ bw (cg eS) F' a1 n1 c1 L /\ L.length = w.length + 1 /\
      m6 g (lP (S.map aP)) (qR S) (jm g rows) w S.length (w.length+1) G/\∀q l,L[q]?=some l->nI G q l
theorem py(ok:CC.Ok Tryz.prog)(fok:bH CC Tryz.prog)(F:ar)(hL:Laid F)(g:af)(hg:Valid g)(ht5:g.ae<=5){a:Option Addr}{m c:Nat}(hr:bw bK F a m c g.rules){b:Option Addr}{n d:Nat}{w:List Nat}(hw:bw eS F b n d w)(hw1:w.length<=12)(hw2:∀t∈w,t<g.ae)
  {S:List (List bL)} {rows:List (List Int)} (hst:cW g 1=some (S,rows)) :
  cm CC Tryz.prog 50 [.agg ⟨ai g a m c⟩,.slice b n d] F [] λF' v o=>o=[]/\G5 g S rows w F' v:=by
 refine cm.fn (n:=22) ok Tryz.func50 rfl rfl λown=>?_;refine bf.du ok fok ?_;refine WT.cC Z Z Z Z Z Z (λi2 hi2=>?_);refine WT.aw 0 Z Z (λF0 hF0 hB0=>?_);have hi2:=hB0 i2 _ me;have hr:=hr.mono hF0;have hw:=hw.mono hF0;have hL:=hL.mono hF0;unfold ai at hi2 ⊢;refine aj ?_;refine bf.seq (bf.du ok fok ?_);refine aj ?_;have hac:=Ao F0 hL g hg hr hw hw1 hw2;unfold ai at hac;refine WT.bN Tryz.func62 Z Z Z Z Z Z hac (λv hv=>?_);subst hv;refine aj ?_;refine bf.du ok fok ?_;refine aj ?_;refine bf.cond rfl (λh=>(by cases h)) (λ_=>?_)
 refine bf.skip ok fok ?_;show bf CC Tryz.prog 22 _ _ F0 _ _;refine bf.seq (bf.region (dJ.take ok fok 2 ?_));refine aj ?_;have hrun:=Iq ok fok F0 g hg ht5 hr hw hw1 hw2 hst;unfold ai at hrun;refine dJ.call ok rfl (λ_=>rfl) hrun (Rc _) (λF1 v o hF1 hv=>?_);obtain⟨rfl,G,L,a1,n1,c1,rfl,h1,h2⟩:=hv;refine dJ.all ok fok ?_;refine aj ?_;refine bf.fY ok fok ?_;exact AW.ret ⟨_,[],⟨_,_,rfl,⟨_,_,rfl,rfl,rfl⟩,rfl⟩,bU,rfl,G,L,_,_,_,rfl,h1,h2⟩
theorem qt(ok:CC.Ok Tryz.prog)(fok:bH CC Tryz.prog)(F:ar)(hL:Laid F)(g:af)(hg:Valid g)(ht5:g.ae<=5){a:Option Addr}{m c:Nat}(hr:bw bK F a m c g.rules){b:Option Addr}{n d:Nat}{w:List Nat}(hw:bw eS F b n d w)(hw1:w.length<=12)(hw2:∀t∈w,t<g.ae)
  {S:List (List bL)} {rows:List (List Int)} (hst:cW g 1=some (S,rows)) :
  cm CC Tryz.prog 15 [.agg ⟨ai g a m c⟩,.slice b n d] F [] λF' v o=>o=[]/\G5 g S rows w F' v:=by
 refine cm.fn (n:=11) ok Tryz.func15 rfl rfl λown=>?_;refine bf.du ok fok ?_;refine WT.cC Z Z Z Z Z Z (λi2 hi2=>?_);refine WT.aw 0 Z Z (λF0 hF0 hB0=>?_);have hi2:=hB0 i2 _ me;have hr:=hr.mono hF0;have hw:=hw.mono hF0;have hL:=hL.mono hF0;unfold ai at hi2 ⊢;refine aj ?_;refine bf.seq (bf.region (dJ.take ok fok 2 ?_));refine aj ?_;have hrun:=py ok fok F0 hL g hg ht5 hr hw hw1 hw2 hst;unfold ai at hrun;refine dJ.call ok rfl (λ_=>rfl) hrun (Rc _) (λF1 v o hF1 hv=>?_);obtain⟨rfl,G,L,a1,n1,c1,rfl,h1,h2⟩:=hv
 refine dJ.all ok fok ?_;refine aj ?_;refine bf.fY ok fok ?_;exact AW.ret ⟨_,[],⟨_,_,rfl,⟨_,_,rfl,rfl,rfl⟩,rfl⟩,bU,rfl,G,L,_,_,_,rfl,h1,h2⟩
def fN:af:=⟨1,1,0,[⟨0,[⟨false,0⟩,⟨false,0⟩]⟩,⟨0,[⟨true,0⟩]⟩]⟩
def Ms:List Nat:=[0,0]
theorem xG:Small fN where
 ae:=by decide
 ak:=by decide
 start:=by decide
 rules:=by decide
 nodup:=by decide
 ok:=by
  intro r hr;simp only[fN,Rt,Sz,T5] at hr;rcases hr with rfl | rfl
  ·refine⟨by decide,by decide,λy hy=>?_⟩;simp only[Rt,Sz,T5] at hy;rcases hy with rfl | rfl<;>simp[bZ,fN]
  ·refine⟨by decide,by decide,λy hy=>?_⟩;simp only[Rt,Sz,T5] at hy;subst hy;simp[bZ,fN]
def nK(g:af)(L:List Lr):List Lr:=(List.range g.rules.length).filterMap λk=>match g.rules[k]? with
 | some r=>if L.any (λx=>decide (aR g x=some ⟨false,r.left⟩)) then some ⟨k,0⟩ else none
 | none=>none
def sP(g:af):Nat->List Lr->List Lr
 | 0,L=>L
 | n+1,L=>sP g n (L++(nK g L).filter λz=>!decide (z∈L))
def yi(g:af)(l:List Lr):Option (List Lr):=
 if (nK g (sP g (g.rules.length+1) l)).all λz=>decide (z∈sP g (g.rules.length+1) l) then some ((rr g).filter λz=>decide (z∈sP g (g.rules.length+1) l)) else none
theorem qB{g:af}{L:List Lr}{z:Lr}:z∈nK g L↔∃k r x,z=⟨k,0⟩/\g.rules[k]?=some r/\x∈L/\aR g x=some ⟨false,r.left⟩:=by
 unfold nK;rw[T0];constructor
 ·rintro⟨k,hk,h⟩;split at h
  ·rename_i r hr;split at h
   ·rename_i ha;obtain⟨x,hx,hd⟩:=RZ.1 ha;exact⟨k,r,x,(AT h).symm,hr,hx,Sm hd⟩
   ·cases h
  ·cases h
 ·rintro⟨k,r,x,rfl,hr,hx,ha⟩;refine⟨k,Rm.2 (gS hr).1,?_⟩;rw[hr];dsimp only;rw[If (RZ.2 ⟨x,hx,decide_eq_true ha⟩)]
theorem rk{g:af}{l:List Lr}:∀(n:Nat) {L:List Lr},(∀x∈L,eT g l x)->∀x∈sP g n L,eT g l x
 | 0,_,h=>h
 | n+1,L,h=>rk n (L:=L++(nK g L).filter λz=>!decide (z∈L)) λx hx=>by
  rcases Rx.1 hx with hx | hx
  ·exact h x hx
  ·obtain⟨k,r,y,rfl,hr,hy,ha⟩:=qB.1 (Ra.1 hx).1;exact .more (h y hy) ha hr rfl
theorem ub{g:af}:∀(n:Nat) {L:List Lr} {x:Lr},x∈L->x∈sP g n L
 | 0,_,_,h=>h
 | n+1,L,x,h=>ub n (R6 _ h)
theorem AA{g:af}{l m:List Lr}(h:yi g l=some m):fD g l=m:=by
 unfold yi at h;split at h
 ·rename_i hc;obtain rfl:=AT h;unfold fD;refine List.filter_congr λz hz0=>?_;clear hz0;rw[SH,@decide_eq_true_iff _ (Classical.propDecidable _),decide_eq_true_iff];constructor
  ·intro hz
   induction hz with
   | base h=>exact ub _ h
   | more h1 h2 h3 h4 ih=>
    subst h4;exact Sm (Sf.1 hc _ (qB.2 ⟨_,_,_,rfl,h3,ih,h2⟩))
  ·exact rk _ (λx hx=>.base hx) z
 ·cases h
def x6(g:af)(st:List Lr):List Sym->Option (List (Option (List Lr)))
 | []=>some []
 | y::ys=>match x6 g st ys with
  | none=>none
  | some os=>if ff g st y=[] then some (none::os) else match yi g (ff g st y) with
   | none=>none
   | some s=>some (some s::os)
theorem BQ{g:af}{st:List Lr}:∀{ys:List Sym} {os:List (Option (List Lr))},x6 g st ys=some os->(ys.map λy=>if ff g st y=[] then none else some (fD g (ff g st y)))=os
 | [],os,h=>by cases h;rfl
 | y::ys,os,h=>by
  unfold x6 at h;cases h1:x6 g st ys with
  | none=>rw[h1] at h;cases h
  | some os1=>
   rw[h1] at h;dsimp only at h;rw[Na,BQ h1];split at h
   ·rename_i hk;cases h;rw[If hk]
   ·rename_i hk;cases h2:yi g (ff g st y) with
    | none=>rw[h2] at h;cases h
    | some s=>
     rw[h2] at h;cases h;rw[By hk,AA h2]
def JX(g:af):Nat->Nat->List (List Lr)->List (List Int)->Option (List (List Lr)×List (List Int))
 | 0,_,_,_=>none
 | f+1,i,br,rows=>match br[i]? with
  | none=>some (br,rows)
  | some st=>match x6 g st (cu g) with
   | none=>none
   | some os=>if (bQ br os).1.length<=400 then JX g f (i+1) (bQ br os).1 (rows++[(bQ br os).2]) else none
theorem En{g:af}:∀(f f' i:Nat) {br:List (List Lr)} {rows:List (List Int)} {r},f<=f'->JX g f i br rows=some r->mf 400 (rG g) f' i br rows=some r
 | 0,_,_,_,_,_,_,h=>by cases h
 | f+1,0,_,_,_,_,hf,_=>by omega
 | f+1,f'+1,i,br,rows,r,hf,h=>by
  unfold JX at h;unfold mf;cases hs:br[i]? with
  | none=>rw[hs] at h;exact h
  | some st=>
   rw[hs] at h;dsimp only at h ⊢;cases h1:x6 g st (cu g) with
   | none=>rw[h1] at h;cases h
   | some os=>
    rw[h1] at h;dsimp only at h;have e:rG g st=os:=BQ h1;rw[e];split at h
    ·rename_i hl;rw[If hl];exact En f f' (i+1) zo h
    ·cases h
def IE(g:af):Option (List (List Lr)×List (List Int)):=match yi g [⟨g.rules.length,0⟩] with
 | none=>none
 | some s=>JX g 40 0 [s] []
theorem JE{g:af}{r}(h:IE g=some r):kB g=some r:=by
 unfold IE at h;cases h1:yi g [⟨g.rules.length,0⟩] with
 | none=>rw[h1] at h;cases h
 | some s=>
  rw[h1] at h;unfold kB lW;rw[AA h1];exact En 40 401 0 (by decide) h
def IA:List (List Lr):=[[⟨0,0⟩,⟨1,0⟩,⟨2,0⟩],[⟨1,1⟩],[⟨0,0⟩,⟨0,1⟩,⟨1,0⟩,⟨2,1⟩],[⟨0,0⟩,⟨0,1⟩,⟨0,2⟩,⟨1,0⟩]]
def wY:List (List Int):=[[1,2],[-1,-1],[1,3],[1,3]]
theorem Ho:IE fN=some (IA,wY):=by decide +kernel
theorem Dk:∃S,cW fN 1=some (S,wY)/\S.map aP=IA:=by
 have hA:=JE Ho;exact⟨kJ fN IA (λ_=>nG fN),by unfold cW;rw[By (by decide),hA];rfl,nu⟩
theorem KT{n:Nat}(h:GW fN n):False:=by
 induction h with
 | mk h1 h2 h3 ih=>
  simp only[fN,Rt,Sz,T5] at h1;rcases h1 with rfl | rfl
  ·exact ih _ me
  ·have:=h2 _ me;cases this
theorem v8{w:List Nat}{y:Sym}{T:Tree}{i j:Nat}(h:bj fN w y T i j):i<j:=by
 have h1:=(bj.le h).1;rcases Rw i j with h2 | h2
 ·exact h2
 ·exact(KT ((bj.begin h).1 zo).2).elim
theorem Jr{w:List Nat}{i:Nat}(h:w[i]?=some 0):bj fN w ⟨false,0⟩ (.mk 1 0 [.mk (-1) 0 []]) i (i+1):=.node (k:=1) (r:=⟨0,[⟨true,0⟩]⟩) rfl (.cons (.leaf h) .nil)
theorem K6{s s':Nat}{y:Sym}(h:jm fN wY s y=some s'):y=⟨true,0⟩\/y=⟨false,0⟩:=by
 unfold jm at h;split at h
 ·rename_i hb;have hb:=lI.1 hb;obtain⟨b,n⟩:=y;cases b with
  | true=>have hb:n<1:=hb;left;congr 1;omega
  | false=>have hb:n<1:=hb;right;congr 1;omega
 ·cases h
theorem Hk{w σ:List Nat}{τ:List Tree}{i:Nat}(h:xq fN (jm fN wY) w σ τ i):i=0->σ=[0]:=by
 intro hi;cases h with
 | nil=>rfl
 | snoc h1 h2 h3=>exact absurd (v8 h3) zo
theorem IF{la:Nat->Lr->Nat->Prop}{G:Gr}{n:Nat}{L:List Nat}(ok:o7 fN (lP IA) la (jm fN wY))(h:m6 fN (lP IA) la (jm fN wY) [0] n 2 G)(hL:nI G 1 L):L=[1,2]:=by
 have h1:∀s,(1,s)∈aQ G->s=1\/s=2:=by
  intro s hs;obtain⟨_,_,σ,τ,hl⟩:=h.so.key _ hs;generalize hσ:σ++[s]=σ' at hl;replace hl:xq fN (jm fN wY) [0] σ' τ 1:=hl;obtain⟨i,hi⟩:∃i,i=1:=⟨1,rfl⟩;rw[<-hi] at hl;cases hl with
  | nil=>exact absurd hi (by decide)
  | @snoc σ0 τ0 i0 j s0 s' y T h1 h2 h3=>
   have hlt:=v8 h3;obtain rfl:i0=0:=by omega
   have e:=Hk h1 rfl;have e0:s0=0:=by
    cases σ0 with
    | nil=>simpa using e
    | cons a l=>simp at e
   have e1:s=s':=by
    have:=congrArg List.getLast? hσ;simpa using this
   subst e0 e1;rcases K6 h2 with rfl | rfl
   ·left;exact(AT (h2.symm.trans (show jm fN wY 0 ⟨true,0⟩=some 1 from rfl)))
   ·right;exact(AT (h2.symm.trans (show jm fN wY 0 ⟨false,0⟩=some 2 from rfl)))
 have h2:(1,1)∈aQ G:=fP (h.sh 0 0 (by decide) rfl 0 1 h.bot rfl);have h3:(1,2)∈aQ G:=by
  obtain⟨s',e1,e2⟩:=bj.graph (p:=1) ok (λj hj=>h.red j zo) (λj t hj ht=>h.sh j t zo ht) (Jr (w:=[0]) (i:=0) rfl) (AS _) (s:=0) (x:=⟨fN.rules.length,0⟩) h.bot ok.start ⟨_,ok.zN⟩ rfl (.inr ⟨λ_ h=>(by cases h),ok.zN⟩);obtain rfl:=AT ((show jm fN wY 0 ⟨false,0⟩=some 2 from rfl).symm.trans e1);exact fP e2
 have hn:L.Nodup:=hL.sorted.imp λh=>Nat.ne_of_lt h;have hp:L.Perm [1,2]:=(Tk hn (by decide)).2 λs=>by
  rw[hL.mem];constructor
  ·intro h;rcases h1 s h with rfl | rfl<;>simp
  ·intro h;rcases Rt.1 h with rfl | h
   ·exact h2
   ·obtain rfl:=Rh.1 h;exact h3
 exact hp.eq_of_pairwise (λa b _ _ h1 h2=>by omega) hL.sorted (by decide)
def NN:List Value:=[.agg ⟨[.int .i64 1,.int .i64 1,.int .i64 0,.slice (some ⟨3,0,none⟩) 2 2]⟩,.slice (some ⟨6,0,none⟩) 2 1]
def LD:List (Nat×aD):=gA++[(3,.cells true [.int .i64 0,.slice (some ⟨4,0,none⟩) 2 2,.int .i64 0,.slice (some ⟨5,0,none⟩) 1 2]),(4,.cells true [.bool false,.int .i64 0,.bool false,.int .i64 0]),(5,.cells true [.bool true,.int .i64 0]),(6,.cells true [.int .i64 0,.int .i64 0])]
def y0:Value->Bool
 | .tuple ⟨[.agg ⟨[.slice (some _) n _,.int .i64 _]⟩,.int .i64 e]⟩=>n==5&&e==0
 | _=>false
theorem Cs{v:Value}(h:y0 v=true):∃a c r,v=.tuple ⟨[.agg ⟨[.slice (some a) 5 c,.int .i64 r]⟩,.int .i64 0]⟩:=by
 unfold y0 at h;split at h
 ·simp only[IN,Sb] at h;obtain⟨rfl,rfl⟩:=h;exact⟨_,_,_,rfl⟩
 ·cases h
theorem K2:(match call CC 100000 20 NN ⟨7,gk LD⟩ with | some (v,_)=>y0 v | none=>false)=true:=by decide +kernel
structure Gn(F:ar)(ir i5 i8:Nat):Prop where
 r:F ir=some (.cells false [.int .i64 0,.slice (some ⟨i5,0,none⟩) 2 2,.int .i64 0,.slice (some ⟨i8,0,none⟩) 1 2])
 a:F i5=some (.cells false [.bool false,.int .i64 0,.bool false,.int .i64 0])
 b:F i8=some (.cells false [.bool true,.int .i64 0])
theorem Gn.mono{F G:ar}{ir i5 i8:Nat}(h:Gn F ir i5 i8)(hF:ar.le F G):Gn G ir i5 i8:=⟨hF _ _ h.r,hF _ _ h.a,hF _ _ h.b⟩
def NY(ir i5 i8 iw:Nat)(σ:aZ):aZ
 | 0=>σ 0
 | 1=>σ 1
 | 2=>σ 2
 | 3=>σ ir
 | 4=>σ i5
 | 5=>σ i8
 | 6=>σ iw
 | _=>none
theorem yS(ok:CC.Ok Tryz.prog)(fok:bH CC Tryz.prog)(F:ar)(hL:Laid F){ir i5 i8 iw:Nat}(hD:Gn F ir i5 i8)(hw:F iw=some (.cells false [.int .i64 0,.int .i64 0])) :
  cm CC Tryz.prog 20 [.agg ⟨ai fN (some ⟨ir,0,none⟩) 2 2⟩,.slice (some ⟨iw,0,none⟩) 2 1] F [] λ_ v o=>o=[]/\∃a c r,v=.tuple ⟨[.agg ⟨[.slice a 5 c,.int .i64 r]⟩,.int .i64 0]⟩:=by
 have hr:=K2;split at hr
 ·rename_i v0 h1 hc;refine cm.mono (cm.closed (c9:=λ_ v o=>o=[]/\∃a c r,v=.tuple ⟨[.agg ⟨[.slice a 5 c,.int .i64 r]⟩,.int .i64 0]⟩) ok fok hc (by decide) (by decide) (by decide) (NY ir i5 i8 iw) (λσ i hi=>?_) (λσ i hi=>?_) (λσ w hF p hp=>?_) (λσ args' h=>?_) (λσ' σ n v' hn hv=>?_)) λ_ _ _ _ h=>h
  ·have hi:i<3:=hi
   match i,hi with
   | 0,_=>rfl
   | 1,_=>rfl
   | 2,_=>rfl
  ·obtain⟨k,rfl⟩:∃k,i=k+7:=⟨i-7,by omega⟩;rfl
  ·simp only[LD,gA,Tl,SG,Rt,Sz,T5] at hp;rcases hp with rfl | rfl | rfl | rfl | rfl
   ·obtain⟨l,h1,h2⟩:=hF _ _ hL.Aq;exact⟨l,h1,xY (by decide +kernel) h2⟩
   ·obtain⟨l,h1,arr,ty,fr,q1,q2,q3,q4,q5⟩:=hF _ _ hD.r;exact⟨l,h1,arr,ty,fr,q1,q2,λh=>(by cases h),q4,q5⟩
   ·obtain⟨l,h1,arr,ty,fr,q1,q2,q3,q4,q5⟩:=hF _ _ hD.a;exact⟨l,h1,arr,ty,fr,q1,q2,λh=>(by cases h),q4,q5⟩
   ·obtain⟨l,h1,arr,ty,fr,q1,q2,q3,q4,q5⟩:=hF _ _ hD.b;exact⟨l,h1,arr,ty,fr,q1,q2,λh=>(by cases h),q4,q5⟩
   ·obtain⟨l,h1,arr,ty,fr,q1,q2,q3,q4,q5⟩:=hF _ _ hw;exact⟨l,h1,arr,ty,fr,q1,q2,λh=>(by cases h),q4,q5⟩
  ·exact h
  ·obtain⟨a,c,r,rfl⟩:=Cs hr;obtain⟨cs,e0,v1,vs1,e1,⟨gs,eg,s1,vs2,e2,⟨l,a',cap,p1,p2,p3,p4,p5,p6⟩,hrest⟩,hrest2⟩:=hv;exact⟨l,.tuple ⟨[.agg ⟨[.slice (some ⟨n,a.off,none⟩) 5 c,.int .i64 r]⟩,.int .i64 0]⟩,⟨cs,e0,v1,vs1,e1,⟨gs,eg,s1,vs2,e2,⟨l,a',cap,bE _ _ _,rfl,p3,p4,p5,p6⟩,hrest⟩,hrest2⟩,rfl,_,_,_,rfl⟩
 ·cases hr
theorem qM(F:ar):Abs.Spec CC 46 [] F [] λF' v o=>o=[]/\∃ir i5 i8,v=.agg ⟨ai fN (some ⟨ir,0,none⟩) 2 2⟩/\bw bK F' (some ⟨ir,0,none⟩) 2 2 fN.rules/\Gn F' ir i5 i8:=by
 refine Abs.Spec.fn (n:=10) Tryz.func46 rfl rfl λown=>?_;refine AW.seq (AW.du ?_);refine WT.aI hT Z Z Z Z Z Z (λi0 hi0=>?_);refine Ka ?_;refine WT.bd hT Z Z Z Z Z Z Z Z Z Z Z Z Z Z (λi5 hi5=>?_);refine Ka ?_;refine WT.bd hT Z Z Z Z Z Z Z Z Z Z Z Z Z Z (λi8 hi8=>?_);refine Ka ?_;refine WT.bd hT Z Z Z Z Z Z Z Z Z Z Z Z Z Z (λi10 hi10=>?_);refine WT.aw 2 Z Z (λF1 hF1 hB1=>?_);refine WT.aw 1 Z Z (λF2 hF2 hB2=>?_);refine WT.aw 0 Z Z (λF3 hF3 hB3=>?_)
 have h5:bw fh F3 (some ⟨i5,0,none⟩) 2 2 [⟨false,0⟩,⟨false,0⟩]:=(dy.frozen (F:=F) (B:=[(i5,.cells false [.bool false,.int .i64 0,.bool false,.int .i64 0])]) ⟨rfl,.inr ⟨i5,_,rfl,rfl,rfl,aF.cons (R:=fh) (x:=⟨false,0⟩) (l:=[_,_]) rfl (aF.single (R:=fh) (x:=⟨false,0⟩) rfl),by decide⟩⟩ hF1 hB1).mono (hF2.trans hF3);have h8:bw fh F3 (some ⟨i8,0,none⟩) 1 2 [⟨true,0⟩]:=(dy.frozen (F:=F1) (B:=[(i8,.cells false [.bool true,.int .i64 0])]) ⟨rfl,.inr ⟨i8,_,rfl,rfl,rfl,aF.single (R:=fh) (x:=⟨true,0⟩) rfl,by decide⟩⟩ hF2 hB2).mono hF3
 have h10:bw bK F3 (some ⟨i10,0,none⟩) 2 2 fN.rules:=dy.frozen (F:=F3) (B:=[(i10,.cells false [.int .i64 0,.slice (some ⟨i5,0,none⟩) 2 2,.int .i64 0,.slice (some ⟨i8,0,none⟩) 1 2])]) ⟨rfl,.inr ⟨i10,_,rfl,rfl,rfl,aF.cons (R:=bK) (x:=⟨0,[⟨false,0⟩,⟨false,0⟩]⟩) (l:=[_,_]) ⟨_,_,_,rfl,h5⟩ (aF.single (R:=bK) (x:=⟨0,[⟨true,0⟩]⟩) ⟨_,_,_,rfl,h8⟩),by decide⟩⟩ (ar.le.refl _) hB3;refine Ka ?_;exact AW.ret ⟨_,[],⟨_,_,⟨_,rfl,λG h0 s0=>bV (s0.has (p:=3) rfl me) (cl hT rfl)⟩,rfl,rfl⟩,bU,rfl,_,_,_,rfl,h10,⟨hB3 _ _ me,hF3 _ _ (hF2 _ _ (hB1 _ _ me)),hF3 _ _ (hB2 _ _ me)⟩⟩
theorem ug(ok:CC.Ok Tryz.prog)(fok:bH CC Tryz.prog)(F:ar)(hL:Laid F){ir i5 i8 iw:Nat}(hr:bw bK F (some ⟨ir,0,none⟩) 2 2 fN.rules)(hD:Gn F ir i5 i8)(hw:bw eS F (some ⟨iw,0,none⟩) 2 1 Ms)(hwi:F iw=some (.cells false [.int .i64 0,.int .i64 0]))
  {S:List (List bL)} {rows:List (List Int)} (hst:cW fN 1=some (S,rows)) :
  cm CC Tryz.prog 23 [.agg ⟨ai fN (some ⟨ir,0,none⟩) 2 2⟩,.slice (some ⟨iw,0,none⟩) 2 1] F [] λ_ v o=>o=[]/\∃a c r,v=.tuple ⟨[.agg ⟨[.slice a 5 c,.int .i64 r]⟩,.int .i64 0]⟩:=by
 refine cm.fn (n:=23) ok Tryz.func23 rfl rfl λown=>?_;refine bf.du ok fok ?_;refine WT.cC Z Z Z Z Z Z (λi2 hi2=>?_);refine WT.aw 0 Z Z (λF0 hF0 hB0=>?_);have hi2:=hB0 i2 _ me;have hr:=hr.mono hF0;have hw:=hw.mono hF0;have hL:=hL.mono hF0;have hD:=hD.mono hF0;have hwi:=hF0 _ _ hwi;unfold ai at hi2 ⊢;refine WT.aI hT Z Z Z Z Z Z (λi4 hi4=>?_);refine aj ?_;refine bf.seq (bf.seq (bf.region (dJ.take ok fok 2 ?_)));refine aj ?_;have hrun:=py ok fok F0 hL fN xG.valid (by decide) hr hw (by decide) (by decide) hst;unfold ai at hrun
 refine dJ.call ok rfl (λ_=>rfl) hrun (Rc _) (λF1 v o hF1 hv=>?_);obtain⟨rfl,G,L,a1,n1,c1,rfl,h1,h2⟩:=hv;have hr:=hr.mono hF1;have hw:=hw.mono hF1;have hL:=hL.mono hF1;have hD:=hD.mono hF1;have hwi:=hF1 _ _ hwi;have hi2:=hF1 _ _ hi2;refine dJ.all ok fok ?_;refine aj ?_;refine bf.du ok fok ?_;refine aj ?_;refine bf.cond rfl (λh=>(by cases h)) (λ_=>?_);refine bf.skip ok fok ?_;show bf CC Tryz.prog 23 _ _ F1 _ _;refine bf.seq (bf.region (dJ.take ok fok 2 ?_));refine aj ?_;have hfo:=yS ok fok F1 hL hD hwi;unfold ai at hfo
 refine dJ.call ok rfl (λ_=>rfl) hfo (Rc _) (λF2 v o hF2 hv=>?_);obtain⟨rfl,fa,fc,fr,rfl⟩:=hv;refine dJ.all ok fok ?_;refine aj ?_;refine bf.fY ok fok ?_;exact AW.ret ⟨_,[],⟨_,_,⟨_,rfl,λG h0 s0=>bV (s0.has (p:=0) rfl me) (cl hT rfl)⟩,⟨_,_,rfl,rfl,rfl⟩,rfl⟩,bU,rfl,_,_,_,rfl⟩
theorem qP(ok:CC.Ok Tryz.prog)(fok:bH CC Tryz.prog)(F:ar)(hL:Laid F):cm CC Tryz.prog 17 [] F [] λF' v o=>o=[]/\v=.bool true:=by
 have hgv:=xG.valid;obtain⟨S,hst,hSI⟩:=Dk;obtain⟨hA,hLR⟩:=lS hgv hst;rw[hSI] at hLR;refine cm.fn (n:=41) ok Tryz.func17 rfl rfl λown=>?_;refine bf.du ok fok ?_;refine aj ?_;refine bf.seq (bf.region (dJ.take ok fok 2 ?_));refine WT.dH Tryz.func46 Z Z Z Z Z Z (qM F) (λF1 v hF1 hv=>?_);obtain⟨ir,i5,i8,rfl,hr,hD⟩:=hv;refine WT.bd hT Z Z Z Z Z Z Z Z Z Z Z Z Z Z (λi7 hi7=>?_);refine WT.aw 0 Z Z (λF2 hF2 hB2=>?_)
 have hw:bw eS F2 (some ⟨i7,0,none⟩) 2 1 Ms:=dy.frozen (F:=F2) (B:=[(i7,.cells false [.int .i64 0,.int .i64 0])]) ⟨rfl,.inr ⟨i7,_,rfl,rfl,rfl,n7 Ms,by decide⟩⟩ (ar.le.refl _) hB2;have hr:=hr.mono hF2;refine aj ?_;refine dJ.call ok rfl (λ_=>rfl) (ug ok fok F2 ((hL.mono hF1).mono hF2) hr (hD.mono hF2) hw (hB2 _ _ me) hst) (Rc _) (λF3 v o hF3 hv=>?_);obtain⟨rfl,fa,fc,fr,rfl⟩:=hv;refine dJ.all ok fok ?_;refine aj ?_;refine WT.aI hT Z Z Z Z Z Z (λi1 hi1=>?_);refine aj ?_;refine bf.seq (bf.region (dJ.take ok fok 2 ?_))
 refine WT.dH Tryz.func46 Z Z Z Z Z Z (qM F3) (λF4 v hF4 hv=>?_);obtain⟨_,_,_,rfl,hr2,_⟩:=hv;refine WT.bd hT Z Z Z Z Z Z Z Z Z Z Z Z Z Z (λi13 hi13=>?_);refine WT.aw 0 Z Z (λF5 hF5 hB5=>?_);have hw2:bw eS F5 (some ⟨i13,0,none⟩) 1 1 [0]:=dy.frozen (F:=F5) (B:=[(i13,.cells false [.int .i64 0])]) ⟨rfl,.inr ⟨i13,_,rfl,rfl,rfl,n7 [0],by decide⟩⟩ (ar.le.refl _) hB5;have hr2:=hr2.mono hF5;refine aj ?_
 refine dJ.call ok rfl (λ_=>rfl) (qt ok fok F5 (((((hL.mono hF1).mono hF2).mono hF3).mono hF4).mono hF5) fN hgv (by decide) hr2 hw2 (by decide) (by decide) hst) (Rc _) (λF6 v o hF6 hv=>?_);obtain⟨rfl,G,L,b1,n1,d1,rfl,hLa,hLl,hfin,htop⟩:=hv;rw[hSI] at hfin;have hn1:=hLa.len;rw[hLl] at hn1;obtain rfl:n1=2:=hn1;refine dJ.all ok fok ?_;refine aj ?_;refine bf.fY ok fok ?_;refine aj ?_;refine WT.bG (j:=1) hT hLa Z Z Z Z Z Z Z Z Z (by rw[hLl];decide) (λl hl b3 off3 ro3 cs3 lx3 hb3 hp3 hrel3=>?_);obtain⟨ta,tn,tc,rfl,hla⟩:=hrel3
 obtain rfl:=IF hLR hfin (htop 1 l hl);have hn2:=hla.len;obtain rfl:tn=2:=hn2;refine aj ?_;refine WT.bd hT Z Z Z Z Z Z Z Z Z Z Z Z Z Z (λi38 hi38=>?_);refine WT.aw 0 Z Z (λF7 hF7 hB7=>?_);have hlb:bw eS F7 (some ⟨i38,0,none⟩) 2 1 [1,2]:=dy.frozen (F:=F7) (B:=[(i38,.cells false [.int .i64 1,.int .i64 2])]) ⟨rfl,.inr ⟨i38,_,rfl,rfl,rfl,n7 [1,2],by decide⟩⟩ (ar.le.refl _) hB7;refine WT.bN Tryz.func12 Z Z Z Z Z Z (C2 F7 (hla.mono hF7) hlb (by decide)) (λv hv=>?_);subst hv;refine aj ?_;exact AW.ret ⟨_,[],⟨_,_,rfl,rfl,rfl⟩,bU,rfl,rfl⟩
theorem CA(F:ar){ie:Nat}{ro:Bool}{ea:Option Addr}{en ec:Nat}{E:List Bool}(hi:F ie=some (.cells ro [.slice ea en ec]))(hE:bw cd F ea en ec E)(y:Sym)(hy:y.term=true\/y.n<E.length) :
  Abs.Spec CC 58 [.agg ⟨[.bool y.term,.int .i64 y.n]⟩,.pointer (some ⟨ie,0,none⟩)] F [] λ_ v o=>o=[]/\v=.bool (!y.term&&!(E.getD y.n false)):=by
 have hEl:=hE.len;refine Abs.Spec.fn (n:=15) Tryz.func58 rfl rfl λown=>?_;exact NW
def Lp(g:af)(has:List Bool):Prop:=has.length=g.ak/\∀n,has[n]?=some true->dp g n
theorem Ca(s:List Bool)(i:Nat)(b:Bool):(s.map aL.cell).set (0+i*1) (.bool b)=(s.set i b).map aL.cell:=by
 rw[SA,Rn,RQ];rfl
theorem um(F:ar)(g:af)(hg:Valid g){a:Option Addr}{m c:Nat}(hr:bw bK F a m c g.rules) :
  Abs.Spec CC 18 [.agg ⟨ai g a m c⟩] F [] λF' v o=>o=[]/\∃b,v=.bool b/\(b=true->∀n,n<g.ak->dp g n):=by
 have hrl:=hr.len;have hgr:=hg.range.rules;have hgn:=hg.range.ak;unfold ai;refine Abs.Spec.fn (n:=41) Tryz.func18 rfl rfl λown=>?_;refine AW.seq (AW.du ?_);refine WT.cC Z Z Z Z Z Z (λi1 hi1=>?_);refine aj ?_;refine WT.nD (l:=g.ak) hT Z Z Z Z Z Z Z Z Z Z Z Z kq (λio hio=>?_);rw[mj,By (show ¬g.ak=0 by omega)];refine WT.aI hT Z Z Z Z Z Z (λi3 hi3=>?_);refine aj ?_
 refine AW.range (S:=List Bool) (λ_=>[]) (λs=>[(i3,.cells false [.slice (some ⟨io,0,none⟩) g.ak 1]),(io,.cells false (s.map aL.cell))]::[(i1,.cells false [.int .i64 g.ae,.int .i64 g.ak,.int .i64 g.start,.slice a m c])]::own) (λ_ s G=>Lp g s) g.ak (List.replicate g.ak false)
  Z Z Z Z Z Z Z Z Z zo rfl rfl (λ_=>rfl) (λ_=>rfl) sM (by rw[TO];exact ah.flat (Rc _)) ⟨by simp,λn h=>(by rw[Sp] at h;split at h<;>cases h)⟩ ?_ ?_
 ·intro j s F1 hF1 hj hP;have hr1:=hr.mono hF1;refine aj ?_;refine AW.range (S:=List Bool) (λ_=>[]) (λs=>[(i3,.cells false [.slice (some ⟨io,0,none⟩) g.ak 1]),(io,.cells false (s.map aL.cell))]::[(i1,.cells false [.int .i64 g.ae,.int .i64 g.ak,.int .i64 g.start,.slice a m c])]::own) (λ_ s G=>Lp g s) m s
   Z Z Z Z Z Z Z Z Z zo rfl rfl (λ_=>rfl) (λ_=>rfl) sM oR hP ?_ ?_
  ·intro k s F2 hF2 hk hP;obtain⟨hsl,hsw⟩:=hP;have hr2:=hr1.mono hF2;refine aj ?_;refine WT.bG hT hr2 Z Z Z Z Z Z Z Z Z zo (λr hrk b1 off1 ro1 cs1 lx1 hb1 hp1 hrel1=>?_);obtain⟨ra,rn,rc,rfl,hright⟩:=hrel1;have hrm:=gM hrk;obtain⟨hrlt,hr4,hrsy⟩:=hg.right r hrm;have hrnl:=hright.len;obtain⟨b,hb⟩:∃b,s[r.left]?=some b:=⟨_,gE zo⟩;have hcell:(s.map aL.cell)[0+r.left*1]?=some (.bool b):=by rw[Rn,RQ,Re,hb];rfl
   refine aj ?_;refine WT.aI hT Z Z Z Z Z Z (λi5 hi5=>?_);refine aj ?_;refine AW.draw (ps:=[(0,12),(2,12)]) Z Z ?_;refine aj ?_;refine WT.dL (j:=r.left) (s:=1) hT Z Z Z Z Z Z Z Z Z hrlt ?_;refine WT.loadAt hT 1 Z Z Z Z Z Z (I9 _ me) Z Z hcell ?_;cases b with
   | true=>
    refine aj ?_;refine WT.dL (j:=r.left) (s:=1) hT Z Z Z Z Z Z Z Z Z hrlt ?_;refine WT.storeAt hT 1 1 Z Z Z Z Z Z Z Z Z Z (by rw[Rq];omega) Z Z ?_;refine aj ?_;refine⟨(by repeat (first | exact trivial | refine k5 rfl rfl (by first | exact Bi | exact kp 1 1 me me | exact kp 0 0 me me) ?_)),?_⟩
    refine⟨s.set r.left true,sM,?_,by rw[T2];exact hsl,λn hn=>?_⟩
    ·rw[Ca];exact cy
    ·by_cases e:n=r.left
     ·subst e;exact hsw _ hb
     ·rw[RO (Ne.symm e)] at hn;exact hsw n hn
   | false=>
    refine aj ?_;have hys:∀y∈r.right,y.term=true\/y.n<s.length:=λy hy=>by
     have:=hrsy y hy;obtain⟨t,q⟩:=y;cases t with
     | true=>exact .inl rfl
     | false=>exact .inr (by rw[hsl];exact this)
    refine WT.eK 1 Tryz.func55 Z Z Z Z Z Z Z (λG hG hBG=>nz G (hright.mono hG) zo (λy=>!y.term&&!(s.getD y.n false)) (first:=[]) (capt:=[.pointer (some ⟨i3,0,none⟩)]) Tryz.func58 Z (λy hy=>CA G (hBG i3 _ me) (by
     have:=cU (K:=aL) (R:=cd) (F:=G) (id:=io) (row:=s) (c:=if s.length=0 then 0 else 1) (ro:=false) rfl (λ_ _=>rfl) rfl (hBG io _ (by simp));rw[hsl,By zo] at this;exact this) y (hys y hy))) (λv hv=>?_)
    subst hv;refine aj ?_;refine WT.dL (j:=r.left) (s:=1) hT Z Z Z Z Z Z Z Z Z hrlt ?_;refine WT.storeAt hT 1 1 Z Z Z Z Z Z Z Z Z Z (by rw[Rq];omega) Z Z ?_;refine aj ?_;refine⟨(by repeat (first | exact trivial | refine k5 rfl rfl (by first | exact Bi | exact kp 1 1 me me | exact kp 0 0 me me) ?_)),?_⟩
    refine⟨s.set r.left (!(r.right.any λy=>!y.term&&!(s.getD y.n false))),sM,?_,by rw[T2];exact hsl,λn hn=>?_⟩
    ·rw[Ca];exact cy
    ·by_cases e:n=r.left
     ·subst e;rw[RA zo] at hn;have hn:=AT hn;refine Al hrm λy hy=>?_;have h1:r.right.any (λy=>!y.term&&!(s.getD y.n false))=false:=by simpa using hn
      have h2:=List.any_eq_false.1 h1 y hy;rcases hys y hy with h3 | h3
      ·exact .inl h3
      ·by_cases h4:y.term=true
       ·exact .inl h4
       ·refine .inr (hsw _ ?_);have h5:s.getD y.n false=true:=by simpa [h4] using h2
        rw[gE h3];rw[BY,gE h3] at h5;exact congrArg some h5
     ·rw[RO (Ne.symm e)] at hn;exact hsw n hn
  ·intro s F2 hF2 hP;exact⟨s,sM,cy,hP⟩
 ·intro s F1 hF1 hP;obtain⟨hsl,hsw⟩:=hP;refine aj ?_
  refine WT.eK 0 Tryz.func59 Z Z Z Z Z Z Z (λG hG hBG=>qO G (by
   have:=cU (K:=aL) (R:=cd) (F:=G) (id:=io) (row:=s) (c:=if s.length=0 then 0 else 1) (ro:=false) rfl (λ_ _=>rfl) rfl (hBG io _ (by simp));rw[hsl,By zo] at this;exact this) zo false) (λv hv=>?_)
  subst hv;refine aj ?_;refine AW.ret ⟨_,[],⟨_,_,rfl,rfl,rfl⟩,bU,rfl,_,rfl,λh n hn=>hsw n ?_⟩;have h:false∉s:=by simpa using h
  obtain⟨b,hb⟩:∃b,s[n]?=some b:=⟨_,gE zo⟩;cases b with
  | true=>exact hb
  | false=>exact absurd (gM hb) h
theorem Ko{g:af}{v:List Nat}(h4:∀r∈g.rules,r.right.length<=4)(hW:∀r∈g.rules,∀y∈r.right,y.term=true\/dp g y.n){x:Item}(hx:QP g v v.length x){t:Nat}(hn:bg g.rules x=some ⟨true,t⟩) :
  ∃u,iB g (v++t::u) ⟨false,g.start⟩ 0 (v++t::u).length:=by
 obtain⟨L,hL⟩:=D8 g h4 (P8 g v) (λk x h=>by obtain⟨r,h1,h2,h3,_⟩:=h;exact⟨r,h1,h2,h3⟩);have hS:=G6 hW hL;have h1:=hx.2 (AS _) L (by rw[S1];exact hS);obtain⟨r,h2,h3,_,_,z,hz⟩:=(hL _ _).1 h1;obtain⟨r',h5,h6⟩:=gI hn;rw[h2] at h5;obtain rfl:=AT h5;obtain⟨u,hu⟩:=ia (g:=g) (r.right.drop (x.dot+1)) (λy hy=>hW r (gM h2) y (S2 hy));have:=hz ([t]++u) (by
  rw[uB h6];exact DW.app (l:=[⟨true,t⟩]) (.one (.term rfl)) hu)
 rw[S1,RY] at this;exact⟨u++z,this⟩
theorem Nu{g:af}{Q:Nat->Item->Prop}{q:uq}{F:ar}{s:Je}(h:H9 g Q q F s){j:Nat}{x:Item}(hx:x∈LZ s j):Q j x:=by
 unfold LZ at hx;rw[BY] at hx;cases hl:s.lists[j]? with
 | none=>rw[hl] at hx;simp at hx
 | some l=>rw[hl] at hx;exact h.all j l hl x hx
theorem Ga{g:af}(hg:Valid g){F:ar}{f:FZ}(hf:JK g F f){t:Nat}:(∃x∈LZ f.s f.s.k,bg (trimmed f.E g).rules x=some ⟨true,t⟩)↔∃u,iB g (f.w++t::u) ⟨false,g.start⟩ 0 (f.w++t::u).length:=by
 constructor
 ·rintro⟨x,h1,h2⟩;have hq:=Nu hf.ri h1;rw[hf.k] at hq;obtain⟨u,hu⟩:=Ko (kl hg f.E) (CW hf.ends) hq h2;exact⟨u,xx hu⟩
 ·rintro⟨u,hu⟩;have h1:=(ng hf.ends.closed hu).1;obtain⟨y,h2,h3⟩:=wP hf.jo (w:=f.w++t::u) (t:=t) (by simp) (by simp) h1;rw[<-hf.k] at h2;exact⟨y,h2,h3⟩
end Go.Proofs.D
set_option linter.unusedVariables false
namespace Bd
abbrev Ru:=Nat×List Nat
inductive Pd(R:List Ru)(s0:Nat):List Nat->Nat->Prop
 | start:Pd R s0 [] s0
 | one {z m:Nat} {w l:List Nat} {r:Ru}:r∈R->r.2=z::(3+m)::l->Pd R s0 w r.1->Pd R s0 (z::w) m
 | two {y z m:Nat} {w l:List Nat} {r:Ru}:r∈R->r.2=y::z::(3+m)::l->Pd R s0 w r.1->Pd R s0 (z::y::w) m
 | wM {m:Nat} {w l:List Nat} {r:Ru}:Pd R s0 w r.1->r∈R->r.2=(3+m)::l->Pd R s0 w m
section
variable (R:List Ru)(s0:Nat)
def I1:List Nat->Ru->Prop
 | z::w,r=>(∃l,r.2=z::l)/\Pd R s0 w r.1
 | _,_=>False
def I2:List Nat->Ru->Prop
 | z::y::w,r=>(∃l,r.2=y::z::l)/\Pd R s0 w r.1
 | _,_=>False
def I3:List Nat->Ru->Prop
 | z::y::x::w,r=>(∃l,r.2=x::y::z::l)/\Pd R s0 w r.1
 | _,_=>False
def o6(a b:List Nat):Prop:=∀r∈R,(I1 R s0 a r↔I1 R s0 b r)/\(I2 R s0 a r↔I2 R s0 b r)/\(I3 R s0 a r↔I3 R s0 b r)
def Lf(p:List Nat):List Nat:=(List.range 4).filter λn=>R.any λr=>r.1==n&&p.isPrefixOf r.2
end
theorem MI:∀(N:Nat) (l:List Nat),l.Nodup->(∀x∈l,x<N)->l.length<=N:=by
 intro N
 induction N with
 | zero=>
  intro l hl h;cases l with
  | nil=>simp
  | cons a t=>exact absurd (h a me) (Tr _)
 | succ N ih=>
  intro l hl h
  have h1:=ih (l.erase N) (hl.erase N) (λx hx=>by
   have:=(hl.mem_erase_iff).1 hx;have:=h x this.2;omega)
  have h2:=List.length_erase (a:=N) (l:=l);split at h2<;>omega
theorem nJ{α:Type}{P:α->α->Prop}(f:α->Nat)(N:Nat)(l:List α)(hd:l.Pairwise λa b=>¬P a b)(hN:∀a∈l,f a<N)
  (hf:∀a∈l,∀b∈l,f a=f b->P a b):l.length<=N:=by
 have h:(l.map f).Nodup:=by
  rw[List.nodup_iff_pairwise_ne,List.pairwise_map];exact hd.imp_of_mem λha hb h e=>h (hf _ ha _ hb e)
 have:=MI N (l.map f) h (λx hx=>by obtain⟨a,ha,rfl⟩:=Rg.1 hx;exact hN a ha);simpa using this
theorem parts{α κ:Type}[DecidableEq κ](c:α->κ):∀(C:List κ) (l:List α),(∀a∈l,c a∈C)->
  l.length<=(C.map λk=>(l.filter λa=>c a=k).length).sum:=by
 intro C
 induction C with
 | nil=>
  intro l h;cases l with
  | nil=>simp
  | cons a t=>exact absurd (h a me) Sz
 | cons k C ih=>
  intro l h
  have h1:=ih (l.filter λa=>¬c a=k) (λa ha=>by
   rw[Ra] at ha;have h2:=h a ha.1;rcases Rt.1 h2 with h3 | h3
   ·exact absurd h3 (by simpa using ha.2)
   ·exact h3)
  have h2:l.length=(l.filter λa=>c a=k).length+(l.filter λa=>¬c a=k).length:=by
   have:=Tn (λa=>decide (c a=k)) (l:=l);rw[RR,RR] at this;simpa using this
  have h3:(C.map λk'=>((l.filter λa=>¬c a=k).filter λa=>c a=k').length).sum<=(C.map λk'=>(l.filter λa=>c a=k').length).sum:=by
   clear ih h h1 h2
   induction C with
   | nil=>simp
   | cons k' C ih2=>
    simp only[Na,Sy];have:((l.filter λa=>¬c a=k).filter λa=>c a=k').length<=(l.filter λa=>c a=k').length:=by
     rw[List.filter_filter];have h5:(l.filter λa=>(decide (c a=k')&&decide (¬c a=k)))=(l.filter λa=>decide (c a=k')).filter λa=>decide (¬c a=k):=by
      rw[List.filter_filter];congr 1;funext a;rw[Bool.and_comm]
     rw[h5];exact S9 _ _
    omega
  simp only[Na,Sy];omega
open Classical in
noncomputable def bits{α:Type}(P:α->Prop):List α->Nat
 | []=>0
 | n::L=>(if P n then 1 else 0)+2*bits P L
theorem cN{α:Type}(P:α->Prop):∀L,bits P L<2 ^ L.length
 | []=>by simp[bits]
 | n::L=>by
  have:=cN P L;simp only[bits,RG,Tv];split<;>omega
theorem eE{α:Type}{P Q:α->Prop}:∀{L:List α},bits P L=bits Q L->∀n∈L,(P n↔Q n)
 | [],_,n,h=>absurd h Sz
 | k::L,e,n,h=>by
  simp only[bits] at e;have h1:(P k↔Q k)/\bits P L=bits Q L:=by
   by_cases hp:P k<;>by_cases hq:Q k<;>simp[hp,hq] at e ⊢<;>omega
  rcases Rt.1 h with rfl | h
  ·exact h1.1
  ·exact eE h1.2 n h
theorem gW{α:Type}{P:α->Prop}:∀{L:List α} {n:α},n∈L->P n->0<bits P L
 | k::L,n,h,hp=>by
  simp only[bits];rcases Rt.1 h with rfl | h
  ·rw[If hp];omega
  ·have:=gW h hp;omega
end Bd
set_option linter.unusedVariables false
namespace Bd
structure lQ(R:List Ru):Prop where
 left:∀r∈R,r.1<4
 sym:∀r∈R,∀s∈r.2,s<7
 len:∀r∈R,r.2.length<=3
 m5:R.length<=8
section
variable {R:List Ru}{s0:Nat}(ok:lQ R)
include ok
theorem cY{p l:List Nat}{r:Ru}(h:r∈R)(e:r.2=p++l):r.1∈Lf R p:=by
 unfold Lf;rw[Ra,Rm];refine⟨ok.left r h,?_⟩;rw[RZ];exact⟨r,h,by rw[e];simp⟩
omit ok in
theorem fq{p q:List Nat}{n:Nat}(h:n∈Lf R (p++q)):n∈Lf R p:=by
 unfold Lf at h ⊢;rw[Ra] at h ⊢;refine⟨h.1,?_⟩;have h2:=h.2;rw[RZ] at h2 ⊢;obtain⟨r,hr,e⟩:=h2;refine⟨r,hr,?_⟩;simp only[IN,RW] at e ⊢;exact⟨e.1,(T3 p q).trans e.2⟩
omit ok in
theorem dk(p:List Nat):(Lf R p).Nodup:=R1 _ Uc
omit ok in
theorem Ix{p:List Nat}{n:Nat}(h:n∈Lf R p):n<4:=by
 unfold Lf at h;rw[Ra,Rm] at h;exact h.1
theorem JG{z y x:Nat}{u v:List Nat}(h2:∀n∈Lf R [z],(Pd R s0 (y::x::u) n↔Pd R s0 (y::x::v) n))
  (h1:∀n∈Lf R [y,z],(Pd R s0 (x::u) n↔Pd R s0 (x::v) n)) (h0:∀n∈Lf R [x,y,z],(Pd R s0 u n↔Pd R s0 v n)) :
  o6 R s0 (z::y::x::u) (z::y::x::v):=by
 intro r hr;refine⟨⟨λ⟨⟨l,e⟩,h⟩=>⟨⟨l,e⟩,(h2 _ (cY ok hr (p:=[z]) e)).1 h⟩,λ⟨⟨l,e⟩,h⟩=>⟨⟨l,e⟩,(h2 _ (cY ok hr (p:=[z]) e)).2 h⟩⟩,
  ⟨λ⟨⟨l,e⟩,h⟩=>⟨⟨l,e⟩,(h1 _ (cY ok hr (p:=[y,z]) e)).1 h⟩,λ⟨⟨l,e⟩,h⟩=>⟨⟨l,e⟩,(h1 _ (cY ok hr (p:=[y,z]) e)).2 h⟩⟩,
  ⟨λ⟨⟨l,e⟩,h⟩=>⟨⟨l,e⟩,(h0 _ (cY ok hr (p:=[x,y,z]) e)).1 h⟩,λ⟨⟨l,e⟩,h⟩=>⟨⟨l,e⟩,(h0 _ (cY ok hr (p:=[x,y,z]) e)).2 h⟩⟩⟩
theorem Hl{z y:Nat}{u v:List Nat}(h2:∀n∈Lf R [z],(Pd R s0 (y::u) n↔Pd R s0 (y::v) n))
  (h1:∀n∈Lf R [y,z],(Pd R s0 u n↔Pd R s0 v n)) (hu:∀r∈R,¬I3 R s0 (z::y::u) r) (hv:∀r∈R,¬I3 R s0 (z::y::v) r) :
  o6 R s0 (z::y::u) (z::y::v):=by
 intro r hr;refine⟨⟨λ⟨⟨l,e⟩,h⟩=>⟨⟨l,e⟩,(h2 _ (cY ok hr (p:=[z]) e)).1 h⟩,λ⟨⟨l,e⟩,h⟩=>⟨⟨l,e⟩,(h2 _ (cY ok hr (p:=[z]) e)).2 h⟩⟩,
  ⟨λ⟨⟨l,e⟩,h⟩=>⟨⟨l,e⟩,(h1 _ (cY ok hr (p:=[y,z]) e)).1 h⟩,λ⟨⟨l,e⟩,h⟩=>⟨⟨l,e⟩,(h1 _ (cY ok hr (p:=[y,z]) e)).2 h⟩⟩,
  ⟨λh=>absurd h (hu r hr),λh=>absurd h (hv r hr)⟩⟩
theorem NK{z:Nat}{u v:List Nat}(h2:∀n∈Lf R [z],(Pd R s0 u n↔Pd R s0 v n))(hu:∀r∈R,¬I3 R s0 (z::u) r)
  (hv:∀r∈R,¬I3 R s0 (z::v) r) (hu2:∀r∈R,¬I2 R s0 (z::u) r) (hv2:∀r∈R,¬I2 R s0 (z::v) r) :
  o6 R s0 (z::u) (z::v):=by
 intro r hr;refine⟨⟨λ⟨⟨l,e⟩,h⟩=>⟨⟨l,e⟩,(h2 _ (cY ok hr (p:=[z]) e)).1 h⟩,λ⟨⟨l,e⟩,h⟩=>⟨⟨l,e⟩,(h2 _ (cY ok hr (p:=[z]) e)).2 h⟩⟩,
  ⟨λh=>absurd h (hu2 r hr),λh=>absurd h (hv2 r hr)⟩,⟨λh=>absurd h (hu r hr),λh=>absurd h (hv r hr)⟩⟩
theorem LG{y x:Nat}{u v:List Nat}(h1:∀n∈Lf R [y],Pd R s0 (x::u) n->Pd R s0 (x::v) n)
  (h0:∀n∈Lf R [x,y],Pd R s0 u n->Pd R s0 v n):∀m,Pd R s0 (y::x::u) m->Pd R s0 (y::x::v) m:=by
 intro m h;generalize e:y::x::u=W at h
 induction h with
 | start=>cases e
 | one hr e2 hp _=>
  simp only[Rv] at e;obtain⟨rfl,rfl⟩:=e;exact .one hr e2 (h1 _ (cY ok hr (p:=[y]) e2) hp)
 | two hr e2 hp _=>
  simp only[Rv] at e;obtain⟨rfl,rfl,rfl⟩:=e;exact .two hr e2 (h0 _ (cY ok hr (p:=[x,y]) e2) hp)
 | wM hp hr e2 ih=>exact .wM (ih e) hr e2
theorem yW{y x:Nat}{u v:List Nat}(h1:∀n∈Lf R [y],(Pd R s0 (x::u) n↔Pd R s0 (x::v) n))
  (h0:∀n∈Lf R [x,y],(Pd R s0 u n↔Pd R s0 v n)) (m:Nat):Pd R s0 (y::x::u) m↔Pd R s0 (y::x::v) m:=
 ⟨LG ok (λn hn=>(h1 n hn).1) (λn hn=>(h0 n hn).1) m,LG ok (λn hn=>(h1 n hn).2) (λn hn=>(h0 n hn).2) m⟩
end
open Classical in
noncomputable def GV(R:List Ru)(s0:Nat)(w:List Nat):Nat:=
 if ∃r∈R,I3 R s0 w r then 3 else if ∃r∈R,I2 R s0 w r then 2 else 1
noncomputable def ctx(R:List Ru)(s0:Nat)(w:List Nat):List Nat:=w.take (GV R s0 w)
def Live(R:List Ru)(s0:Nat)(w:List Nat):Prop:=∃r∈R,I1 R s0 w r\/I2 R s0 w r\/I3 R s0 w r
def Oy:List (List Nat):=(List.range 7).map λz=>[z]
def NG:List (List Nat):=(List.range 7).flatMap λy=>(List.range 7).map λz=>[z,y]
def Of:List (List Nat):=(List.range 7).flatMap λx=>(List.range 7).flatMap λy=>(List.range 7).map λz=>[z,y,x]
def FC:List (List Nat):=Oy++(NG++Of)
section
variable {R:List Ru}{s0:Nat}
theorem GM{w:List Nat}:GV R s0 w=3↔∃r∈R,I3 R s0 w r:=by
 unfold GV;by_cases h:∃r∈R,I3 R s0 w r
 ·rw[If h];exact⟨λ_=>h,λ_=>rfl⟩
 ·rw[By h];refine⟨λe=>?_,λh2=>absurd h2 h⟩;split at e<;>cases e
theorem Lk{w:List Nat}:GV R s0 w=2↔(¬∃r∈R,I3 R s0 w r)/\∃r∈R,I2 R s0 w r:=by
 unfold GV;by_cases h:∃r∈R,I3 R s0 w r
 ·rw[If h];exact⟨λe=>(by cases e),λh2=>absurd h h2.1⟩
 ·rw[By h];by_cases h2:∃r∈R,I2 R s0 w r
  ·rw[If h2];exact⟨λ_=>⟨h,h2⟩,λ_=>rfl⟩
  ·rw[By h2];exact⟨λe=>(by cases e),λh3=>absurd h3.2 h2⟩
theorem Nh{w:List Nat}:GV R s0 w=1↔(¬∃r∈R,I3 R s0 w r)/\¬∃r∈R,I2 R s0 w r:=by
 unfold GV;by_cases h:∃r∈R,I3 R s0 w r
 ·rw[If h];exact⟨λe=>(by cases e),λh2=>absurd h h2.1⟩
 ·rw[By h];by_cases h2:∃r∈R,I2 R s0 w r
  ·rw[If h2];exact⟨λe=>(by cases e),λh3=>absurd h2 h3.2⟩
  ·rw[By h2];exact⟨λ_=>⟨h,h2⟩,λ_=>rfl⟩
theorem jS(w:List Nat):GV R s0 w=1\/GV R s0 w=2\/GV R s0 w=3:=by
 unfold GV;split
 ·exact .inr (.inr rfl)
 ·split
  ·exact .inr (.inl rfl)
  ·exact .inl rfl
theorem Kl(ok:lQ R){w:List Nat}(h:Live R s0 w):ctx R s0 w∈FC:=by
 unfold ctx FC;rcases jS (R:=R) (s0:=s0) w with e | e | e
 ·rw[e];obtain⟨h3,h2⟩:=Nh.1 e;obtain⟨r,hr,h | h | h⟩:=h
  ·match w,h with
   | z::w,⟨⟨l,e⟩,_⟩=>
    refine R6 _ (Rg.2 ⟨z,Rm.2 (ok.sym r hr z (by rw[e];simp)),by simp⟩)
  ·exact absurd ⟨r,hr,h⟩ h2
  ·exact absurd ⟨r,hr,h⟩ h3
 ·rw[e];obtain⟨_,r,hr,h⟩:=Lk.1 e
  match w,h with
  | z::y::w,⟨⟨l,e⟩,_⟩=>
   refine R7 _ (R6 _ (SM.2 ⟨y,Rm.2 (ok.sym r hr y (by rw[e];simp)),
    Rg.2 ⟨z,Rm.2 (ok.sym r hr z (by rw[e];simp)),by simp⟩⟩))
 ·rw[e];obtain⟨r,hr,h⟩:=GM.1 e
  match w,h with
  | z::y::x::w,⟨⟨l,e⟩,_⟩=>
   refine R7 _ (R7 _ (SM.2 ⟨x,Rm.2 (ok.sym r hr x (by rw[e];simp)),
    SM.2 ⟨y,Rm.2 (ok.sym r hr y (by rw[e];simp)),Rg.2 ⟨z,Rm.2 (ok.sym r hr z (by rw[e];simp)),by simp⟩⟩⟩))
noncomputable def dw(R:List Ru)(s0:Nat)(ws:List (List Nat))(c:List Nat):List (List Nat):=ws.filter λw=>ctx R s0 w=c
theorem oM(ok:lQ R){ws:List (List Nat)}(h:∀w∈ws,Live R s0 w) :
  ws.length<=(FC.map λc=>(dw R s0 ws c).length).sum:=parts (ctx R s0) FC ws λw hw=>Kl ok (h w hw)
theorem zE{w:List Nat}{z:Nat}(h:Live R s0 w)(e:ctx R s0 w=[z]):(∃u,w=z::u)/\(∀r∈R,¬I3 R s0 w r)/\(∀r∈R,¬I2 R s0 w r)/\∃r∈R,I1 R s0 w r:=by
 unfold ctx at e;rcases jS (R:=R) (s0:=s0) w with a | a | a
 ·rw[a] at e;obtain⟨h3,h2⟩:=Nh.1 a;have h3:∀r∈R,¬I3 R s0 w r:=λr hr hi=>h3 ⟨r,hr,hi⟩;have h2:∀r∈R,¬I2 R s0 w r:=λr hr hi=>h2 ⟨r,hr,hi⟩;obtain⟨r,hr,hi | hi | hi⟩:=h
  ·match w,e with
   | z'::u,e=>simp at e;subst e;exact⟨⟨u,rfl⟩,h3,h2,r,hr,hi⟩
  ·exact absurd hi (h2 r hr)
  ·exact absurd hi (h3 r hr)
 ·rw[a] at e;obtain⟨_,r,hr,hi⟩:=Lk.1 a
  match w,hi with
  | z::y::u,_=>simp at e
 ·rw[a] at e;obtain⟨r,hr,hi⟩:=GM.1 a
  match w,hi with
  | z::y::x::u,_=>simp at e
theorem uC{w:List Nat}{z y:Nat}(h:Live R s0 w)(e:ctx R s0 w=[z,y]):(∃u,w=z::y::u)/\(∀r∈R,¬I3 R s0 w r)/\∃r∈R,I2 R s0 w r:=by
 unfold ctx at e;rcases jS (R:=R) (s0:=s0) w with a | a | a
 ·rw[a] at e
  match w,e with
  | [],e=>simp at e
  | z'::u,e=>simp at e
 ·rw[a] at e;obtain⟨h3,r,hr,hi⟩:=Lk.1 a
  match w,hi with
  | z'::y'::u,hi=>simp at e;obtain⟨rfl,rfl⟩:=e;exact⟨⟨u,rfl⟩,λr hr hi=>h3 ⟨r,hr,hi⟩,r,hr,hi⟩
 ·rw[a] at e;obtain⟨r,hr,hi⟩:=GM.1 a
  match w,hi with
  | z::y::x::u,_=>simp at e
theorem sY{w:List Nat}{z y x:Nat}(e:ctx R s0 w=[z,y,x]):(∃u,w=z::y::x::u)/\∃r∈R,I3 R s0 w r:=by
 unfold ctx at e;rcases jS (R:=R) (s0:=s0) w with a | a | a
 ·rw[a] at e
  match w,e with
  | [],e=>simp at e
  | z'::u,e=>simp at e
 ·rw[a] at e
  match w,e with
  | [],e=>simp at e
  | [z'],e=>simp at e
  | z'::y'::u,e=>simp at e
 ·rw[a] at e;obtain⟨r,hr,hi⟩:=GM.1 a
  match w,hi with
  | z'::y'::x'::u,hi=>simp at e;obtain⟨rfl,rfl,rfl⟩:=e;exact⟨⟨u,rfl⟩,r,hr,hi⟩
end
end Bd
set_option linter.unusedVariables false
namespace Bd
theorem dR{a b c d N:Nat}(hb:b<N)(hd:d<N)(e:a*N+b=c*N+d):a=c/\b=d:=by
 have h1:(a*N+b) / N=a:=by rw[TW,Nat.add_mul_div_right _ _ zo,Nat.div_eq_of_lt hb];omega
 have h2:(c*N+d) / N=c:=by rw[TW,Nat.add_mul_div_right _ _ zo,Nat.div_eq_of_lt hd];omega
 have h3:a=c:=by rw[<-h1,<-h2,e]
 subst h3;exact⟨rfl,by omega⟩
theorem eX{a b A N:Nat}(ha:a<A)(hb:b<N):a*N+b<A*N:=by
 have:(a+1)*N<=A*N:=Rb _ ha;rw[R3,SW] at this;omega
section
variable {R:List Ru}{s0:Nat}{ws:List (List Nat)}
structure bJ(R:List Ru)(s0:Nat)(ws:List (List Nat)):Prop where
 ok:lQ R
 live:∀w∈ws,Live R s0 w
 diff:ws.Pairwise λa b=>¬o6 R s0 a b
theorem iZ{c w:List Nat}:w∈dw R s0 ws c↔w∈ws/\ctx R s0 w=c:=by
 unfold dw;rw[Ra];simp
theorem bJ.L0(G:bJ R s0 ws){z N:Nat}(f:List Nat->Nat)
  (hN:∀u,(∃r∈R,I1 R s0 (z::u) r)->f u<N) (hf:∀u v,(∃r∈R,I1 R s0 (z::u) r)->(∃r∈R,I1 R s0 (z::v) r)->f u=f v->∀n∈Lf R [z],(Pd R s0 u n↔Pd R s0 v n)) :
  (dw R s0 ws [z]).length<=N:=by
 refine nJ (P:=o6 R s0) (λw=>f w.tail) N _ (R1 _ G.diff) (λw hw=>?_) (λa ha b hb e=>?_)
 ·obtain⟨h1,h2⟩:=iZ.1 hw;obtain⟨⟨u,rfl⟩,_,_,h3⟩:=zE (G.live _ h1) h2;exact hN u h3
 ·obtain⟨h1,h2⟩:=iZ.1 ha;obtain⟨⟨u,rfl⟩,a3,a2,a1⟩:=zE (G.live _ h1) h2;obtain⟨k1,k2⟩:=iZ.1 hb;obtain⟨⟨v,rfl⟩,b3,b2,b1⟩:=zE (G.live _ k1) k2;exact NK G.ok (hf u v a1 b1 e) a3 b3 a2 b2
theorem bJ.HY(G:bJ R s0 ws){z y N:Nat}(f:List Nat->Nat)
  (hN:∀u,(∃r∈R,I2 R s0 (z::y::u) r)->f u<N)
  (hf:∀u v,(∃r∈R,I2 R s0 (z::y::u) r)->(∃r∈R,I2 R s0 (z::y::v) r)->f u=f v->
   (∀n∈Lf R [z],(Pd R s0 (y::u) n↔Pd R s0 (y::v) n))/\∀n∈Lf R [y,z],(Pd R s0 u n↔Pd R s0 v n)) :
  (dw R s0 ws [z,y]).length<=N:=by
 refine nJ (P:=o6 R s0) (λw=>f w.tail.tail) N _ (R1 _ G.diff) (λw hw=>?_) (λa ha b hb e=>?_)
 ·obtain⟨h1,h2⟩:=iZ.1 hw;obtain⟨⟨u,rfl⟩,_,h3⟩:=uC (G.live _ h1) h2;exact hN u h3
 ·obtain⟨h1,h2⟩:=iZ.1 ha;obtain⟨⟨u,rfl⟩,a3,a2⟩:=uC (G.live _ h1) h2;obtain⟨k1,k2⟩:=iZ.1 hb;obtain⟨⟨v,rfl⟩,b3,b2⟩:=uC (G.live _ k1) k2;obtain⟨e1,e2⟩:=hf u v a2 b2 e;exact Hl G.ok e1 e2 a3 b3
theorem bJ.zL(G:bJ R s0 ws){z y x N:Nat}(f:List Nat->Nat)
  (hN:∀u,(∃r∈R,I3 R s0 (z::y::x::u) r)->f u<N)
  (hf:∀u v,(∃r∈R,I3 R s0 (z::y::x::u) r)->(∃r∈R,I3 R s0 (z::y::x::v) r)->f u=f v->
   (∀n∈Lf R [z],(Pd R s0 (y::x::u) n↔Pd R s0 (y::x::v) n))/\(∀n∈Lf R [y,z],(Pd R s0 (x::u) n↔Pd R s0 (x::v) n))/\
    ∀n∈Lf R [x,y,z],(Pd R s0 u n↔Pd R s0 v n)) :
  (dw R s0 ws [z,y,x]).length<=N:=by
 refine nJ (P:=o6 R s0) (λw=>f w.tail.tail.tail) N _ (R1 _ G.diff) (λw hw=>?_) (λa ha b hb e=>?_)
 ·obtain⟨h1,h2⟩:=iZ.1 hw;obtain⟨⟨u,rfl⟩,h3⟩:=sY h2;exact hN u h3
 ·obtain⟨h1,h2⟩:=iZ.1 ha;obtain⟨⟨u,rfl⟩,a3⟩:=sY h2;obtain⟨k1,k2⟩:=iZ.1 hb;obtain⟨⟨v,rfl⟩,b3⟩:=sY k2;obtain⟨e1,e2,e3⟩:=hf u v a3 b3 e;exact JG G.ok e1 e2 e3
def Mv(R:List Ru)(s0 z:Nat)(w:List Nat):Prop:=∀m,z=3+m->Pd R s0 w m
def Ne(R:List Ru)(s0:Nat)(L:List Nat)(w:List Nat):Prop:=∃n∈L,Pd R s0 w n
def kF(R:List Ru)(s0:Nat)(Q:List Nat->Prop)(L:List Nat)(K:Nat):Prop:=
 ∃c:List Nat->Nat,(∀w,Q w->c w<K)/\∀w w',Q w->Q w'->c w=c w'->∀n∈L,(Pd R s0 w n↔Pd R s0 w' n)
theorem kF.mono{Q:List Nat->Prop}{L:List Nat}{K J:Nat}(h:kF R s0 Q L K)(hk:K<=J):kF R s0 Q L J:=by
 obtain⟨c,h1,h2⟩:=h;exact⟨c,λw hw=>Sc (h1 w hw) hk,h2⟩
theorem kF.inf{Q:List Nat->Prop}{L:List Nat}{K J:Nat}(h:kF R s0 Q L K)(h':kF R s0 Q L J):kF R s0 Q L (min K J):=by
 rcases Tw K J with e | e
 ·rw[Se e];exact h
 ·rw[Tc e];exact h'
theorem rq(Q:List Nat->Prop)(L:List Nat):kF R s0 Q L (2 ^ L.length):=
 ⟨λw=>bits (Pd R s0 w) L,λw _=>cN _ _,λw w' _ _ e=>eE e⟩
theorem jZ{Q:List Nat->Prop}{L:List Nat}(h:∀w,Q w->Ne R s0 L w):kF R s0 Q L (2 ^ L.length-1):=
 ⟨λw=>bits (Pd R s0 w) L-1,
  λw hw=>by obtain⟨n,h1,h2⟩:=h w hw;have:=cN (Pd R s0 w) L;have:=gW h1 h2;simp only[];omega,
  λw w' hw hw' e=>eE (by
   simp only[] at e;obtain⟨n,h1,h2⟩:=h w hw;obtain⟨m,h3,h4⟩:=h w' hw';have:=gW h1 h2;have:=gW h3 h4;omega)⟩
theorem vx{Q:List Nat->Prop}{L M:List Nat}(hM:M.Nodup)(hL:L.Nodup)(hs:∀n∈M,n∈L)(h:∀w,Q w->Ne R s0 M w) :
  kF R s0 Q L ((2 ^ M.length-1)*2 ^ (L.length-M.length)):=by
 have hlen:(L.filter λn=>n∉M).length=L.length-M.length:=by
  have h1:=Tn (λn=>decide (n∈M)) (l:=L);rw[RR,RR] at h1;have h2:(L.filter λn=>decide (n∈M)).length=M.length:=by
   apply List.Perm.length_eq;apply (Tk (R1 _ hL) hM).2;intro a;rw[Ra];simp only[RS];exact⟨λh=>h.2,λh=>⟨hs a h,h⟩⟩
  simp only[decide_not,Bool.decide_eq_true] at h1 ⊢;omega
 have hb:∀w,bits (Pd R s0 w) (L.filter λn=>n∉M)<2 ^ (L.length-M.length):=λw=>by
  rw[<-hlen];exact cN _ _
 refine⟨λw=>(bits (Pd R s0 w) M-1)*2 ^ (L.length-M.length)+bits (Pd R s0 w) (L.filter λn=>n∉M),λw hw=>?_,λw w' hw hw' e k hk=>?_⟩
 ·obtain⟨n,h1,h2⟩:=h w hw;refine eX ?_ (hb w);have:=cN (Pd R s0 w) M;have:=gW h1 h2;omega
 ·obtain⟨n,h1,h2⟩:=h w hw;obtain⟨m,h3,h4⟩:=h w' hw';obtain⟨e1,e2⟩:=dR (hb w) (hb w') e;by_cases hkM:k∈M
  ·exact eE (by have:=gW h1 h2;have:=gW h3 h4;omega) k hkM
  ·exact eE e2 k (by rw[Ra];exact⟨hk,by simpa using hkM⟩)
theorem Qz{z:Nat}{u:List Nat}{r:Ru}(hr:r∈R)(h:I1 R s0 (z::u) r):Mv R s0 z u:=by
 obtain⟨⟨l,e⟩,hp⟩:=h;rintro m rfl;exact .wM hp hr e
theorem OH{z y:Nat}{u:List Nat}{r:Ru}(hr:r∈R)(h:I2 R s0 (z::y::u) r):Mv R s0 z (y::u)/\Mv R s0 y u:=by
 obtain⟨⟨l,e⟩,hp⟩:=h;exact⟨by rintro m rfl;exact .one hr e hp,by rintro m rfl;exact .wM hp hr e⟩
theorem PY{z y x:Nat}{u:List Nat}{r:Ru}(hr:r∈R)(h:I3 R s0 (z::y::x::u) r) :
  Mv R s0 z (y::x::u)/\Mv R s0 y (x::u)/\Mv R s0 x u:=by
 obtain⟨⟨l,e⟩,hp⟩:=h;exact⟨by rintro m rfl;exact .two hr e hp,by rintro m rfl;exact .one hr e hp,by rintro m rfl;exact .wM hp hr e⟩
def QE(R:List Ru)(s0 z:Nat)(L:List Nat)(w:List Nat):Prop:=Mv R s0 z w/\Ne R s0 L w
def QV(R:List Ru)(s0 z y:Nat)(w:List Nat):Prop:=Mv R s0 z w/\∃u,w=y::u
theorem bJ.n1(G:bJ R s0 ws){z K:Nat}(h:kF R s0 (QE R s0 z (Lf R [z])) (Lf R [z]) K):(dw R s0 ws [z]).length<=K:=by
 obtain⟨c,h1,h2⟩:=h;have key:∀u,(∃r∈R,I1 R s0 (z::u) r)->QE R s0 z (Lf R [z]) u:=by
  rintro u ⟨r,hr,hi⟩;refine⟨Qz hr hi,?_⟩;obtain⟨⟨l,e⟩,hp⟩:=hi;exact⟨r.1,cY G.ok hr (p:=[z]) e,hp⟩
 exact G.L0 c (λu hu=>h1 u (key u hu)) (λu v hu hv e=>h2 u v (key u hu) (key v hv) e)
theorem bJ.n2(G:bJ R s0 ws){z y K J:Nat}(h:kF R s0 (QE R s0 y (Lf R [y,z])) (Lf R [y,z]) K)(h':kF R s0 (QV R s0 z y) (Lf R [z]) J) :
  (dw R s0 ws [z,y]).length<=K*J:=by
 obtain⟨c,c1,c2⟩:=h;obtain⟨d,d1,d2⟩:=h';have k1:∀u,(∃r∈R,I2 R s0 (z::y::u) r)->QE R s0 y (Lf R [y,z]) u:=by
  rintro u ⟨r,hr,hi⟩;refine⟨(OH hr hi).2,?_⟩;obtain⟨⟨l,e⟩,hp⟩:=hi;exact⟨r.1,cY G.ok hr (p:=[y,z]) e,hp⟩
 have k2:∀u,(∃r∈R,I2 R s0 (z::y::u) r)->QV R s0 z y (y::u):=by
  rintro u ⟨r,hr,hi⟩;exact⟨(OH hr hi).1,u,rfl⟩
 refine G.HY (λu=>c u*J+d (y::u)) (λu hu=>eX (c1 u (k1 u hu)) (d1 _ (k2 u hu))) (λu v hu hv e=>?_);obtain⟨e1,e2⟩:=dR (d1 _ (k2 u hu)) (d1 _ (k2 v hv)) e;exact⟨d2 _ _ (k2 u hu) (k2 v hv) e2,c2 u v (k1 u hu) (k1 v hv) e1⟩
theorem y6(ok:lQ R){z y x:Nat}{u:List Nat}(h:∃r∈R,I3 R s0 (z::y::x::u) r) :
  QE R s0 x (Lf R [x,y,z]) u/\QV R s0 y x (x::u)/\QV R s0 z y (y::x::u):=by
 obtain⟨r,hr,hi⟩:=h;obtain⟨m1,m2,m3⟩:=PY hr hi;refine⟨⟨m3,?_⟩,⟨m2,u,rfl⟩,⟨m1,_,rfl⟩⟩;obtain⟨⟨l,e⟩,hp⟩:=hi;exact⟨r.1,cY ok hr (p:=[x,y,z]) e,hp⟩
theorem bJ.n3(G:bJ R s0 ws){z y x K J I:Nat}(h:kF R s0 (QE R s0 x (Lf R [x,y,z])) (Lf R [x,y,z]) K)
  (h1:kF R s0 (QV R s0 y x) (Lf R [y,z]) J) (h2:kF R s0 (QV R s0 z y) (Lf R [z]) I):(dw R s0 ws [z,y,x]).length<=K*J*I:=by
 obtain⟨c,c1,c2⟩:=h;obtain⟨d,d1,d2⟩:=h1;obtain⟨f,f1,f2⟩:=h2;refine G.zL (λu=>(c u*J+d (x::u))*I+f (y::x::u))
  (λu hu=>eX (eX (c1 u (y6 G.ok hu).1) (d1 _ (y6 G.ok hu).2.1)) (f1 _ (y6 G.ok hu).2.2)) (λu v hu hv e=>?_)
 have ku:=y6 G.ok hu;have kv:=y6 G.ok hv;obtain⟨e1,e2⟩:=dR (f1 _ ku.2.2) (f1 _ kv.2.2) e;obtain⟨e3,e4⟩:=dR (d1 _ ku.2.1) (d1 _ kv.2.1) e1;exact⟨f2 _ _ ku.2.2 kv.2.2 e2,d2 _ _ ku.2.1 kv.2.1 e4,c2 _ _ ku.1 kv.1 e3⟩
theorem bJ.h3(G:bJ R s0 ws){z y x K J:Nat}(h:kF R s0 (QE R s0 x (Lf R [x,y,z])) (Lf R [x,y]) K)
  (h1:kF R s0 (QV R s0 y x) (Lf R [y]) J):(dw R s0 ws [z,y,x]).length<=K*J:=by
 obtain⟨c,c1,c2⟩:=h;obtain⟨d,d1,d2⟩:=h1;refine G.zL (λu=>c u*J+d (x::u)) (λu hu=>eX (c1 u (y6 G.ok hu).1) (d1 _ (y6 G.ok hu).2.1)) (λu v hu hv e=>?_);have ku:=y6 G.ok hu;have kv:=y6 G.ok hv;obtain⟨e1,e2⟩:=dR (d1 _ ku.2.1) (d1 _ kv.2.1) e;have a0:=c2 _ _ ku.1 kv.1 e1;have a1:=d2 _ _ ku.2.1 kv.2.1 e2;exact⟨λn _=>yW G.ok a1 a0 n,λn hn=>a1 n (fq (p:=[y]) (q:=[z]) hn),λn hn=>a0 n (fq (p:=[x,y]) (q:=[z]) hn)⟩
end
end Bd
set_option linter.unusedVariables false
namespace Bd
def sm(f:Nat->Nat):Nat:=f 0+f 1+f 2+f 3+f 4+f 5+f 6
theorem gf{f g:Nat->Nat}(h:∀i,i<7->f i<=g i):sm f<=sm g:=by
 have h0:=h 0 zo;have h1:=h 1 zo;have h2:=h 2 zo;have h3:=h 3 zo;have h4:=h 4 zo;have h5:=h 5 zo;have h6:=h 6 zo;simp only[sm];omega
theorem pV(f g:Nat->Nat):sm (λi=>f i+g i)=sm f+sm g:=by simp only[sm];omega
theorem jY(f:Nat->Nat)(c:Nat):sm (λi=>f i*c)=sm f*c:=by simp only[sm,R3]
theorem gD(f:Nat->Nat):((List.range 7).map f).sum=sm f:=by
 have:List.range 7=[0,1,2,3,4,5,6]:=rfl;rw[this];simp only[Na,Sg,Sy,Uw,sm];omega
theorem sV(F:Nat->List (List Nat))(g:List Nat->Nat):(((List.range 7).flatMap F).map g).sum=sm λx=>((F x).map g).sum:=by
 have:List.range 7=[0,1,2,3,4,5,6]:=rfl;rw[this];simp only[List.flatMap_cons,List.flatMap_nil,RV,Sg,Uv,Uw,sm];omega
theorem rL(g:List Nat->Nat):(FC.map g).sum =
  sm (λz=>g [z])+(sm (λy=>sm λz=>g [z,y])+sm λx=>sm λy=>sm λz=>g [z,y,x]):=by
 unfold FC Oy NG Of;rw[RV,Uv,RV,Uv,S3,gD,sV,sV];simp only[S3,gD,sV,Function.comp_def]
def cn(R:List Ru)(p:List Nat):Nat:=R.countP λr=>p.isPrefixOf r.2
theorem de(R:List Ru)(p:List Nat):(Lf R p).length<=cn R p:=by
 have h:∀n∈Lf R p,n∈(R.filter λr=>p.isPrefixOf r.2).map (·.1):=by
  intro n hn;unfold Lf at hn;rw[Ra,RZ] at hn;obtain⟨_,r,hr,e⟩:=hn;simp only[IN,Sb] at e;exact Rg.2 ⟨r,Ra.2 ⟨hr,e.2⟩,e.1⟩
 have h1:=Tu (dk (R:=R) p) h;rw[Rq] at h1;unfold cn;rw[RR];exact h1
theorem dV(R:List Ru)(p:List Nat):(Lf R p).length<=4:=by
 have:=S9 (λn=>R.any λr=>r.1==n&&p.isPrefixOf r.2) (List.range 4);rw[S7] at this;exact this
theorem iX(R:List Ru)(p q:List Nat):(Lf R (p++q)).length<=(Lf R p).length:=
 Tu (dk _) λ_ h=>fq h
theorem Gb(p l:List Nat):sm (λz=>if (p++[z]).isPrefixOf l then 1 else 0)<=if p.isPrefixOf l then 1 else 0:=by
 by_cases h:p.isPrefixOf l
 ·rw[If h];rw[RW] at h;obtain⟨t,rfl⟩:=h;have e:∀z,(p++[z]).isPrefixOf (p++t)=[z].isPrefixOf t:=λz=>by
   rw[SH,RW,RW,List.prefix_append_right_inj]
  simp only[e];cases t with
  | nil=>simp[sm]
  | cons a t=>
   simp only[List.isPrefixOf,Ue,Sb];unfold sm;by_cases h0:0=a
   ·subst h0;simp
   ·by_cases h1:1=a
    ·subst h1;simp
    ·by_cases h2:2=a
     ·subst h2;simp
     ·by_cases h3:3=a
      ·subst h3;simp
      ·by_cases h4:4=a
       ·subst h4;simp
       ·by_cases h5:5=a
        ·subst h5;simp
        ·by_cases h6:6=a
         ·subst h6;simp
         ·simp[h0,h1,h2,h3,h4,h5,h6]
 ·rw[By h];have e:∀z,¬(p++[z]).isPrefixOf l:=λz hz=>h (by
   rw[RW] at hz ⊢;exact(T3 p [z]).trans hz)
  simp[e,sm]
theorem gj(R:List Ru)(p:List Nat):sm (λz=>cn R (p++[z]))<=cn R p:=by
 induction R with
 | nil=>simp[cn,sm]
 | cons r R ih=>
  have h:=Gb p r.2;have e:∀q:List Nat,cn (r::R) q=cn R q+if q.isPrefixOf r.2 then 1 else 0:=λq=>by
   unfold cn;rw[Tm]
  simp only[e,pV];omega
def qj(n:Nat):Nat:=[0,2,7,19,23,27,38,42,46].getD n 0
def DA(n:Nat):Nat:=[0,1,3,7,8,10,14,15,17].getD n 0
theorem Dd{F:Nat->Nat}(hs:∀x,x<9->∀y,y<9->x+y<=8->F x+F y<=F (x+y)){a:Nat->Nat}(h:sm a<=8):sm (λi=>F (a i))<=F (sm a):=by
 simp only[sm] at h ⊢;have h1:=hs (a 0) zo (a 1) zo zo;have h2:=hs (a 0+a 1) zo (a 2) zo zo;have h3:=hs (a 0+a 1+a 2) zo (a 3) zo zo;have h4:=hs (a 0+a 1+a 2+a 3) zo (a 4) zo zo;have h5:=hs (a 0+a 1+a 2+a 3+a 4) zo (a 5) zo zo;have h6:=hs (a 0+a 1+a 2+a 3+a 4+a 5) zo (a 6) zo zo;omega
theorem AN:∀x,x<9->∀y,y<9->x+y<=8->qj x+qj y<=qj (x+y):=by decide
theorem Hj:∀x,x<9->∀y,y<9->x+y<=8->DA x+DA y<=DA (x+y):=by decide
theorem xT:∀x,x<9->∀y,y<9->x<=y->qj x<=qj y:=by decide
theorem Fx:∀x,x<9->∀y,y<9->x<=y->DA x<=DA y:=by decide
theorem HM:∀l,l<4->∀c,c<9->l<=c->2 ^ l-1<=DA c:=by decide
theorem Ig:∀b,b<4->∀s,s<9->b<=s->(2 ^ b-1)+2 ^ (b-1)*(if b=0 then 0 else s)<=qj s:=by decide
theorem half:∀b,b<5->∀t,t<5->t<=b->(2 ^ t-1)*2 ^ (b-t)<=2 ^ (b-1)*t:=by decide
section
variable {R:List Ru}{s0:Nat}{ws:List (List Nat)}
theorem uU(h:lQ R)(p:List Nat):cn R p<=8:=AI List.countP_le_length h.m5
theorem QC(G:bJ R s0 ws)(h3:∀z,(Lf R [z]).length<=3)(x y:Nat) :
  (dw R s0 ws [y,x]).length+sm (λz=>(dw R s0 ws [z,y,x]).length)<=qj (cn R [x,y])*8:=by
 have hb:(Lf R [x,y]).length<=3:=AI (iX R [x] [y]) (h3 x);have hp:2 ^ (Lf R [y]).length<=8:=by
  have:=Rz (n:=2) zo (h3 y);simpa using this
 have hs:=de R [x,y];have h8:=uU G.ok [x,y];have a2:(dw R s0 ws [y,x]).length<=(2 ^ (Lf R [x,y]).length-1)*8:=
  AI (G.n2 (jZ λw h=>h.2) (rq _ _)) (Sq _ hp)
 have a3:sm (λz=>(dw R s0 ws [z,y,x]).length)<=2 ^ ((Lf R [x,y]).length-1)*(if (Lf R [x,y]).length=0 then 0 else cn R [x,y])*8:=by
  have e1:∀z,z<7->(dw R s0 ws [z,y,x]).length<=(if (Lf R [x,y]).length=0 then 0 else cn R ([x,y]++[z]))*(2 ^ ((Lf R [x,y]).length-1)*8):=by
   intro z _;have k:=G.h3 (vx (dk [x,y,z]) (dk [x,y]) (λn hn=>fq (p:=[x,y]) (q:=[z]) hn) (λw h=>h.2)) (rq _ (Lf R [y]));have m:(Lf R [x,y,z]).length<=(Lf R [x,y]).length:=iX R [x,y] [z];have t:=de R [x,y,z];have b4:=dV R [x,y];have hh:=half (Lf R [x,y]).length zo (Lf R [x,y,z]).length zo m;by_cases e0:(Lf R [x,y]).length=0
   ·have:(Lf R [x,y,z]).length=0:=by omega
    rw[this,Nat.pow_zero,SV,Ua,Ua] at k;exact AI k (RC _)
   ·rw[By e0];refine AI k ?_;refine AI (RN hh hp) ?_;rw[SU (2 ^ _) (Lf R [x,y,z]).length,S5];exact Rb _ t
  refine AI (gf e1) ?_;rw[jY];by_cases e0:(Lf R [x,y]).length=0
  ·simp[e0,sm]
  ·simp only[By e0];have:=gj R [x,y];rw[SU (2 ^ _) (cn R [x,y]),S5];exact Rb _ this
 have:=Ig (Lf R [x,y]).length zo (cn R [x,y]) zo hs;have m2:=Rb 8 this;rw[R3] at m2;omega
theorem On(G:bJ R s0 ws)(h3:∀z,(Lf R [z]).length<=3):ws.length<=385:=by
 have h:=oM G.ok G.live;rw[rL] at h;have c1:sm (λx=>cn R [x])<=8:=AI (gj R []) (uU G.ok []);have a1:sm (λz=>(dw R s0 ws [z]).length)<=17:=by
  refine AI (gf (g:=λz=>DA (cn R [z])) λz _=>?_) (AI (Dd Hj c1) ?_)
  ·exact AI (G.n1 (jZ λw h=>h.2)) (HM _ (T9 (h3 z)) _ (T9 (uU G.ok _)) (de R [z]))
  ·exact Fx _ zo 8 zo c1
 have a2:sm (λy=>sm λz=>(dw R s0 ws [z,y]).length)+sm (λx=>sm λy=>sm λz=>(dw R s0 ws [z,y,x]).length)<=46*8:=by
  rw[<-pV];refine AI (gf (g:=λx=>qj (cn R [x])*8) λx _=>?_) ?_
  ·rw[<-pV];refine AI (gf (g:=λy=>qj (cn R [x,y])*8) λy _=>QC G h3 x y) ?_;rw[jY];have k:=gj R [x];have k8:=uU G.ok [x];refine Rb _ (AI (Dd AN (a:=λy=>cn R [x,y]) (AI k k8)) (xT _ ?_ _ ?_ k))
   ·exact T9 (AI k k8)
   ·exact T9 k8
  ·rw[jY];exact Rb _ (AI (Dd AN c1) (xT _ zo 8 zo c1))
 omega
end
end Bd
set_option linter.unusedVariables false
namespace Bd
section
variable {R:List Ru}{s0:Nat}{ws:List (List Nat)}
def Pr(R:List Ru)(M:Nat):List Nat:=(Lf R [3+M]).filter λn=>n≠M
theorem Jj{M n:Nat}(h:n∈Lf R [3+M]){w:List Nat}(hp:Pd R s0 w n):Pd R s0 w M:=by
 unfold Lf at h;rw[Ra,RZ] at h;obtain⟨_,r,hr,e⟩:=h;simp only[IN,Sb,RW] at e;obtain⟨e1,l,e2⟩:=e;subst e1;exact .wM hp hr e2.symm
def Ot(R:List Ru)(M:Nat):List Nat:=((List.range 4).filter λn=>n≠M).filter λn=>n∉Pr R M
theorem Iz(M:Nat):(Pr R M).Nodup:=R1 _ (dk _)
theorem DP{M:Nat}(hM:M<4):(Ot R M).length+(Pr R M).length=3:=by
 have h1:=Tn (λn=>decide (n∈Pr R M)) (l:=(List.range 4).filter λn=>n≠M);rw[RR,RR] at h1;have h2:(((List.range 4).filter λn=>n≠M).filter λn=>decide (n∈Pr R M)).length=(Pr R M).length:=by
  apply List.Perm.length_eq;apply (Tk (R1 _ (R1 _ Uc)) (Iz M)).2;intro a;rw[Ra,Ra,Rm];simp only[RS];refine⟨λh=>h.2,λh=>⟨⟨?_,?_⟩,h⟩⟩
  ·unfold Pr at h;rw[Ra] at h;exact Ix h.1
  ·unfold Pr at h;rw[Ra] at h;simpa using h.2
 have h3:((List.range 4).filter λn=>n≠M).length=3:=by
  have:M=0\/M=1\/M=2\/M=3:=by omega
  rcases this with rfl | rfl | rfl | rfl<;>decide
 unfold Ot;simp only[decide_not,Bool.decide_eq_true] at h1 ⊢;simp only[decide_not] at h2 h3;omega
theorem Nq{p:Prop} (h:p:=by
 have e:(if Pd R s0 w M then 2 ^ (Ot R M).length+bits (Pd R s0 w) (Pr R M++Ot R M) else bits (Pd R s0 w) (Ot R M)) =
  (if Pd R s0 w' M then 2 ^ (Ot R M).length+bits (Pd R s0 w') (Pr R M++Ot R M) else bits (Pd R s0 w') (Ot R M)):=e
 have b2:=cN (Pd R s0 w) (Ot R M);have b3:=cN (Pd R s0 w') (Ot R M);by_cases h1:Pd R s0 w M
 ·rw[If h1] at e;by_cases h2:Pd R s0 w' M
  ·rw[If h2] at e;have e2:=eE (show bits (Pd R s0 w) (Pr R M++Ot R M)=bits (Pd R s0 w') (Pr R M++Ot R M) by omega);rcases hmem n (hL n hn) with rfl | h | h
   ·exact⟨λ_=>h2,λ_=>h1⟩
   ·exact e2 n (R6 _ h)
   ·exact e2 n (R7 _ h)
  ·rw[By h2] at e;omega
 ·rw[By h1] at e;by_cases h2:Pd R s0 w' M
  ·rw[If h2] at e;omega
  ·rw[By h2] at e;have e2:=eE e;rcases hmem n (hL n hn) with rfl | h | h
   ·exact⟨λh=>absurd h h1,λh=>absurd h h2⟩
   ·exact⟨λk=>absurd (hpr _ _ h k) h1,λk=>absurd (hpr _ _ h k) h2⟩
   ·exact e2 n h):p:=h
theorem vB(Q:List Nat->Prop){M:Nat}(hM:M<4){L:List Nat}(hL:∀n∈L,n<4):kF R s0 Q L (8+2 ^ (Ot R M).length):=by
 classical
 have hl:=DP (R:=R) hM;have hmem:∀n,n<4->n=M\/n∈Pr R M\/n∈Ot R M:=by
  intro n hn;by_cases h1:n=M
  ·exact .inl h1
  ·by_cases h2:n∈Pr R M
   ·exact .inr (.inl h2)
   ·refine .inr (.inr ?_);unfold Ot;rw[Ra,Ra,Rm];exact⟨⟨hn,by simpa using h1⟩,by simpa using h2⟩
 have hpr:∀w n,n∈Pr R M->Pd R s0 w n->Pd R s0 w M:=λw n h hp=>by
  unfold Pr at h;rw[Ra] at h;exact Jj h.1 hp
 refine⟨λw=>if Pd R s0 w M then 2 ^ (Ot R M).length+bits (Pd R s0 w) (Pr R M++Ot R M) else bits (Pd R s0 w) (Ot R M),λw _=>?_,λw w' _ _ e n hn=>?_⟩
 ·show (if Pd R s0 w M then 2 ^ (Ot R M).length+bits (Pd R s0 w) (Pr R M++Ot R M) else bits (Pd R s0 w) (Ot R M))<8+2 ^ (Ot R M).length;have b1:=cN (Pd R s0 w) (Pr R M++Ot R M);have b2:=cN (Pd R s0 w) (Ot R M);rw[Rf] at b1;have e3:(Pr R M).length+(Ot R M).length=3:=by omega
  rw[e3] at b1;by_cases h:Pd R s0 w M
  ·rw[If h];omega
  ·rw[By h];omega
 ·exact Nq
theorem tu{Q:List Nat->Prop}{M:Nat}(hM:M<4){L:List Nat}(hL:∀n∈L,n<4)(hq:∀w,Q w->∃n,n<4/\Pd R s0 w n) :
  kF R s0 Q L (7+2 ^ (Ot R M).length):=by
 classical
 have key:∃c:List Nat->Nat,(∀w,Q w->0<c w/\c w<8+2 ^ (Ot R M).length)/\∀w w',Q w->Q w'->c w=c w'->∀n∈L,(Pd R s0 w n↔Pd R s0 w' n):=by
  have hl:=DP (R:=R) hM;have hmem:∀n,n<4->n=M\/n∈Pr R M\/n∈Ot R M:=by
   intro n hn;by_cases h1:n=M
   ·exact .inl h1
   ·by_cases h2:n∈Pr R M
    ·exact .inr (.inl h2)
    ·refine .inr (.inr ?_);unfold Ot;rw[Ra,Ra,Rm];exact⟨⟨hn,by simpa using h1⟩,by simpa using h2⟩
  have hpr:∀w n,n∈Pr R M->Pd R s0 w n->Pd R s0 w M:=λw n h hp=>by
   unfold Pr at h;rw[Ra] at h;exact Jj h.1 hp
  refine⟨λw=>if Pd R s0 w M then 2 ^ (Ot R M).length+bits (Pd R s0 w) (Pr R M++Ot R M) else bits (Pd R s0 w) (Ot R M),λw hw=>?_,λw w' _ _ e n hn=>?_⟩
  ·show 0<(if Pd R s0 w M then 2 ^ (Ot R M).length+bits (Pd R s0 w) (Pr R M++Ot R M) else bits (Pd R s0 w) (Ot R M))/\(if Pd R s0 w M then 2 ^ (Ot R M).length+bits (Pd R s0 w) (Pr R M++Ot R M) else bits (Pd R s0 w) (Ot R M))<8+2 ^ (Ot R M).length;have b1:=cN (Pd R s0 w) (Pr R M++Ot R M);have b2:=cN (Pd R s0 w) (Ot R M);have b0:0<2 ^ (Ot R M).length:=TK zo;rw[Rf] at b1;have e3:(Pr R M).length+(Ot R M).length=3:=by omega
   rw[e3] at b1;by_cases h:Pd R s0 w M
   ·rw[If h];omega
   ·rw[By h];obtain⟨n,h1,h2⟩:=hq w hw;rcases hmem n h1 with rfl | k | k
    ·exact absurd h2 h
    ·exact absurd (hpr _ _ k h2) h
    ·have:=gW (P:=Pd R s0 w) k h2;omega
  ·exact Nq
 obtain⟨c,c1,c2⟩:=key;refine⟨λw=>c w-1,λw hw=>?_,λw w' hw hw' e n hn=>c2 w w' hw hw' ?_ n hn⟩
 ·have:=c1 w hw;show c w-1<_;omega
 ·have a:=c1 w hw;have b:=c1 w' hw';have e:c w-1=c w'-1:=e;omega
theorem vU{Q:List Nat->Prop}{M:Nat}(hq:∀w,Q w->Mv R s0 (3+M) w){L:List Nat}(hL:∀n∈L,n∈Lf R [3+M]):kF R s0 Q L (2 ^ (Pr R M).length):=by
 refine⟨λw=>bits (Pd R s0 w) (Pr R M),λw _=>cN _ _,λw w' hw hw' e n hn=>?_⟩;by_cases h:n=M
 ·subst h;exact⟨λ_=>hq w' hw' _ rfl,λ_=>hq w hw _ rfl⟩
 ·refine eE e n ?_;unfold Pr;rw[Ra];exact⟨hL n hn,by simpa using h⟩
def wV(R:List Ru)(x y:Nat):List Ru:=R.filter λr=>[x].isPrefixOf r.2&&!([x,y].isPrefixOf r.2)
def xg(R:List Ru)(x:Nat):List Ru:=R.filter λr=>[x].isPrefixOf r.2.tail
def Ja(R:List Ru)(s0:Nat)(w:List Nat)(r:Ru):Prop:=Pd R s0 w.tail r.1
def FB(R:List Ru)(s0:Nat)(w:List Nat)(r:Ru):Prop:=match w with
 | _::y::u=>(∃l,r.2=y::l)/\Pd R s0 u r.1
 | _=>False
theorem Ej{x y:Nat}{w w':List Nat}(hw:∃u,w=x::u)(hw':∃u,w'=x::u)(hm:Mv R s0 y w')
  (h1:∀r∈wV R x y,Ja R s0 w r->Ja R s0 w' r) (h2:∀r∈xg R x,FB R s0 w r->FB R s0 w' r):∀m,Pd R s0 w m->Pd R s0 w' m:=by
 obtain⟨u,rfl⟩:=hw;obtain⟨v,rfl⟩:=hw';intro m h;generalize e:x::u=W at h
 induction h with
 | start=>cases e
 | @one z m w l r hr e2 hp _=>
  simp only[Rv] at e;obtain⟨rfl,rfl⟩:=e;by_cases hy:y=3+m
  ·exact hm m hy
  ·have:r∈wV R x y:=by
    unfold wV;rw[Ra,e2];refine⟨hr,?_⟩;simp[List.isPrefixOf,hy]
   exact .one hr e2 (h1 r this hp)
 | @two yy z m w l r hr e2 hp _=>
  simp only[Rv] at e;obtain⟨rfl,rfl⟩:=e;have:r∈xg R x:=by
   unfold xg;rw[Ra,e2];exact⟨hr,by simp[List.isPrefixOf]⟩
  have k:=h2 r this ⟨⟨_,e2⟩,hp⟩
  match v,k with
  | y'::v,⟨⟨l',e3⟩,hp'⟩=>
   rw[e2] at e3;simp only[Rv] at e3;obtain⟨rfl,_⟩:=e3;exact .two hr e2 hp'
 | wM hp hr e2 ih=>exact .wM (ih e) hr e2
theorem HH(x y:Nat)(L:List Nat):kF R s0 (QV R s0 y x) L (2 ^ ((wV R x y).length+(xg R x).length)):=by
 refine⟨λw=>bits (Ja R s0 w) (wV R x y)*2 ^ (xg R x).length+bits (FB R s0 w) (xg R x),λw _=>?_,λw w' hw hw' e n _=>?_⟩
 ·rw[Tj];exact eX (cN _ _) (cN _ _)
 ·obtain⟨e1,e2⟩:=dR (cN _ _) (cN _ _) e;have k1:=eE e1;have k2:=eE e2;exact⟨Ej hw.2 hw'.2 hw'.1 (λr hr=>(k1 r hr).1) (λr hr=>(k2 r hr).1) n,Ej hw'.2 hw.2 hw.1 (λr hr=>(k1 r hr).2) (λr hr=>(k2 r hr).2) n⟩
end
end Bd
set_option linter.unusedVariables false
namespace Bd
section
variable {R:List Ru}{s0:Nat}{ws:List (List Nat)}
theorem HL{α κ:Type}[DecidableEq κ](c:α->κ):∀(C:List κ),C.Nodup->∀(l:List α),
  (C.map λk=>(l.filter λa=>c a=k).length).sum<=(l.filter λa=>c a∈C).length:=by
 intro C
 induction C with
 | nil=>intro _ l;simp
 | cons k C ih=>
  intro hC l;have h:=ih (Sh.1 hC).2 l;have hk:=(Sh.1 hC).1;simp only[Na,Sy];have e1:(l.filter λa=>c a∈k::C).length=(l.filter λa=>c a=k).length+(l.filter λa=>c a∈C).length:=by
   clear h ih
   induction l with
   | nil=>simp
   | cons a l ih=>
    simp only[Ud];by_cases h1:c a=k
    ·have h2:c a∉C:=λh=>hk (h1▸h);simp[h1,hk] at ih ⊢;omega
    ·by_cases h2:c a∈C
     ·simp[h1,h2] at ih ⊢;omega
     ·simp[h1,h2] at ih ⊢;omega
  omega
theorem EO(ok:lQ R){y:Nat}{u v:List Nat}(h1:∀n∈Lf R [y],Pd R s0 u n->Pd R s0 v n)(hu:∀r∈R,¬I2 R s0 (y::u) r) :
  ∀m,Pd R s0 (y::u) m->Pd R s0 (y::v) m:=by
 intro m h;generalize e:y::u=W at h
 induction h with
 | start=>cases e
 | one hr e2 hp _=>
  simp only[Rv] at e;obtain⟨rfl,rfl⟩:=e;exact .one hr e2 (h1 _ (cY ok hr (p:=[y]) e2) hp)
 | two hr e2 hp _=>
  simp only[Rv] at e;obtain⟨rfl,rfl⟩:=e;exact absurd ⟨⟨_,e2⟩,hp⟩ (hu _ hr)
 | wM hp hr e2 ih=>exact .wM (ih e) hr e2
theorem I7{z y x:Nat}{u:List Nat}{r:Ru}(h:I3 R s0 (z::y::x::u) r):I2 R s0 (y::x::u) r:=by
 obtain⟨⟨l,e⟩,hp⟩:=h;exact⟨⟨_,e⟩,hp⟩
theorem FI(ok:lQ R){z y:Nat}{u v:List Nat}(h1:∀n∈Lf R [y],(Pd R s0 u n↔Pd R s0 v n))(hu:∀r∈R,¬I2 R s0 (y::u) r)
  (hv:∀r∈R,¬I2 R s0 (y::v) r):o6 R s0 (z::y::u) (z::y::v):=by
 refine Hl ok (λn _=>⟨EO ok (λn hn=>(h1 n hn).1) hu n,EO ok (λn hn=>(h1 n hn).2) hv n⟩) (λn hn=>h1 n (fq (p:=[y]) (q:=[z]) hn)) ?_ ?_
 ·intro r hr h
  match u,h with
  | x::u,h=>exact hu r hr (I7 h)
 ·intro r hr h
  match v,h with
  | x::v,h=>exact hv r hr (I7 h)
open Classical in
noncomputable def ahead(R:List Ru)(s0:Nat)(w:List Nat):List Nat:=
 if ∃r∈R,I2 R s0 w.tail r then w.tail.tail.take 1 else []
def mK:List (List Nat):=[]::(List.range 7).map λx=>[x]
noncomputable def EH(R:List Ru)(s0:Nat)(ws:List (List Nat))(z y:Nat):List (List Nat):=
 ws.filter λw=>w.take 2==[z,y]&&GV R s0 w != 1
theorem qy{z y:Nat}{w:List Nat}(h:w∈EH R s0 ws z y):w∈ws/\(∃u,w=z::y::u)/\((∃r∈R,I2 R s0 w r)\/∃r∈R,I3 R s0 w r):=by
 unfold EH at h;rw[Ra,IN,Sb,bne_iff_ne] at h;obtain⟨h0,h1,h2⟩:=h;refine⟨h0,?_,?_⟩
 ·match w,h1 with
  | [],h1=>cases h1
  | [a],h1=>cases h1
  | a::b::u,h1=>
   simp only[List.take,Rv] at h1;obtain⟨rfl,rfl,_⟩:=h1;exact⟨u,rfl⟩
 ·rcases jS (R:=R) (s0:=s0) w with e | e | e
  ·exact absurd e h2
  ·exact .inl (Lk.1 e).2
  ·exact .inr (GM.1 e)
theorem IM(ok:lQ R){z y:Nat}{u:List Nat}(h:(∃r∈R,I2 R s0 (z::y::u) r)\/∃r∈R,I3 R s0 (z::y::u) r):Mv R s0 y u:=by
 rcases h with ⟨r,hr,hi⟩ | ⟨r,hr,hi⟩
 ·exact(OH hr hi).2
 ·match u,hi with
  | x::u,hi=>exact(PY hr hi).2.1
theorem NU{p:Prop} (h:p:=by
 obtain⟨c,c1,c2⟩:=h1;have key:∀w∈(EH R s0 ws z y).filter (λw=>ahead R s0 w=[]),∃u,w=z::y::u/\QE R s0 y (Lf R [y]) u/\∀r∈R,¬I2 R s0 (y::u) r:=by
  intro w hw;rw[Ra] at hw;obtain⟨hw,ha⟩:=hw;obtain⟨_,⟨u,rfl⟩,hi⟩:=qy hw;have hno:∀r∈R,¬I2 R s0 (y::u) r:=by
   intro r hr hi2;have:ahead R s0 (z::y::u)=[]:=by simpa using ha
   unfold ahead at this;rw[If ⟨r,hr,hi2⟩] at this
   match u,hi2 with
   | x::u,_=>simp at this
  refine⟨u,rfl,⟨IM G.ok hi,?_⟩,hno⟩;rcases hi with ⟨r,hr,⟨⟨l,e⟩,hp⟩⟩ | ⟨r,hr,hi⟩
  ·exact⟨r.1,cY G.ok hr (p:=[y]) e,hp⟩
  ·match u,hi with
   | x::u,hi=>exact absurd (I7 hi) (hno r hr)
 refine nJ (P:=o6 R s0) (λw=>c w.tail.tail) K _ (R1 _ hd) (λw hw=>?_) (λa ha b hb e=>?_)
 ·obtain⟨u,rfl,hq,_⟩:=key w hw;exact c1 u hq
 ·obtain⟨u,rfl,hq,hn⟩:=key a ha;obtain⟨v,rfl,hq',hn'⟩:=key b hb;exact FI G.ok (c2 u v hq hq' e) hn hn'):p:=h
theorem bJ.types(G:bJ R s0 ws)(z y:Nat){K:Nat}{A B:Nat->Nat}(h1:kF R s0 (QE R s0 y (Lf R [y])) (Lf R [y]) K)
  (h2:∀x,x<7->kF R s0 (QE R s0 x (Lf R [x,y])) (Lf R [x,y]) (A x)) (h3:∀x,x<7->kF R s0 (QV R s0 y x) (Lf R [y]) (B x)) :
  (EH R s0 ws z y).length<=K+sm λx=>A x*B x:=by
 have hp:=parts (ahead R s0) mK (EH R s0 ws z y) (λw hw=>by
  obtain⟨_,⟨u,rfl⟩,_⟩:=qy hw;unfold ahead mK;split
  ·rename_i h;obtain⟨r,hr,hi⟩:=h
   match u,hi with
   | x::u,⟨⟨l,e⟩,_⟩=>
    exact I9 _ (Rg.2 ⟨x,Rm.2 (G.ok.sym r hr x (by rw[e];simp)),by simp⟩)
  ·exact Rl ..)
 refine AI hp ?_;unfold mK;rw[Na,Sy,S3,gD];have hd:(EH R s0 ws z y).Pairwise λa b=>¬o6 R s0 a b:=R1 _ G.diff;refine Rr ?_ (gf λx hx=>?_)
 ·exact NU
 ·obtain⟨c,c1,c2⟩:=h2 x hx;obtain⟨d,d1,d2⟩:=h3 x hx;have key:∀w∈(EH R s0 ws z y).filter (λw=>ahead R s0 w=[x]),∃u,w=z::y::x::u/\QE R s0 x (Lf R [x,y]) u/\QV R s0 y x (x::u):=by
   intro w hw;rw[Ra] at hw;obtain⟨hw,ha⟩:=hw;obtain⟨_,⟨u,rfl⟩,hi⟩:=qy hw;have ha:ahead R s0 (z::y::u)=[x]:=by simpa using ha
   have hm:=IM G.ok hi;unfold ahead at ha;split at ha
   ·rename_i h;obtain⟨r,hr,hi2⟩:=h
    match u,hi2,hm with
    | x'::u,hi2,hm=>
     simp only[List.tail_cons,List.take,Rv,Ui] at ha;subst ha;refine⟨u,rfl,⟨(OH hr hi2).2,?_⟩,hm,u,rfl⟩;obtain⟨⟨l,e⟩,hp⟩:=hi2;exact⟨r.1,cY G.ok hr (p:=[x',y]) e,hp⟩
   ·cases ha
  refine nJ (P:=o6 R s0) (λw=>c w.tail.tail.tail*B x+d w.tail.tail) (A x*B x) _ (R1 _ hd) (λw hw=>?_) (λa ha b hb e=>?_)
  ·obtain⟨u,rfl,hq,hv⟩:=key w hw;exact eX (c1 u hq) (d1 _ hv)
  ·obtain⟨u,rfl,hq,hv⟩:=key a ha;obtain⟨v,rfl,hq',hv'⟩:=key b hb;obtain⟨e1,e2⟩:=dR (d1 _ hv) (d1 _ hv') e;have a0:=c2 u v hq hq' e1;have a1:=d2 _ _ hv hv' e2;exact JG G.ok (λn _=>yW G.ok a1 a0 n) (λn hn=>a1 n (fq (p:=[y]) (q:=[z]) hn)) (λn hn=>a0 n (fq (p:=[x,y]) (q:=[z]) hn))
theorem ED(ok:lQ R)(z y:Nat):(dw R s0 ws [z,y]).length+sm (λx=>(dw R s0 ws [z,y,x]).length)<=(EH R s0 ws z y).length:=by
 have hC:([z,y]::(List.range 7).map λx=>[z,y,x]).Nodup:=by
  have:List.range 7=[0,1,2,3,4,5,6]:=rfl;rw[this];simp
 have h:=HL (ctx R s0) _ hC ws;rw[Na,Sy,S3,gD] at h;refine AI h ?_;unfold EH;rw[<-RR,<-RR];apply TR;intro w _ hw;simp only[Rt,Rg,Rm,RS] at hw;rw[IN,Sb,bne_iff_ne];unfold ctx at hw;rcases jS (R:=R) (s0:=s0) w with e | e | e
 ·rw[e] at hw;rcases hw with h | ⟨x,_,h⟩
  ·have:=congrArg List.length h;simp at this;omega
  ·have:=congrArg List.length h;simp at this;omega
 ·rw[e] at hw ⊢;rcases hw with h | ⟨x,_,h⟩
  ·exact⟨h,by omega⟩
  ·have:=congrArg List.length h;simp at this;omega
 ·rw[e] at hw ⊢;rcases hw with h | ⟨x,_,h⟩
  ·have h2:=(GM.1 e);obtain⟨r,hr,hi⟩:=h2
   match w,hi with
   | a::b::c::u,_=>simp at h
  ·refine⟨?_,by omega⟩;have:=congrArg (List.take 2) h;rw[Uk] at this;simpa using this.symm
end
end Bd