/-
  Walks: what functions of the program do, over the abstract machine.
-/
import Derived.Test.YtpoochgjdeefdaaGreatDoorWk2
set_option linter.unusedVariables false
set_option maxRecDepth 20000
set_option maxHeartbeats 0
open Go Go.Abs Go.Proofs Go.Proofs.D
namespace Go.Abs
section
variable {C:Ctx}{T:RT}{n:Nat}{k:Kno}{F:Frz}{own:Own}{ops rest:List Oper}{o:Oper}{Q:Kno→Frz→Own→List Rec→Prop}
theorem WT.nilEqNil(hT:rowsOk C T=true){t ty:TypeId}{xo yo:Operand}{e:Nat}{r:Row}(hop:o.op=.binOp .eql t xo yo ty)(hw:wantK ops k o=some true){dst:Nat}(hdst:o.dst=some dst)(hn:Nat.blt dst n=true)
  (hx:evK C k xo=some (.pointer none)) (hy:evK C k yo=some (.pointer none)) (hr:rowOf T t=some r) (hd:r.d=.pointer e)
  (h:WT C n ops rest ((dst,.bool true)::k) F own (fun k2 F2 own2 rs=>Q k2 F2 own2 (⟨F,own,F,own,[]⟩::rs))):WT C n ops (o::rest) k F own Q:=by
 refine WT.still hw (by rw[hop];simp only[looksK,hx,hy];rfl) (fun h0 _=>?_) (by rw[hdst,putK_some hn];exact h)
 rw[hop]
 have hu:=und_pointer hT hr hd
 simp only[opA,hx,hy,binA,eqLets,cond_true,equalA,hu]
 rfl
theorem WT.nilNeNil(hT:rowsOk C T=true){t ty:TypeId}{xo yo:Operand}{e:Nat}{r:Row}(hop:o.op=.binOp .neq t xo yo ty)(hw:wantK ops k o=some true){dst:Nat}(hdst:o.dst=some dst)(hn:Nat.blt dst n=true)
  (hx:evK C k xo=some (.pointer none)) (hy:evK C k yo=some (.pointer none)) (hr:rowOf T t=some r) (hd:r.d=.pointer e)
  (h:WT C n ops rest ((dst,.bool false)::k) F own (fun k2 F2 own2 rs=>Q k2 F2 own2 (⟨F,own,F,own,[]⟩::rs))):WT C n ops (o::rest) k F own Q:=by
 refine WT.still hw (by rw[hop];simp only[looksK,hx,hy];rfl) (fun h0 _=>?_) (by rw[hdst,putK_some hn];exact h)
 rw[hop]
 have hu:=und_pointer hT hr hd
 simp only[opA,hx,hy,binA,eqLets,cond_true,equalA,hu]
 rfl
end
end Go.Abs
namespace Go.Proofs.D
theorem ders_split{g:Gram}{w:List Nat}{E:List (List Nat)}(hE:EndsOf g w E):∀{l:List Sym} {i j:Nat},Ders g w l i j→j≤w.length→∃ks,ks∈splits w E j l i
 | _,i,_,.nil,hj=>⟨[],by unfold splits;simp⟩
 | _,i,j,.cons (s:=s) (l:=l) (m:=m) h1 h2,hj=>by
  obtain⟨ks,hks⟩:=ders_split hE h2 hj
  have him:=der_le h1
  have hmj:m≤j:=ders_le h2
  refine⟨⟨s,i,m⟩::ks,?_⟩
  unfold splits
  refine List.mem_flatMap.2 ⟨m,List.mem_range.2 zo,?_⟩
  rw[if_pos ((step_der hE zo).2 h1)]
  exact List.mem_map.2 ⟨ks,hks,rfl⟩
theorem packs_some{g:Gram}{w:List Nat}{E:List (List Nat)}(hE:EndsOf g w E){k:Key}(hg:GoodKey g w k)(ht:k.sym.term=false)(hs:stepB w E k.sym k.frm k.to=true):packsOf g w E k≠[]:=fun e=>by
 have hd:=(step_der hE hg.2.1).1 hs
 obtain⟨⟨st,sn⟩,kf,kt⟩:=k
 simp only at ht hd
 subst ht
 obtain⟨r,hr,hl,hd2⟩:=der_non.1 hd
 obtain⟨ks,hks⟩:=ders_split hE hd2 hg.2.2
 obtain⟨q,hq⟩:=List.getElem?_of_mem hr
 have:(⟨q,ks⟩:KPack)∈packsOf g w E ⟨⟨false,sn⟩,kf,kt⟩:=mem_packsOf.2 ⟨r,hq,hl,rfl,hks⟩
 rw[e] at this;cases this
theorem kids_prefix{g:Gram}{w:List Nat}{E:List (List Nat)}{to:Nat}:∀{l:List Sym} {i:Nat} {ks:List Key} {q:Nat} {x:Key},ks∈splits w E to l i→ks[q]?=some x→l[q]?=some x.sym∧∀ys,BestL g w (ks.take q) ys→TreesOf g w (l.take q) ys i x.frm
 | [],i,ks,q,x,h,hx=>by
  unfold splits at h
  split at h
  ·rw[List.mem_singleton.1 h] at hx;simp at hx
  ·cases h
 | s::l,i,ks,q,x,h,hx=>by
  unfold splits at h
  obtain⟨m,_,hm⟩:=List.mem_flatMap.1 h
  split at hm
  ·obtain⟨ks',h2,rfl⟩:=List.mem_map.1 hm
   cases q with
   | zero=>
    have hx:=Option.some.inj (by simpa using hx)
    subst hx
    exact⟨rfl,fun ys hys=>by rw[List.take_zero] at hys;cases hys;exact .nil⟩
   | succ q=>
    obtain⟨h3,h4⟩:=kids_prefix (g:=g) h2 (by simpa using hx)
    refine⟨by simpa using h3,fun ys hys=>?_⟩
    rw[List.take_succ_cons] at hys
    cases hys with
    | cons g1 g2=>exact .cons g1.1 (h4 _ g2)
  ·cases hm
def keyMs(g:Gram)(M:List (List Bool))(len:Nat)(k:Key):Nat:=if k.sym.term=true then 0 else meas g M len k.sym.n k.frm+1
theorem kid_less{g:Gram}{w:List Nat}{E:List (List Nat)}{M:List (List Bool)}{E0:List Bool}{Fi:List (List Bool)}(hN:NoLoop g M E0 Fi)(hg:Valid g){k:Key}(hk:GoodKey g w k){p:KPack}(hp:p∈packsOf g w E k){q:Nat}{x:Key}(hx:p.kids[q]?=some x){ys:List Tree}(hys:BestL g w (p.kids.take q) ys) :
  keyMs g M w.length x<keyMs g M w.length k∧GoodKey g w x∧stepB w E x.sym x.frm x.to=true:=by
 obtain⟨r,hr,hl,ht,hks⟩:=mem_packsOf.1 hp
 obtain⟨h1,h2⟩:=kids_prefix (g:=g) hks hx
 have hm:=splits_mem hks hk.2.1 hk.2.2 x (gM hx)
 have hrok:=hg.right r (gM hr)
 have hxs:=hrok.2.2 x.sym (gM h1)
 refine⟨?_,⟨hxs,hm.2⟩,splits_step hks x (gM hx)⟩
 unfold keyMs
 rw[show (if k.sym.term=true then 0 else meas g M w.length k.sym.n k.frm+1)=meas g M w.length k.sym.n k.frm+1 from if_neg (by rw[ht];simp)]
 split
 ·omega
 ·rename_i hxt
  have hxt:x.sym.term=false:=by simpa using hxt
  obtain⟨hlt,he⟩:=gS h1
  have hsy:x.sym=⟨false,x.sym.n⟩:=by rw[←hxt]
  have e:r.right=r.right.take q++⟨false,x.sym.n⟩::r.right.drop (q+1):=by
   rw[←hsy,←he,←List.drop_eq_getElem_cons hlt,List.take_append_drop]
  have hn:x.sym.n<g.nons:=by unfold SymOk at hxs;rw[if_neg (by rw[hxt];simp)] at hxs;exact hxs
  have:=hN.next (gM hr) e hn (h2 _ hys) hk.2.1
  rw[hl] at this
  omega
theorem cells_get{F:Frz}{α:Type}{R:Ty α}{cs:List Value}{xs:List α}(h:Cells R F cs xs)(q:Nat)(x:α)(hx:xs[q]?=some x):∃l,partL cs (q*R.size) R.size=some l∧R.rel F l x:=h.at q x hx
theorem pcell_of_bld{F G:Frz}{r:Int}{t:Nat}{a:Option Addr}{n c:Nat}{B:List (Nat×Blk)}{ks:List Tree}(hb:Bld tPT F a n c B ks)(hG:Frz.le F G)(hB:∀i b,(i,b)∈B→G i=some b)(hn:ks.length≤1000000):PCell G [.int .i64 r,.int .i64 t,.slice a n c] (.mk r t ks):=by
 classical
 have harr:Arr tPT G a n c ks:=hb.frozen hG hB
 have htr:Arr tTree G a n c ks:=Go.Proofs.D.Arr.imp (R:=tPT) (S:=tTree) rfl harr fun l x _ hx=>hx.tree
 rcases hb.at_ with ⟨rfl,_⟩ | ⟨i,cs,rfl,_,rfl,hc,_⟩
 ·exact .mk (b2:=0) (o2:=0) (cs2:=[]) (fun _=>[]) htr hn (fun h=>absurd rfl h) (fun q kid h=>by simp at h) (fun q kid h=>by simp at h)
 ·have hcG:=hc.mono hG
  have hex:∀q,∃l,∀kid,ks[q]?=some kid→partL cs (q*3) 3=some l∧PCell G l kid:=fun q=>by
   cases hk:ks[q]? with
   | none=>exact⟨[],fun kid h=>by cases h⟩
   | some kid=>
    obtain⟨l,h1,h2⟩:=cells_get hcG q kid hk
    exact⟨l,fun kid' h=>by cases h;exact⟨h1,h2⟩⟩
  refine .mk (b2:=i) (o2:=0) (cs2:=cs) (fun q=>Classical.choose (hex q)) htr hn (fun _=>⟨rfl,hB i _ me⟩) (fun q kid h=>?_) (fun q kid h=>?_)
  ·rw[Nat.zero_add];exact(Classical.choose_spec (hex q) kid h).1
  ·exact(Classical.choose_spec (hex q) kid h).2
theorem pcell_leaf(F:Frz)(t:Nat):PCell F [.int .i64 (-1),.int .i64 t,.slice none 0 0] (.mk (-1) t []):=
 .mk (b2:=0) (o2:=0) (cs2:=[]) (fun _=>[]) (Arr.nil_ _ _) (by simp) (fun h=>absurd rfl h) (fun q kid h=>by simp at h) (fun q kid h=>by simp at h)
structure FD where
 p:Nat
 im:Nat
 ga:Option Addr
 gm:Nat
 gc:Nat
 wa:Option Addr
 wn:Nat
 wc:Nat
 ea:Option Addr
 en:Nat
 ec:Nat
structure FinderAt(F:Frz)(x:FD)(g:Gram)(w:List Nat)(E:List (List Nat)):Prop where
 blk:F x.p=some (.cells false [.int .i64 g.terms,.int .i64 g.nons,.int .i64 g.start,.slice x.ga x.gm x.gc,.slice x.wa x.wn x.wc,.slice x.ea x.en x.ec,.map (some x.im)])
 rules:Arr tRule F x.ga x.gm x.gc g.rules
 word:Arr tNat F x.wa x.wn x.wc w
 ends:Arr (tList tU32) F x.ea x.en x.ec E
theorem FinderAt.mono{F G:Frz}{x:FD}{g:Gram}{w:List Nat}{E:List (List Nat)}(h:FinderAt F x g w E)(hF:Frz.le F G):FinderAt G x g w E:=⟨hF _ _ h.blk,h.rules.mono hF,h.word.mono hF,h.ends.mono hF⟩
def MapD(g:Gram)(w:List Nat)(x:FD)(F:Frz)(B:List (Nat×Blk)):Prop:=∃es:Ents Key,B=[(x.im,.map (entsV keyK es))]∧∀k v,Abs.look es k=some v→∃b T,v=.pointer (some ⟨b,0,none⟩)∧PT F b 0 T∧BestOf g w k T
theorem MapD.mono{g:Gram}{w:List Nat}{x:FD}{F G:Frz}{B:List (Nat×Blk)}(h:MapD g w x F B)(hF:Frz.le F G):MapD g w x G B:=by
 obtain⟨es,e,h⟩:=h
 exact⟨es,e,fun k v hv=>let ⟨b,T,h1,h2,h3⟩:=h k v hv;⟨b,T,h1,h2.mono hF,h3⟩⟩
structure DS1 where
 best:Option (Nat×Tree)
 B:List (Nat×Blk)
 l:Nat
def ptrOf:Option (Nat×Tree)→Value
 | none=>.pointer none
 | some (b,_)=>.pointer (some ⟨b,0,none⟩)
structure KS1 where
 a:Option Addr
 c:Nat
 Bk:List (Nat×Blk)
 ys:List Tree
 B:List (Nat×Blk)
theorem BestL.len{g:Gram}{w:List Nat}:∀{ks:List Key} {ys:List Tree},BestL g w ks ys→ys.length=ks.length
 | _,_,.nil=>rfl
 | _,_,.cons _ h=>by simp[BestL.len h]
theorem pcell_zero(F:Frz):PCell F [.int .i64 0,.int .i64 0,.slice none 0 0] (.mk 0 0 []):=
 .mk (t:=0) (b2:=0) (o2:=0) (cs2:=[]) (fun _=>[]) (Arr.nil_ _ _) (by simp) (fun h=>absurd rfl h) (fun q kid h=>by simp at h) (fun q kid h=>by simp at h)
theorem dfind_spec(g:Gram)(hg:Valid g)(w:List Nat)(hw12:w.length≤12){E:List (List Nat)}(hE:EndsOf g w E){M:List (List Bool)}{E0:List Bool}{Fi:List (List Bool)}(hN:NoLoop g M E0 Fi)(x:FD):∀(N:Nat) (k:Key),keyMs g M w.length k<N→GoodKey g w k→stepB w E k.sym k.frm k.to=true→∀(F:Frz) (B:List (Nat×Blk)),Laid F→FinderAt F x g w E→MapD g w x F B→
  Abs.Spec CC 40 [.pointer (some ⟨x.p,0,none⟩),.agg ⟨[.bool k.sym.term,.int .i64 k.sym.n,.int .i64 k.frm,.int .i64 k.to]⟩] F [B] fun F' v o=>∃B',o=[B']∧MapD g w x F' B'∧∃b T,v=.pointer (some ⟨b,0,none⟩)∧PT F' b 0 T∧BestOf g w k T
 | 0,_,h,_,_,_,_,_,_,_=>absurd h (Nat.not_lt_zero _)
 | N+1,k,hlt,hk,hst,F,B,hL,hx,hB=>by
  obtain⟨hblk,hrules,hword,hends⟩:=id hx
  have hwl:=hword.len
  refine Abs.Spec.fn (n:=103) Tryz.func40 rfl rfl fun own=>?_
  refine AW.seq (AW.reg ?_)
  refine WT.boxT Z Z Z Z Z Z (fun i3 hi3=>?_)
  refine zB4 ?_
  refine AW.cond Z (fun hterm=>?_) (fun hterm=>?_)
  ·have hterm:k.sym.term=true:=hterm
   refine zB4 ?_
   refine WT.callV Tryz.func65 Z Z Z Z Z Z (leafOwn_spec _ k.sym.n) (fun v hv=>?_)
   subst hv
   skip
   refine WT.allocT hT Z Z Z Z Z Z (fun i5 hi5=>?_)
   refine zB4 ?_
   refine AW.freezeAll 0 Z Z (fun F2 hF2 hB2=>?_)
   refine AW.ret ⟨_,[_],⟨_,_,rfl,rfl,rfl⟩,zsb,_,rfl,hB.mono hF2,i5,.mk (-1) k.sym.n [],rfl,⟨_,_,hB2 i5 _ me,rfl,pcell_leaf F2 k.sym.n⟩,?_⟩
   have h2:=stepB_iff.1 hst
   unfold Step at h2
   rw[if_pos hterm] at h2
   obtain⟨⟨st,sn⟩,kf,kt⟩:=k
   simp only at hterm h2 ⊢
   subst hterm
   obtain⟨h3,rfl⟩:=h2
   exact BestOf.leaf h3
  ·have hterm:k.sym.term=false:=hterm
   obtain⟨es,rfl,hes⟩:=hB
   refine zB4 ?_
   refine WT.lookup1 keyK (key:=k) hT 1 Z Z Z Z Z Z Z me Z Z Z ?_
   cases hlook:Abs.look es k with
   | some v=>
    obtain⟨b,T,rfl,hPT,hbest⟩:=hes k v hlook
    refine zB4 ?_
    refine WT.ptrNeNil hT Z Z Z Z Z Z Z Z ?_
    refine zB4 ?_
    refine AW.cond Z (fun _=>?_) (fun h=>(by cases h))
    refine zB4 ?_
    exact AW.ret ⟨_,[_],⟨_,_,rfl,rfl,rfl⟩,zsb,_,rfl,⟨es,rfl,hes⟩,b,T,rfl,hPT,hbest⟩
   | none=>
    refine zB4 ?_
    refine WT.nilNeNil hT Z Z Z Z Z Z Z Z ?_
    refine zB4 ?_
    refine AW.cond Z (fun h=>(by cases h)) (fun _=>?_)
    refine zB4 ?_
    refine WT.callF0 Tryz.func66 Z Z Z Z Z Z (packs_spec _ hL g hg hrules hword zo hends hE.ok k hk.2.1 (by have:=hk.2.2;omega)) (fun F1 v hF1 hv=>?_)
    obtain⟨pa,pn,pc,rfl,hP0⟩:=hv
    have hPl:=hP0.len
    have hsome:=packs_some hE hk hterm hst
    have hsorted:=packs_rules (g:=g) (w:=w) (E:=E) k
    have hx1:=hx.mono hF1
    have hfew:pn≤1000000:=by
     have:=packsOf_len12 hg (E:=E) (w:=w) (k:=k) (by have:=hk.2.2;omega)
     omega
    refine zB4 ?_
    refine joinK (S:=DS1) (fun s=>[(44,.int .i64 s.l),(7,ptrOf s.best)]) (fun s=>[(i3,.cells false [.bool k.sym.term,.int .i64 k.sym.n,.int .i64 k.frm,.int .i64 k.to])]::s.B::own)
     (fun s G=>MapD g w x G s.B∧∃b T,s.best=some (b,T)∧PT G b 0 T∧BestOf g w k T) ?_ (fun s F2 hF2 hP=>?_)
    ·refine AW.range (S:=DS1) (fun s=>[(7,ptrOf s.best)]) (fun s=>[(i3,.cells false [.bool k.sym.term,.int .i64 k.sym.n,.int .i64 k.frm,.int .i64 k.to])]::s.B::own)
      (fun j s G=>MapD g w x G s.B∧(s.best=none→j=0)∧∀b T,s.best=some (b,T)→PT G b 0 T∧BestUp g w k ((packsOf g w E k).take j) T) pn ⟨none,_,0⟩
      Z Z Z Z Z Z Z Z Z zo rfl rfl (fun _=>rfl) (fun _=>rfl) sM oR ⟨⟨es,rfl,fun k v hv=>let ⟨b,T,h1,h2,h3⟩:=hes k v hv;⟨b,T,h1,h2.mono hF1,h3⟩⟩,fun _=>rfl,fun b T h=>by cases h⟩ ?_ ?_
     ·intro j s F2 hF2 hj hP
      obtain⟨hmap,hnone,hbest⟩:=hP
      obtain⟨best,sB,sl⟩:=s
      dsimp only at hmap hnone hbest
      have hP2:=hP0.mono hF2
      have hx2:=hx1.mono hF2
      refine zB4 ?_
      refine WT.idxL hT hP2 Z Z Z Z Z Z Z Z Z zo (fun p hpj b1 off1 ro1 cs1 lx1 hb1 hp1 hrel1=>?_)
      have hpm:=gM hpj
      obtain⟨qa,qn,qc,rfl,hkids⟩:=hrel1
      have hkl:=hkids.len
      refine zB4 ?_
      refine WT.allocT hT Z Z Z Z Z Z (fun i9 hi9=>?_)
      refine zB4 ?_
      refine WT.boxT Z Z Z Z Z Z (fun i51 hi51=>?_)
      have hk4:p.kids.length≤4:=by
       obtain⟨r,hr,_,_,hks⟩:=mem_packsOf.1 hpm
       rw[splits_kids hks];exact(hg.right r (gM hr)).2.1
      cases best with
      | none=>
       obtain rfl:j=0:=hnone rfl
       refine zB4 ?_
       refine WT.nilNeNil hT Z Z Z Z Z Z Z Z ?_
       refine zB4 ?_
       refine AW.cond Z (fun h=>(by cases h)) (fun _=>?_)
       refine zB6 ?_
       refine AW.range (S:=KS1) (fun _=>[]) (fun t=>t.Bk::[(i51,.cells false [.int .i64 p.rule,.int .i64 0,.slice t.a t.ys.length t.c])]::[(i9,.cells false [.int .i64 p.rule,.slice qa qn qc])]::[(i3,.cells false [.bool k.sym.term,.int .i64 k.sym.n,.int .i64 k.frm,.int .i64 k.to])]::t.B::own)
        (fun q t G=>MapD g w x G t.B∧Bld tPT G t.a t.ys.length t.c t.Bk t.ys∧BestL g w (p.kids.take q) t.ys) qn ⟨none,0,[],[],sB⟩
        Z Z Z Z Z Z Z Z Z zo rfl rfl (fun _=>rfl) (fun _=>rfl) sM (OwnLe.flat (List.Perm.refl _)) ⟨hmap,Bld.nil_ _ _,by rw[List.take_zero];exact .nil⟩ ?_ ?_
       ·intro q t F3 hF3 hq hQ
        obtain⟨ta,tc,tBk,ys,tB⟩:=t
        obtain⟨hm3,hbd,hys⟩:=hQ
        dsimp only at hm3 hbd hys
        have hysl:=hys.len
        rw[List.length_take] at hysl
        have hkids3:=hkids.mono hF3
        have hx3:=hx2.mono hF3
        have hL3:=((hL.mono hF1).mono hF2).mono hF3
        refine zB6 ?_
        refine WT.idxL hT hkids3 Z Z Z Z Z Z Z Z Z zo (fun z hzq b3 off3 ro3 cs3 lx3 hb3 hp3 hrel3=>?_)
        obtain rfl:lx3=_:=hrel3
        obtain⟨hless,hzg,hzs⟩:=kid_less hN hg hk hpm hzq hys
        refine zB6 ?_
        refine WT.allocT hT Z Z Z Z Z Z (fun i12 hi12=>?_)
        refine zB6 ?_
        refine AW.draw (ps:=[(3,6),(3,10),(5,10),(8,10),(9,6),(9,10),(13,16),(16,13)]) Z Z ?_
        refine zB6 ?_
        refine WT.call1F 5 Tryz.func40 Z Z Z Z Z Z Z (fun _=>rfl) (dfind_spec g hg w hw12 hE hN x N z zo hzg hzs _ _ hL3 hx3 hm3) (fun F4 v B4 hF4 hv=>?_)
        obtain⟨hm4,vb,VT,rfl,hVP,hVB⟩:=hv
        obtain⟨vcs,vl,hvb,hvp,hvc⟩:=hVP
        obtain⟨vr,vt,vks⟩:=VT
        obtain⟨va,vn,vc,rfl⟩:∃a n c,vl=[.int .i64 vr,.int .i64 vt,.slice a n c]:=by cases hvc;exact⟨_,_,_,rfl⟩
        refine zB6 ?_
        refine WT.buildT hT Z Z Z Z Z Z Z Z Z Z Z Z Z Z (fun i80 hi80=>?_)
        refine WT.appendT (R:=tPT) (ys:=[Tree.mk 0 0 []]) hT 2 (hbd.mono hF4) Z (fun _=>rfl) Z Z Z Z Z Z Z Z Z Z Z (fun h0 s0=>news_own hT s0 0 Z Z Z Z) (Cells.single (R:=tPT) (x:=Tree.mk 0 0 []) (pcell_zero F4)) Z (by decide) ?_ (fun a3 c3 Bk3 hBk3=>?_)
        ·show (ys.length+1)*40≤_;omega
        obtain⟨ik,kcs,rfl,hc3,rfl,hkc⟩:=Bld.ne hBk3 (by simp)
        have hkl:=hkc.len
        rw[List.length_append] at hkl
        have hkl:kcs.length=(ys.length+1)*3:=hkl
        skip
        refine WT.idxA (j:=ys.length) (s:=3) hT Z Z Z Z Z Z Z Z Z (Nat.lt_succ_self _) ?_
        refine storeS hT 2 0 Z Z Z Z Z Z Z Z Z Z (by show 0+ys.length*3+3≤kcs.length;omega) rfl rfl ?_
        refine zB6 ?_
        refine⟨zrC,?_⟩
        skip
        have hl1:(ys++[Tree.mk vr vt vks]).length=ys.length+1:=by simp
        have hlast:=Bld.last hBk3 (y:=Tree.mk vr vt vks) hvc
        refine⟨⟨some ⟨ik,0,none⟩,c3,[(ik,.cells false (spliceL kcs (0+ys.length*3) [.int .i64 vr,.int .i64 vt,.slice va vn vc]))],ys++[Tree.mk vr vt vks],B4⟩,sM,OwnLe.skip _ (OwnLe.skip _ (OwnLe.flat ?_)),hm4,?_,?_⟩
        ·dsimp only
         rw[hl1]
         exact List.Perm.refl _
        ·dsimp only
         rw[hl1,Nat.zero_add]
         exact hlast
        ·show BestL g w (p.kids.take (q+1)) _
         rw[List.take_add_one,hzq]
         exact BestL.snoc hVB hys
       intro t F3 hF3 hQ
       obtain⟨ta,tc,tBk,ys,tB⟩:=t
       obtain⟨hm3,hbd,hys⟩:=hQ
       dsimp only at hm3 hbd hys
       rw[List.take_of_length_le zo] at hys
       have hysl:=hys.len
       refine AW.freezeAll 0 Z Z (fun F4 hF4 hB4=>?_)
       have hcell:=pcell_of_bld (r:=p.rule) (t:=0) hbd hF4 hB4 zo
       refine AW.freezeAll 1 Z Z (fun F5 hF5 hB5=>?_)
       have hnew:PT F5 i51 0 (.mk p.rule 0 ys):=⟨_,_,hB5 i51 _ me,rfl,hcell.mono hF5⟩
       have hm5:=(hm3.mono hF4).mono hF5
       have hx5:=((hx2.mono hF3).mono hF4).mono hF5
       refine zB6 ?_
       refine WT.nilEqNil hT Z Z Z Z Z Z Z Z ?_
       refine zB6 ?_
       refine AW.cond Z (fun _=>?_) (fun h=>(by cases h))
       refine zB6 ?_
       refine⟨⟨some (i51,.mk p.rule 0 ys),tB,0⟩,sM,zow,hm5,fun h=>(by cases h),fun b T h=>?_⟩
       cases h
       refine⟨hnew,?_⟩
       rw[List.take_add_one,hpj,List.take_zero]
       exact BestUp.first hpm hys
      | some bt=>
       obtain⟨b,T⟩:=bt
       obtain⟨hPT,hBU⟩:=hbest b T rfl
       obtain⟨tr,tks,rfl⟩:=hBU.rule
       have hPT0:=hPT
       obtain⟨bcs,bl,hbb,hbp,hbc⟩:=hPT
       obtain⟨ba,bn,bc,rfl⟩:∃a n c,bl=[.int .i64 (tr:Nat),.int .i64 ((0:Nat):Int),.slice a n c]:=by cases hbc;exact⟨_,_,_,rfl⟩
       unfold ptrOf
       refine zB4 ?_
       refine WT.ptrNeNil hT Z Z Z Z Z Z Z Z ?_
       refine zB4 ?_
       refine AW.cond Z (fun h=>?_) (fun h=>?_)
       ·have h:tr<p.rule:=by simpa using h
        refine AW.exit ?_
        have hfull:BestUp g w k (packsOf g w E k) (.mk tr 0 tks):=by
         have:=hBU.stop (R:=(packsOf g w E k).drop j) fun p' hp'=>by
          obtain⟨hjl,hje⟩:=gS hpj
          rw[List.drop_eq_getElem_cons hjl] at hp'
          rcases List.mem_cons.1 hp' with e | hp'
          ·rw[e,hje];exact h
          ·obtain⟨q,hq⟩:=List.getElem?_of_mem hp'
           rw[List.getElem?_drop] at hq
           obtain⟨hql,hqe⟩:=gS hq
           have:=List.pairwise_iff_getElem.1 hsorted j (j+1+q) hjl hql zo
           rw[hje,hqe] at this
           omega
         rwa [List.take_append_drop] at this
        exact⟨⟨some (b,.mk tr 0 tks),sB,j⟩,sM,zow,hmap,b,_,rfl,hPT0,hfull.best hE hk.2.2 hterm⟩
       ·clear h
        refine zB6 ?_
        refine AW.range (S:=KS1) (fun _=>[]) (fun t=>t.Bk::[(i51,.cells false [.int .i64 p.rule,.int .i64 0,.slice t.a t.ys.length t.c])]::[(i9,.cells false [.int .i64 p.rule,.slice qa qn qc])]::[(i3,.cells false [.bool k.sym.term,.int .i64 k.sym.n,.int .i64 k.frm,.int .i64 k.to])]::t.B::own)
         (fun q t G=>MapD g w x G t.B∧Bld tPT G t.a t.ys.length t.c t.Bk t.ys∧BestL g w (p.kids.take q) t.ys) qn ⟨none,0,[],[],sB⟩
         Z Z Z Z Z Z Z Z Z zo rfl rfl (fun _=>rfl) (fun _=>rfl) sM (OwnLe.flat (List.Perm.refl _)) ⟨hmap,Bld.nil_ _ _,by rw[List.take_zero];exact .nil⟩ ?_ ?_
        ·intro q t F3 hF3 hq hQ
         obtain⟨ta,tc,tBk,ys,tB⟩:=t
         obtain⟨hm3,hbd,hys⟩:=hQ
         dsimp only at hm3 hbd hys
         have hysl:=hys.len
         rw[List.length_take] at hysl
         have hkids3:=hkids.mono hF3
         have hx3:=hx2.mono hF3
         have hL3:=((hL.mono hF1).mono hF2).mono hF3
         refine zB6 ?_
         refine WT.idxL hT hkids3 Z Z Z Z Z Z Z Z Z zo (fun z hzq b3 off3 ro3 cs3 lx3 hb3 hp3 hrel3=>?_)
         obtain rfl:lx3=_:=hrel3
         obtain⟨hless,hzg,hzs⟩:=kid_less hN hg hk hpm hzq hys
         refine zB6 ?_
         refine WT.allocT hT Z Z Z Z Z Z (fun i12 hi12=>?_)
         refine zB6 ?_
         refine AW.draw (ps:=[(3,6),(3,10),(5,10),(8,10),(9,6),(9,10),(13,16),(16,13)]) Z Z ?_
         refine zB6 ?_
         refine WT.call1F 5 Tryz.func40 Z Z Z Z Z Z Z (fun _=>rfl) (dfind_spec g hg w hw12 hE hN x N z zo hzg hzs _ _ hL3 hx3 hm3) (fun F4 v B4 hF4 hv=>?_)
         obtain⟨hm4,vb,VT,rfl,hVP,hVB⟩:=hv
         obtain⟨vcs,vl,hvb,hvp,hvc⟩:=hVP
         obtain⟨vr,vt,vks⟩:=VT
         obtain⟨va,vn,vc,rfl⟩:∃a n c,vl=[.int .i64 vr,.int .i64 vt,.slice a n c]:=by cases hvc;exact⟨_,_,_,rfl⟩
         refine zB6 ?_
         refine WT.buildT hT Z Z Z Z Z Z Z Z Z Z Z Z Z Z (fun i80 hi80=>?_)
         refine WT.appendT (R:=tPT) (ys:=[Tree.mk 0 0 []]) hT 2 (hbd.mono hF4) Z (fun _=>rfl) Z Z Z Z Z Z Z Z Z Z Z (fun h0 s0=>news_own hT s0 0 Z Z Z Z) (Cells.single (R:=tPT) (x:=Tree.mk 0 0 []) (pcell_zero F4)) Z (by decide) ?_ (fun a3 c3 Bk3 hBk3=>?_)
         ·show (ys.length+1)*40≤_;omega
         obtain⟨ik,kcs,rfl,hc3,rfl,hkc⟩:=Bld.ne hBk3 (by simp)
         have hkl:=hkc.len
         rw[List.length_append] at hkl
         have hkl:kcs.length=(ys.length+1)*3:=hkl
         skip
         refine WT.idxA (j:=ys.length) (s:=3) hT Z Z Z Z Z Z Z Z Z (Nat.lt_succ_self _) ?_
         refine storeS hT 2 0 Z Z Z Z Z Z Z Z Z Z (by show 0+ys.length*3+3≤kcs.length;omega) rfl rfl ?_
         refine zB6 ?_
         refine⟨zrC,?_⟩
         skip
         have hl1:(ys++[Tree.mk vr vt vks]).length=ys.length+1:=by simp
         have hlast:=Bld.last hBk3 (y:=Tree.mk vr vt vks) hvc
         refine⟨⟨some ⟨ik,0,none⟩,c3,[(ik,.cells false (spliceL kcs (0+ys.length*3) [.int .i64 vr,.int .i64 vt,.slice va vn vc]))],ys++[Tree.mk vr vt vks],B4⟩,sM,OwnLe.skip _ (OwnLe.skip _ (OwnLe.flat ?_)),hm4,?_,?_⟩
         ·dsimp only
          rw[hl1]
          exact List.Perm.refl _
         ·dsimp only
          rw[hl1,Nat.zero_add]
          exact hlast
         ·show BestL g w (p.kids.take (q+1)) _
          rw[List.take_add_one,hzq]
          exact BestL.snoc hVB hys
        intro t F3 hF3 hQ
        obtain⟨ta,tc,tBk,ys,tB⟩:=t
        obtain⟨hm3,hbd,hys⟩:=hQ
        dsimp only at hm3 hbd hys
        rw[List.take_of_length_le zo] at hys
        have hysl:=hys.len
        refine AW.freezeAll 0 Z Z (fun F4 hF4 hB4=>?_)
        have hcell:=pcell_of_bld (r:=p.rule) (t:=0) hbd hF4 hB4 zo
        refine AW.freezeAll 1 Z Z (fun F5 hF5 hB5=>?_)
        have hnew:PT F5 i51 0 (.mk p.rule 0 ys):=⟨_,_,hB5 i51 _ me,rfl,hcell.mono hF5⟩
        have hm5:=(hm3.mono hF4).mono hF5
        have hx5:=((hx2.mono hF3).mono hF4).mono hF5
        have hPT5:=((hPT0.mono hF3).mono hF4).mono hF5
        refine zB6 ?_
        refine WT.ptrEqNil hT Z Z Z Z Z Z Z Z ?_
        refine zB6 ?_
        refine WT.callV Tryz.func67 Z Z Z Z Z Z (dcompare_spec g hg w _ _ _ (Nat.lt_succ_self _) (pack_tree hpm hys) hBU.tree F5 i51 0 b 0 hnew hPT5) (fun v hv=>?_)
        obtain⟨c,rfl,hc⟩:=hv
        refine zB6 ?_
        refine AW.cond Z (fun h=>?_) (fun h=>?_)
        ·have h:c<0:=by simpa using h
         refine zB6 ?_
         refine⟨⟨some (i51,.mk p.rule 0 ys),tB,0⟩,sM,zow,hm5,fun h=>(by cases h),fun b T h=>?_⟩
         cases h
         refine⟨hnew,?_⟩
         rw[List.take_add_one,hpj]
         exact hBU.take hpm hys (hc.1.1 h)
        ·have h:¬c<0:=by simpa using h
         refine zB6 ?_
         refine⟨⟨some (b,.mk tr 0 tks),tB,0⟩,sM,zow,hm5,fun h=>(by cases h),fun b T h=>?_⟩
         cases h
         refine⟨hPT5,?_⟩
         rw[List.take_add_one,hpj]
         exact hBU.keep hys fun hl=>h (hc.1.2 hl)
     ·intro s F2 hF2 hP
      obtain⟨hmap,hnone,hbest⟩:=hP
      obtain⟨best,sB,sl⟩:=s
      dsimp only at hmap hnone hbest
      cases best with
      | none=>
       have:=hnone rfl
       exact(hsome (List.eq_nil_of_length_eq_zero zo)).elim
      | some bt=>
       obtain⟨b,T⟩:=bt
       obtain⟨h1,h2⟩:=hbest b T rfl
       rw[List.take_of_length_le zo] at h2
       exact⟨⟨some (b,T),sB,pn⟩,sM,OwnLe.refl _,hmap,b,T,rfl,h1,h2.best hE hk.2.2 hterm⟩
    ·obtain⟨hmap,b,T,hb,hPT,hbest⟩:=hP
     obtain⟨best,sB,sl⟩:=s
     dsimp only at hmap hb
     subst hb
     obtain⟨es2,rfl,hes2⟩:=hmap
     have hblk2:=(hx1.mono hF2).blk
     refine zB4 ?_
     refine WT.mapSet keyK (key:=k) hT 1 0 Z Z Z Z Z Z Z Z Z Z Z Z ?_
     refine zB4 ?_
     refine AW.ret ⟨_,[_],⟨_,_,rfl,rfl,rfl⟩,zsb,_,rfl,⟨_,rfl,fun k' v' hv'=>?_⟩,b,T,rfl,hPT,hbest⟩
     rw[look_mset] at hv'
     split at hv'
     ·rename_i e
      subst e
      obtain rfl:=Option.some.inj hv'
      exact⟨b,T,rfl,hPT,hbest⟩
     ·exact hes2 k' v' hv'
def DParse(g:Gram)(w:List Nat)(F:Frz)(v:Value):Prop:=
 v=.tuple ⟨[.agg ⟨[.int .i64 0,.int .i64 0,.slice none 0 0]⟩,.int .i64 9]⟩∨
 (v=.tuple ⟨[.agg ⟨[.int .i64 0,.int .i64 0,.slice none 0 0]⟩,.int .i64 10]⟩∧derives g w g.start 0 w.length=false)∨
 ∃cs T,v=.tuple ⟨[.agg ⟨cs⟩,.int .i64 0]⟩∧tTree.rel F cs T∧BestOf g w (rootKey g w) T∧derives g w g.start 0 w.length=true∧∃M E0 Fi,NoLoop g M E0 Fi
theorem dparse_spec(F:Frz)(hL:Laid F)(g:Gram)(hg:Valid g){ga:Option Addr}{gm gc:Nat}(hr:Arr tRule F ga gm gc g.rules){b:Option Addr}{n d:Nat}{w:List Nat}(hw:Arr tNat F b n d w)(hw12:w.length≤12)(hw2:∀t∈w,t<g.terms) :
  Abs.Spec CC 8 [.agg ⟨gramCells g ga gm gc⟩,.slice b n d] F [] fun F' v o=>o=[]∧DParse g w F' v:=by
 unfold gramCells
 have hwl:=hw.len
 subst hwl
 refine Abs.Spec.fn (n:=44) Tryz.func8 rfl rfl fun own=>?_
 refine AW.seq (AW.reg ?_)
 refine WT.boxT Z Z Z Z Z Z (fun i2 hi2=>?_)
 refine WT.allocT hT Z Z Z Z Z Z (fun i4 hi4=>?_)
 refine zB4 ?_
 refine WT.callV Tryz.func9 Z Z Z Z Z Z (accepts_spec _ hL g hg hr hw hw12 hw2) (fun v hv=>?_)
 subst hv
 refine zB4 ?_
 refine AW.cond Z (fun h=>(by cases h)) (fun h=>?_)
 refine zB4 ?_
 refine WT.callF0 Tryz.func37 Z Z Z Z Z Z (loops_spec _ g hg hr) (fun F1 v hF1 hv=>?_)
 obtain⟨lb,rfl,hlb⟩:=hv
 refine zB4 ?_
 refine AW.cond Z (fun h=>?_) (fun h=>?_)
 ·refine zB4 ?_
  exact AW.ret ⟨_,[],⟨_,_,⟨_,rfl,fun G h0 s0=>loadA_cells (s0.has (p:=0) rfl me) (readT_ok hT rfl)⟩,⟨_,_,rfl,rfl,rfl⟩,rfl⟩,zsb,rfl,.inl rfl⟩
 ·have h:lb=false:=h
  obtain⟨M,E0,Fi,hN⟩:=hlb h
  refine zB4 ?_
  refine AW.cond Z (fun hd=>?_) (fun hd=>?_)
  ·have hd:derives g w g.start 0 w.length=false:=by simpa using hd
   refine zB4 ?_
   exact AW.ret ⟨_,[],⟨_,_,⟨_,rfl,fun G h0 s0=>loadA_cells (s0.has (p:=0) rfl me) (readT_ok hT rfl)⟩,⟨_,_,rfl,rfl,rfl⟩,rfl⟩,zsb,rfl,.inr (.inl ⟨rfl,hd⟩)⟩
  ·have hd:derives g w g.start 0 w.length=true:=by simpa using hd
   have hr1:=hr.mono hF1
   have hw1:=hw.mono hF1
   have hL1:=hL.mono hF1
   refine zB4 ?_
   refine AW.draw (ps:=[(0,4),(0,5),(2,5)]) Z Z ?_
   refine zB4 ?_
   refine WT.callF0 Tryz.func38 Z Z Z Z Z Z (ends_spec _ hL1 g hg hr1 hw1 zo) (fun F2 v hF2 hv=>?_)
   obtain⟨ea,ec,E,rfl,hE,hE2⟩:=hv
   skip
   refine WT.makeMap Z Z Z Z (fun im him=>?_)
   refine zB4 ?_
   refine WT.boxT Z Z Z Z Z Z (fun fp hfp=>?_)
   refine zB4 ?_
   refine⟨zrC,?_⟩
   refine AW.freezeAll 0 Z Z (fun F3 hF3 hB3=>?_)
   have hF23:=hF2.trans hF3
   have hroot:=root_good hg w
   have hst:stepB w E (rootKey g w).sym (rootKey g w).frm (rootKey g w).to=true:=(step_der hE2 (Nat.zero_le _)).2 (derives_iff.1 hd)
   have hfa:FinderAt F3 ⟨fp,im,ga,gm,gc,b,w.length,d,ea,g.nons,ec⟩ g w E:=⟨hB3 fp _ me,hr1.mono hF23,hw1.mono hF23,hE.mono hF3⟩
   refine zB4 ?_
   refine WT.callV Tryz.func41 Z Z Z Z Z Z (gN_spec _ _) (fun v hv=>?_)
   subst hv
   refine zB4 ?_
   have hmap:MapD g w ⟨fp,im,ga,gm,gc,b,w.length,d,ea,g.nons,ec⟩ F3 [(im,.map [])]:=⟨[],rfl,fun k v h=>by cases h⟩
   refine WT.call1F 1 Tryz.func40 Z Z Z Z Z Z Z (fun _=>rfl) (dfind_spec g hg w hw12 hE2 hN ⟨fp,im,ga,gm,gc,b,w.length,d,ea,g.nons,ec⟩ _ (rootKey g w) (Nat.lt_succ_self _) hroot hst F3 _ (hL1.mono hF23) hfa hmap) (fun F4 v B4 hF4 hv=>?_)
   obtain⟨hm4,vb,T,rfl,hPT,hbest⟩:=hv
   obtain⟨vcs,vl,hvb,hvp,hvc⟩:=hPT
   obtain⟨dd,hdd⟩:=id hvc.tree
   obtain⟨vr,vt,vks⟩:=T
   obtain⟨va,vn,vc,rfl⟩:∃a n c,vl=[.int .i64 vr,.int .i64 vt,.slice a n c]:=by cases hvc;exact⟨_,_,_,rfl⟩
   refine zB4 ?_
   refine WT.callF0 Tryz.func39 Z Z Z Z Z Z (copyTree_spec dd F4 _ _ hdd) (fun F5 v hF5 hv=>?_)
   obtain⟨cv,rfl,hcv⟩:=hv
   obtain⟨ya,yn,yc,rfl,hya,hyb⟩:=tTree_cases hcv
   refine zB4 ?_
   exact AW.ret ⟨_,[],⟨_,_,⟨_,rfl,fun G h0 s0=>loadA_cells (s0.has (p:=2) rfl me) (readT_ok hT rfl)⟩,⟨_,_,rfl,rfl,rfl⟩,rfl⟩,zsb,rfl,.inr (.inr ⟨_,_,rfl,hcv,hbest,hd,M,E0,Fi,hN⟩)⟩
section
variable {g:Gram}{w:List Nat}{M:List (List Bool)}{E0:List Bool}{Fi:List (List Bool)}
def rho(g:Gram)(M:List (List Bool))(s:Sym):Nat:=if s.term=true then 0 else rank g.nons M s.n+1
theorem rho_le(hs:Small g)(s:Sym):rho g M s≤5:=by
 unfold rho
 split
 ·omega
 ·have:=rank_le g.nons M s.n
  have:=hs.nons
  omega
theorem rho_next(hN:NoLoop g M E0 Fi)(hs:Small g){r:Rule}(hr:r∈g.rules){pre post:List Sym}{s:Sym}(he:r.right=pre++s::post){ts:List Tree}{i:Nat}(hm:TreesOf g w pre ts i i):rho g M s+1≤rho g M ⟨false,r.left⟩:=by
 unfold rho
 rw[show (if (⟨false,r.left⟩:Sym).term=true then 0 else rank g.nons M r.left+1)=rank g.nons M r.left+1 from rfl]
 split
 ·omega
 ·rename_i ht
  have ht:s.term=false:=by simpa using ht
  have hsy:s=⟨false,s.n⟩:=by rw[←ht]
  have hok:=(hs.ok r hr).2.2 s (by rw[he];simp)
  have hn:s.n<g.nons:=by unfold SymOk at hok;rw[if_neg (by rw[ht];simp)] at hok;exact hok
  have:=hN.rank_lt hn (hN.direct r hr pre s.n post (by rw[←hsy];exact he) (hm.empty hN.first rfl))
  omega
mutual
theorem size_empty(hN:NoLoop g M E0 Fi)(hs:Small g):∀{t:Tree} {s:Sym} {i:Nat},TreeOf g w s t i i→t.pre.length≤4 ^ rho g M s
 | .mk k _ ks,_,i,h=>by
  generalize hj:i=j at h
  generalize hsy:(Tree.mk k _ ks)=T at h
  cases h with
  | @node q r kids _ _ g1 g2=>
   cases hsy
   subst hj
   have hr:=gM g1
   have h3:=(hs.ok r hr).2.1
   have hrho:1≤rho g M ⟨false,r.left⟩:=by unfold rho;rw[if_neg (by simp)];omega
   have h4:=sizes_empty hN hs hr (pre:=[]) (by simp) .nil g2
   show (preL ks).length+1≤_
   obtain⟨n,hn⟩:∃n,rho g M ⟨false,r.left⟩=n+1:=⟨rho g M ⟨false,r.left⟩-1,by omega⟩
   rw[hn] at h4 ⊢
   rw[Nat.add_sub_cancel] at h4
   have h5:r.right.length*4 ^ n≤3*4 ^ n:=Nat.mul_le_mul_right _ h3
   have h6:0<4 ^ n:=Nat.pow_pos (by decide)
   rw[Nat.pow_succ]
   omega
theorem sizes_empty(hN:NoLoop g M E0 Fi)(hs:Small g):∀{ts:List Tree} {l:List Sym} {i:Nat} {r:Rule} {pre:List Sym} {us:List Tree},r∈g.rules→r.right=pre++l→TreesOf g w pre us i i→TreesOf g w l ts i i→(preL ts).length≤l.length*4 ^ (rho g M ⟨false,r.left⟩-1)
 | [],_,_,_,_,_,_,_,_,_=>Nat.zero_le _
 | t::ts,_,i,r,pre,us,hr,he,hu,h=>by
  generalize hj:i=j at h
  cases h with
  | @cons s l _ _ _ m _ h1 h2=>
   have l1:=TreeOf.le h1
   have l2:=TreesOf.le h2
   obtain rfl:m=i:=by omega
   subst hj
   have h3:=size_empty hN hs h1
   have h4:=rho_next hN hs hr he hu
   have h5:4 ^ rho g M s≤4 ^ (rho g M ⟨false,r.left⟩-1):=Nat.pow_le_pow_right (by decide) zo
   have h6:=sizes_empty hN hs hr (pre:=pre++[s]) (by rw[he];simp) (TreesOf.snoc h1 hu) h2
   rw[preL_cons,List.length_append,List.length_cons,Nat.add_mul,Nat.one_mul]
   omega
end
mutual
theorem size_full(hN:NoLoop g M E0 Fi)(hs:Small g):∀{t:Tree} {s:Sym} {i j:Nat},TreeOf g w s t i j→i<j→t.pre.length+15365≤15366*(j-i)+3073*rho g M s
 | .mk k _ ks,_,i,j,h,hij=>by
  generalize hsy:(Tree.mk k _ ks)=T at h
  cases h with
  | leaf _=>
   cases hsy
   show 1+15365≤_
   have:i+1-i=1:=by omega
   rw[this]
   omega
  | @node q r kids _ _ g1 g2=>
   cases hsy
   have hr:=gM g1
   have h3:=(hs.ok r hr).2.1
   have h4:=sizes_first hN hs hr (pre:=[]) (by simp) .nil g2 hij
   have hrho:1≤rho g M ⟨false,r.left⟩:=by unfold rho;rw[if_neg (by simp)];omega
   show (preL ks).length+1+15365≤_
   omega
theorem sizes_first(hN:NoLoop g M E0 Fi)(hs:Small g):∀{ts:List Tree} {l:List Sym} {i j:Nat} {r:Rule} {pre:List Sym} {us:List Tree},r∈g.rules→r.right=pre++l→TreesOf g w pre us i i→TreesOf g w l ts i j→i<j→(preL ts).length+15365≤l.length*1024+15366*(j-i)+3073*(rho g M ⟨false,r.left⟩-1)
 | [],_,_,_,_,_,_,_,_,_,h,hij=>by cases h;omega
 | t::ts,_,i,j,r,pre,us,hr,he,hu,h,hij=>by
  cases h with
  | @cons s l _ _ _ m _ h1 h2=>
   have l1:=TreeOf.le h1
   have l2:=TreesOf.le h2
   have h4:=rho_next hN hs hr he hu
   rw[preL_cons,List.length_append,List.length_cons,Nat.add_mul,Nat.one_mul]
   rcases Nat.lt_or_ge i m with h5 | h5
   ·have h6:=size_full hN hs h1 h5
    have h7:=sizes_rest hN hs h2
    omega
   ·obtain rfl:m=i:=by omega
    have h6:=size_empty hN hs h1
    have h7:=rho_le (M:=M) hs s
    have h8:4 ^ rho g M s≤4 ^ 5:=Nat.pow_le_pow_right (by decide) h7
    have h9:=sizes_first hN hs hr (pre:=pre++[s]) (by rw[he];simp) (TreesOf.snoc h1 hu) h2 hij
    omega
theorem sizes_rest(hN:NoLoop g M E0 Fi)(hs:Small g):∀{ts:List Tree} {l:List Sym} {i j:Nat},TreesOf g w l ts i j→(preL ts).length≤l.length*1024+15366*(j-i)
 | [],_,_,_,h=>Nat.zero_le _
 | t::ts,_,i,j,h=>by
  cases h with
  | @cons s l _ _ _ m _ h1 h2=>
   have l1:=TreeOf.le h1
   have l2:=TreesOf.le h2
   have h7:=sizes_rest hN hs h2
   have h8:=rho_le (M:=M) hs s
   rw[preL_cons,List.length_append,List.length_cons,Nat.add_mul,Nat.one_mul]
   rcases Nat.lt_or_ge i m with h5 | h5
   ·have h6:=size_full hN hs h1 h5
    omega
   ·obtain rfl:m=i:=by omega
    have h6:=size_empty hN hs h1
    have h9:4 ^ rho g M s≤4 ^ 5:=Nat.pow_le_pow_right (by decide) h8
    omega
end
theorem size_small(hN:NoLoop g M E0 Fi)(hs:Small g){t:Tree}{s:Sym}{j:Nat}(h:TreeOf g w s t 0 j)(hj:j≤12):t.pre.length≤1000000:=by
 have h1:=rho_le (M:=M) hs s
 rcases Nat.eq_zero_or_pos j with h2 | h2
 ·subst h2
  have h3:=size_empty hN hs h
  have h4:4 ^ rho g M s≤4 ^ 5:=Nat.pow_le_pow_right (by decide) h1
  omega
 ·have h3:=size_full hN hs h h2
  omega
end
theorem partL_ok{cs:List Value}{off n:Nat}{l:List Value}(h:partL cs off n=some l):l=(cs.drop off).take n∧l.length=n:=by
 unfold partL at h
 cases e:(((cs.drop off).take n).length==n) with
 | false=>simp only[e,cond_false] at h;cases h
 | true=>
  simp only[e,cond_true] at h
  obtain rfl:=Option.some.inj h
  exact⟨rfl,eq_of_beq e⟩
theorem partL_app{cs:List Value}{off n m:Nat}{l1 l2:List Value}(h1:partL cs off n=some l1)(h2:partL cs (off+n) m=some l2):partL cs off (n+m)=some (l1++l2):=by
 obtain⟨e1,k1⟩:=partL_ok h1
 obtain⟨e2,k2⟩:=partL_ok h2
 have e:(cs.drop off).take (n+m)=l1++l2:=by rw[List.take_add,List.drop_drop,←e1,←e2]
 unfold partL
 simp only[e]
 have:((l1++l2).length==n+m)=true:=by simp[k1,k2]
 rw[this];rfl
theorem arr_part{α:Type}{R:Ty α}{F:Frz}{a:Option Addr}{n c:Nat}{xs:List α}(hx:Arr R F a n c xs)(hn:0<n) :
  ∃b off ro cs ds,a=some ⟨b,off,none⟩∧F b=some (.cells ro cs)∧partL cs off (n*R.size)=some ds∧Cells R F ds xs:=by
 have hl:=hx.len
 obtain⟨x0,h0⟩:∃x,xs[0]?=some x:=⟨_,gE zo⟩
 obtain⟨b,off,ro,cs,l,h1,h2,h3,h4⟩:=hx.el 0 x0 h0
 have main:∀k,k≤xs.length→0<k→∃ds,partL cs off (k*R.size)=some ds∧Cells R F ds (xs.take k):=by
  intro k
  induction k with
  | zero=>intro _ h;omega
  | succ k ih=>
   intro hk _
   obtain⟨y,hy⟩:∃x,xs[k]?=some x:=⟨_,gE zo⟩
   obtain⟨b',off',ro',cs',l',g1,g2,g3,g4⟩:=hx.el k y hy
   rw[h1] at g1
   injection g1 with g1;injection g1 with g1 g1'
   subst g1;subst g1'
   rw[h2] at g2
   injection g2 with g2;injection g2 with g2 g2'
   subst g2'
   have ht:xs.take (k+1)=xs.take k++[y]:=by rw[List.take_add_one,hy];rfl
   rw[ht]
   by_cases hk0:k=0
   ·subst hk0
    exact⟨l',by simpa using g3,by simpa using Cells.single g4⟩
   ·obtain⟨ds,d1,d2⟩:=ih zo zo
    exact⟨ds++l',by rw[Nat.add_mul,Nat.one_mul];exact partL_app d1 g3,d2.append (Cells.single g4)⟩
 obtain⟨ds,d1,d2⟩:=main n zo hn
 rw[hl,List.take_length] at d2
 exact⟨b,off,ro,cs,ds,h1,h2,d1,d2⟩
theorem news_part{C:Ctx}{T:RT}{F:Frz}{own:Own}(hT:rowsOk C T=true){h:Heap}(s:St F own h){b off:Nat}{ro:Bool}{cs ds:List Value}{e sz len c t e':Nat}{r:Row}(hb:F b=some (.cells ro cs))(hr:rowOf T t=some r)(hd:r.d=.slice e')
  (hp:partL cs off (len*sz)=some ds):newsA C h e sz (some t) (.slice (some ⟨b,off,none⟩) len c)=some (len,ds):=by
 have hb:=s.frz _ _ hb
 by_cases hz:len=0
 ·subst hz
  have:=(partL_ok hp).1
  rw[Nat.zero_mul,List.take_zero] at this
  subst this
  simp[newsA,und_slice hT hr hd,plainNewsA,lenOfA,firstA]
 ·simp only[newsA,und_slice hT hr hd,plainNewsA,lenOfA,firstA,cellsAt,hb,hp,show (len==0)=false by simpa using hz]
  rfl
theorem arr_one{F:Frz}{b:Nat}{ro:Bool}{x:Nat}(h:F b=some (.cells ro [.int .i64 x])):Arr tNat F (some ⟨b,0,none⟩) 1 1 [x]:=by
 refine⟨rfl,.inr rfl,fun h=>(by cases h),fun h=>(by cases h),?_,?_⟩
 ·intro p hp
  injection hp with hp
  subst hp
  rfl
 ·intro j y hj
  have h0:j=0:=by have:=(gS hj).1;simp at this;omega
  subst h0
  obtain rfl:x=y:=by simpa using hj
  exact⟨b,0,ro,_,_,rfl,h,rfl,rfl⟩
theorem word_one{w:List Nat}{i x:Nat}(h:w[i]?=some x):(w.take (i+1)).drop i=[x]:=by
 rw[List.take_add_one,h]
 have:=(gS h).1
 rw[List.drop_append_of_le_length (by simp;omega),List.drop_of_length_le (by simp;omega)]
 rfl
theorem word_app{w:List Nat}{i m j:Nat}(h1:i≤m)(h2:m≤j)(h3:m≤w.length):(w.take j).drop i=(w.take m).drop i++(w.take j).drop m:=by
 have:w.take j=w.take m++(w.take j).drop m:=by
  have:=(List.take_append_drop m (w.take j)).symm
  rw[List.take_take,Nat.min_eq_left h2] at this
  exact this
 conv=>lhs;rw[this]
 rw[List.drop_append_of_le_length (by simp;omega)]
structure RS where
 xs:List Nat
 a:Option Addr
 c:Nat
 B:List (Nat×Blk)
theorem reads_spec(g:Gram)(hg:Valid g){a:Option Addr}{m c:Nat}(w:List Nat)(hw:w.length≤12):∀(d:Nat) (F:Frz) (hr:Arr tRule F a m c g.rules) (cs:List Value) (t:Tree) (s:Sym) (i j:Nat),(tTreeN d).rel F cs t→TreeOf g w s t i j→i≤w.length→
  Abs.Spec CC 49 [.agg ⟨gramCells g a m c⟩,.agg ⟨[.bool s.term,.int .i64 s.n]⟩,.agg ⟨cs⟩] F [] fun F' v o=>o=[]∧∃a n c,v=.tuple ⟨[.slice a n c,.bool true]⟩∧Arr tNat F' a n c ((w.take j).drop i)∧(n=0→a=none)
 | 0,_,_,_,_,_,_,_,h,_,_=>h.elim
 | d+1,F,hr,cs,t,s,i,j,h,ht,hi=>by
  obtain⟨tr,tt,ks,ta,tn,tc,rfl,rfl,hk,hkb⟩:=h
  have hkl:=hk.len
  have hrl:=hr.len
  have hgr:=hg.range.rules
  unfold gramCells
  refine Abs.Spec.fn (n:=107) Tryz.func49 rfl rfl fun own=>?_
  refine AW.seq (AW.reg ?_)
  refine WT.boxT Z Z Z Z Z Z (fun i3 hi3=>?_)
  skip
  refine WT.boxT Z Z Z Z Z Z (fun i4 hi4=>?_)
  skip
  refine WT.boxT Z Z Z Z Z Z (fun i5 hi5=>?_)
  refine zB4 ?_
  cases ht with
  | leaf hw1=>
   obtain rfl:tn=0:=hkl
   refine AW.cond Z (fun _=>?_) (fun h=>(by cases h))
   refine AW.seq (AW.draw (ps:=[(4,2),(5,2),(8,2),(10,2),(11,2),(15,2),(16,2),(17,2)]) Z Z ?_)
   refine zB4 ?_
   refine WT.buildT hT Z Z Z Z Z Z Z Z Z Z Z Z Z Z (fun i17 hi17=>?_)
   refine zB4 ?_
   refine WT.split 21 Z (fun _=>?_) (fun h=>(by simp at h))
   skip
   refine WT.split 28 Z (fun _=>?_) (fun h=>(by simp at h))
   refine zB4 ?_
   refine⟨zrC,?_⟩
   refine AW.freezeAll 0 Z Z (fun F2 hF2 hB2=>?_)
   have hi17:=hB2 i17 _ me
   skip
   exact AW.ret ⟨_,[],⟨_,_,rfl,⟨_,_,rfl,rfl,rfl⟩,rfl⟩,zsb,rfl,_,1,1,rfl,(by rw[word_one hw1];exact arr_one hi17),fun h=>(by cases h)⟩
  | node hrk hts=>
   rename_i k r
   have hkn:=(gS hrk).1
   have hle:=hts.len
   refine AW.cond Z (fun h=>(by cases h)) (fun _=>?_)
   refine zB4 ?_
   refine WT.split 37 Z (fun h=>(by simp at h;omega)) (fun _=>?_)
   skip
   refine WT.split 45 Z (fun h=>(by simp at h;omega)) (fun _=>?_)
   refine zB4 ?_
   refine WT.split 50 Z (fun h=>(by simp at h)) (fun _=>?_)
   skip
   refine WT.idxL hT hr Z Z Z Z Z Z Z Z Z hkn (fun r1 hr1 b1 off ro1 cs lx hb hp1 hrel=>?_)
   obtain rfl:r1=r:=by rw[hrk] at hr1;exact(Option.some.inj hr1).symm
   obtain⟨b2,n2,d2,rfl,hr4⟩:=hrel
   have hr4l:=hr4.len
   refine zB4 ?_
   refine WT.split 62 Z (fun h=>(by simp at h)) (fun _=>?_)
   refine zB4 ?_
   refine WT.idxL hT hr Z Z Z Z Z Z Z Z Z hkn (fun r2 hr2 b1' off' ro1' cs' lx' hb' hp1' hrel'=>?_)
   obtain rfl:r2=r1:=by rw[hrk] at hr2;exact(Option.some.inj hr2).symm
   obtain⟨b2',n2',d2',rfl,hr4'⟩:=hrel'
   have hr4l':=hr4'.len
   refine zB4 ?_
   refine AW.cond Z (fun h=>(by simp at h;omega)) (fun _=>?_)
   refine zB4 ?_
   refine AW.range (S:=RS) (fun s=>[(8,.slice s.a s.xs.length s.c)]) (fun s=>s.B::[(i5,.cells false [.int .i64 k,.int .i64 (0:Nat),.slice ta tn tc])]::[(i4,.cells false [.bool false,.int .i64 r2.left])]::[(i3,.cells false [.int .i64 g.terms,.int .i64 g.nons,.int .i64 g.start,.slice a m c])]::own)
    (fun q s G=>Bld tNat G s.a s.xs.length s.c s.B s.xs∧∃mm,s.xs=(w.take mm).drop i∧i≤mm∧mm≤w.length∧TreesOf g w (r2.right.drop q) (ks.drop q) mm j∧(s.xs.length=0→s.a=none)) tn ⟨[],none,0,[]⟩
    Z Z Z Z Z Z Z Z Z zo rfl rfl (fun _=>rfl) (fun _=>rfl) sM (OwnLe.flat (List.Perm.refl _)) ⟨Bld.nil_ _ _,i,by rw[List.drop_of_length_le (by simp;omega)],Nat.le_refl _,hi,hts,fun _=>rfl⟩ ?_ ?_
   ·intro q s F1 hF1 hq hP
    obtain⟨hb,mm,hxs,h1,h2,hts2,hnil⟩:=hP
    have hk1:=hk.mono hF1
    have hrA:=hr.mono hF1
    refine zB6 ?_
    refine WT.idxL hT hk1 Z Z Z Z Z Z Z Z (by rw[tTreeN_size];rfl) zo (fun x hx b off ro cs lx hb1 hp1 hrel=>?_)
    rw[tTreeN_size] at hp1
    obtain⟨xr,xt,xk,xa,xn,xc,rfl,rfl,hxa,hxb⟩:∃xr xt xk xa xn xc,x=Tree.mk xr xt xk∧lx=[.int .i64 xr,.int .i64 (xt:Nat),.slice xa xn xc]∧Arr tTree F1 xa xn xc xk∧xk.length≤1000000:=by
     cases x with
     | mk xr xt xk=>
      obtain⟨xa,xn,xc,h1,h2,h3⟩:=tTree_cases ⟨d,hrel⟩
      exact⟨xr,xt,xk,xa,xn,xc,rfl,h1,h2,h3⟩
    refine zB6 ?_
    refine WT.allocT hT Z Z Z Z Z Z (fun i10 hi10=>?_)
    refine zB6 ?_
    refine WT.idxL hT hrA Z Z Z Z Z Z Z Z Z hkn (fun r3 hr3 b3 off3 ro3 cs3 lx3 hb3 hp3 hrel3=>?_)
    obtain rfl:r3=r2:=by rw[hrk] at hr3;exact(Option.some.inj hr3).symm
    obtain⟨b4,n4,d4,rfl,hr5⟩:=hrel3
    have hr5l:=hr5.len
    refine zB6 ?_
    refine WT.idxL hT hr5 Z Z Z Z Z Z Z Z Z zo (fun y hy b6 off6 ro6 cs6 lx6 hb6 hp6 hrel6=>?_)
    obtain rfl:lx6=_:=hrel6
    obtain⟨hq1,hy1⟩:=gS hy
    obtain⟨hq2,hx1⟩:=gS hx
    rw[List.drop_eq_getElem_cons hq1,List.drop_eq_getElem_cons hq2,hy1,hx1] at hts2
    obtain⟨m2,hto,hts3⟩:∃m2,TreeOf g w y (Tree.mk xr xt xk) mm m2∧TreesOf g w (r3.right.drop (q+1)) (ks.drop (q+1)) m2 j:=by
     cases hts2 with
     | cons h h2=>exact⟨_,h,h2⟩
    have hm2:=hto.le
    have hm2w:=hm2.2 h2
    refine zB6 ?_
    refine WT.callF0 Tryz.func49 Z Z Z Z Z Z (reads_spec g hg w hw d _ hrA _ _ y mm m2 hrel hto h2) (fun F2 v hF2 hv=>?_)
    obtain⟨ya,yn,yc,rfl,hya,hyz⟩:=hv
    have hb:=hb.mono hF2
    have hyl:=hya.len
    have hyl2:yn≤12:=by rw[hyl];simp;omega
    have hsl:s.xs.length≤12:=by rw[hxs];simp;omega
    refine zB6 ?_
    refine AW.cond Z (fun h=>(by cases h)) (fun _=>?_)
    refine zB6 ?_
    rcases Nat.eq_zero_or_pos yn with hz | hz
    ·subst hz
     have hm0:(w.take m2).drop mm=[]:=List.length_eq_zero_iff.1 hyl.symm
     obtain rfl:=hyz rfl
     refine WT.append0 hT Z Z Z Z Z Z Z Z Z Z Z Z Z (fun h0 s0=>rfl) (by decide) zom ?_
     refine zB6 ?_
     exact⟨⟨s.xs,s.a,s.c,s.B⟩,sM,OwnLe.skip _ oR,hb,m2,by rw[hxs,word_app h1 hm2.1 h2,hm0,List.append_nil],by omega,hm2w,hts3,hnil⟩
    ·obtain⟨b7,off7,ro7,cs7,ds7,rfl,hb7,hp7,hc7⟩:=arr_part hya hz
     refine WT.appendT (ys:=(w.take m2).drop mm) hT 1 hb Z (fun _=>rfl) Z Z Z Z Z Z Z Z Z Z Z (fun h0 s0=>news_part hT s0 hb7 Z Z hp7) hc7 hyl ⟨hz,by decide,by decide⟩ zom (fun a3 c3 B3 hB3=>?_)
     have hl2:(s.xs++(w.take m2).drop mm).length=s.xs.length+yn:=by rw[List.length_append,←hyl]
     rw[←hl2] at hB3 ⊢
     refine zB6 ?_
     exact⟨⟨s.xs++(w.take m2).drop mm,a3,c3,B3⟩,sM,OwnLe.skip _ oR,hB3,m2,by rw[hxs,←word_app h1 hm2.1 h2],by omega,hm2w,hts3,fun h=>absurd h (by rw[hl2];omega)⟩
   ·intro s F1 hF1 hP
    obtain⟨hb,mm,hxs,h1,h2,hts2,hnil⟩:=hP
    rw[List.drop_of_length_le zo,List.drop_of_length_le zo] at hts2
    have:mm=j:=by cases hts2;rfl
    subst this
    refine AW.freezeAll 0 Z Z (fun F2 hF2 hB2=>?_)
    have hx:=hb.frozen hF2 hB2
    refine zB4 ?_
    exact AW.ret ⟨_,[],⟨_,_,rfl,⟨_,_,rfl,rfl,rfl⟩,rfl⟩,zsb,rfl,_,_,_,rfl,hxs▸hx,hnil⟩
theorem isTree_spec(g:Gram)(hg:Valid g)(F:Frz){a:Option Addr}{m c:Nat}(hr:Arr tRule F a m c g.rules)(w:List Nat)(hw:w.length≤12){cs:List Value}{t:Tree}{j:Nat}(ht:tTree.rel F cs t)(hto:TreeOf g w ⟨false,g.start⟩ t 0 j)
  {b:Option Addr} {n d:Nat} (hb:Arr tNat F b n d (w.take j)) :
  Abs.Spec CC 14 [.agg ⟨gramCells g a m c⟩,.slice b n d,.agg ⟨cs⟩] F [] fun _ v o=>o=[]∧v=.bool true:=by
 obtain⟨dd,hdd⟩:=id ht
 obtain⟨tr,tt,tk⟩:=t
 obtain⟨ta,tn,tc,rfl,hta,htb⟩:=tTree_cases ht
 unfold gramCells
 refine Abs.Spec.fn (n:=24) Tryz.func14 rfl rfl fun own=>?_
 refine AW.seq (AW.reg ?_)
 refine WT.boxT Z Z Z Z Z Z (fun i3 hi3=>?_)
 skip
 refine WT.boxT Z Z Z Z Z Z (fun i5 hi5=>?_)
 refine zB4 ?_
 refine WT.callF0 Tryz.func49 Z Z Z Z Z Z (reads_spec g hg w hw dd _ hr _ _ ⟨false,g.start⟩ 0 j hdd hto (Nat.zero_le _)) (fun F1 v hF1 hv=>?_)
 obtain⟨ya,yn,yc,rfl,hya,_⟩:=hv
 rw[List.drop_zero] at hya
 have hyl:=hya.len
 have hyn:yn≤1000000:=by rw[hyl];simp;omega
 refine zB4 ?_
 refine WT.callV Tryz.func45 Z Z Z Z Z Z (equal_spec _ hya (hb.mono hF1) hyn) (fun v hv=>?_)
 rw[decide_eq_true rfl] at hv
 subst hv
 refine zB4 ?_
 exact AW.ret ⟨_,[],⟨_,_,rfl,rfl,rfl⟩,zsb,rfl,rfl⟩
def cmpL:List Int→List Int→Int
 | [],[]=>0
 | [],_::_=>-1
 | _::_,[]=>1
 | a::l,b::m=>if cmpInt a b=0 then cmpL l m else cmpInt a b
theorem cmpL_take:∀(j:Nat) (l m:List Int),j≤l.length→j≤m.length→(∀i (h1:i<l.length) (h2:i<m.length),i<j→cmpInt l[i] m[i]=0)→cmpL l m=cmpL (l.drop j) (m.drop j)
 | 0,l,m,_,_,_=>by simp
 | j+1,[],m,h,_,_=>by simp at h
 | j+1,_::_,[],_,h,_=>by simp at h
 | j+1,a::l,b::m,h1,h2,h=>by
  have h0:=h 0 (by simp) (by simp) zo
  simp only[List.getElem_cons_zero] at h0
  simp only[cmpL,h0,if_true,List.drop_succ_cons]
  exact cmpL_take j l m (by simpa using h1) (by simpa using h2) (fun i h3 h4 h5=>h (i+1) (by simpa using h3) (by simpa using h4) zo)
theorem intCompare_spec(F:Frz){a b:Option Addr}{m n c d:Nat}{xs ys:List Int}(hx:Arr tInt F a m c xs)(hy:Arr tInt F b n d ys)(hm:m≤1000000)(hn:n≤1000000) :
  Abs.Spec CC 12 [.slice a m c,.slice b n d] F [] fun _ v o=>o=[]∧v=.int .i64 (cmpL xs ys):=by
 refine Abs.Spec.fn (n:=36) Tryz.func12 rfl rfl fun own=>?_
 have hxlen:=hx.len
 have hylen:=hy.len
 refine zB4 ?_
 refine AW.range (S:=Unit) (fun _=>[]) (fun _=>_) (fun j _ _=>j≤n∧∀i (h1:i<xs.length) (h2:i<ys.length),i<j→cmpInt xs[i] ys[i]=0) m () Z Z Z Z Z Z Z Z Z zo Z Z (fun _=>rfl) (fun _=>rfl) sM oR ⟨by omega,by omega⟩ ?_ ?_
 ·intro j _ F1 hF1 hj hP
  obtain⟨hjn,hP⟩:=hP
  have hx1:=hx.mono hF1
  have hy1:=hy.mono hF1
  refine zB4 ?_
  refine WT.idxL hT hx1 Z Z Z Z Z Z Z Z Z zo (fun x hxj b1 off ro cs lx hb hp hrel=>?_)
  obtain rfl:lx=_:=hrel
  refine zB4 ?_
  refine AW.cond Z (fun hc=>?_) (fun hc=>?_)
  ·have hc:n≤j:=by simp at hc;omega
   refine zB4 ?_
   refine AW.ret ⟨_,[],⟨_,_,rfl,rfl,rfl⟩,zsb,rfl,?_⟩
   rw[cmpL_take j xs ys zo zo hP,List.drop_of_length_le (show ys.length≤j by omega),List.drop_eq_getElem_cons (show j<xs.length by omega)]
   rfl
  ·have hc:j<n:=by simp at hc;omega
   refine zB4 ?_
   refine WT.idxL hT hy1 Z Z Z Z Z Z Z Z Z zo (fun y hyj b2 off2 ro2 cs2 ly hb2 hp2 hrel2=>?_)
   obtain rfl:ly=_:=hrel2
   refine zB4 ?_
   refine WT.callV Tryz.func48 Z Z Z Z Z Z (compare_spec _ x y) (fun v hv=>?_)
   subst hv
   have ex:xs[j]'zo=x:=by rw[gE zo] at hxj;simpa using hxj
   have ey:ys[j]'zo=y:=by rw[gE zo] at hyj;simpa using hyj
   refine zB4 ?_
   refine AW.cond Z (fun hc2=>?_) (fun hc2=>?_)
   ·have hc2:cmpInt x y≠0:=by simpa using hc2
    refine zB4 ?_
    refine AW.ret ⟨_,[],⟨_,_,rfl,rfl,rfl⟩,zsb,rfl,?_⟩
    rw[cmpL_take j xs ys zo zo hP,List.drop_eq_getElem_cons (show j<xs.length by omega),List.drop_eq_getElem_cons (show j<ys.length by omega)]
    simp[cmpL,ex,ey,hc2,tupleA]
   ·have hc2:cmpInt x y=0:=by simpa using hc2
    refine zB4 ?_
    refine⟨(),sM,zow,by omega,fun i h1 h2 h3=>?_⟩
    rcases Nat.lt_or_ge i j with h4 | h4
    ·exact hP i h1 h2 h4
    ·have:i=j:=by omega
     subst this
     rw[ex,ey];exact hc2
 ·intro _ F1 hF1 hP
  obtain⟨hjn,hP⟩:=hP
  refine zB4 ?_
  have e:=cmpL_take m xs ys zo zo hP
  rw[List.drop_of_length_le (show xs.length≤m by omega)] at e
  refine AW.cond Z (fun hc=>?_) (fun hc=>?_)
  ·have hc:m<n:=by simp at hc;omega
   refine zB4 ?_
   refine AW.ret ⟨_,[],⟨_,_,rfl,rfl,rfl⟩,zsb,rfl,?_⟩
   rw[e,List.drop_eq_getElem_cons (show m<ys.length by omega)];rfl
  ·have hc:m=n:=by simp at hc;omega
   refine zB4 ?_
   refine AW.ret ⟨_,[],⟨_,_,rfl,rfl,rfl⟩,zsb,rfl,?_⟩
   rw[e,List.drop_of_length_le (show ys.length≤m by omega)];rfl
structure PrS where
 a:Option Addr
 n:Nat
 c:Nat
 B:List (Nat×Blk)
theorem preL_take{ks:List Tree}{j:Nat}{x:Tree}(h:ks[j]?=some x):preL (ks.take (j+1))=preL (ks.take j)++x.pre:=by
 have:∀(a b:List Tree),preL (a++b)=preL a++preL b:=by
  intro a b
  induction a with
  | nil=>rfl
  | cons y a ih=>simp only[List.cons_append,preL,ih,List.append_assoc]
 rw[List.take_add_one,h,this]
 simp[preL]
theorem pre_spec:∀(N:Nat) (F:Frz) (cs:List Value) (T:Tree),T.pre.length<N→T.pre.length≤1000000→tTree.rel F cs T→
  Abs.Spec CC 13 [.agg ⟨cs⟩] F [] fun F' v o=>o=[]∧∃a n c,v=.slice a n c∧Arr tInt F' a n c T.pre
 | 0,_,_,_,h,_,_=>by omega
 | N+1,F,cs,.mk r t ks,hN,hbig,h=>by
  obtain⟨ka,kn,kc,rfl,hka,hkb⟩:=tTree_cases h
  have hkl:=hka.len
  have hpe:(Tree.mk r t ks).pre=r::preL ks:=rfl
  have hpel:(Tree.mk r t ks).pre.length=(preL ks).length+1:=rfl
  refine Abs.Spec.fn (n:=22) Tryz.func13 rfl rfl fun own=>?_
  refine AW.seq (AW.reg ?_)
  refine WT.boxT Z Z Z Z Z Z (fun i1 hi1=>?_)
  refine zB4 ?_
  refine WT.buildT hT Z Z Z Z Z Z Z Z Z Z Z Z Z Z (fun i8 hi8=>?_)
  refine zB4 ?_
  refine AW.range (S:=PrS) (fun s=>[(3,.slice s.a s.n s.c)]) (fun s=>s.B::[(i1,.cells false [.int .i64 r,.int .i64 t,.slice ka kn kc])]::own)
   (fun j s G=>s.n≤1000000∧Bld tInt G s.a s.n s.c s.B (r::preL (ks.take j))) kn ⟨some ⟨i8,0,none⟩,1,1,[(i8,.cells false [.int .i64 r])]⟩
   Z Z Z Z Z Z Z Z Z zo rfl rfl (fun _=>rfl) (fun _=>rfl) sM oR ⟨by dsimp only;omega,rfl,.inr ⟨i8,_,rfl,rfl,rfl,Cells.single (R:=tInt) (x:=r) rfl,by decide⟩⟩ ?_ ?_
  ·intro j s F1 hF1 hj hP
   obtain⟨hs1,hb⟩:=hP
   have hbl:=hb.len
   have hk1:=hka.mono hF1
   refine zB4 ?_
   refine WT.idxL hT hk1 Z Z Z Z Z Z Z Z Z zo (fun x hx b off ro cs lx hb1 hp1 hrel=>?_)
   have hrelx:=hrel
   have hxm:=gM hx
   obtain⟨xr,xt,xks⟩:=x
   obtain⟨xa,xn,xc,rfl,_⟩:=tTree_cases hrel
   refine zB4 ?_
   refine WT.allocT hT Z Z Z Z Z Z (fun i5 hi5=>?_)
   refine zB4 ?_
   have hxl:=preL_mem hxm
   refine WT.callF0 Tryz.func13 Z Z Z Z Z Z (pre_spec N F1 _ _ zo zo hrelx) (fun F2 v hF2 hv=>?_)
   obtain⟨ya,yn,yc,rfl,hy⟩:=hv
   have hyl:=hy.len
   have hsum:(preL (ks.take (j+1))).length≤(preL ks).length:=by
    have:=congrArg (fun l=>(preL l).length) (List.take_append_drop (j+1) ks)
    have e:∀(a b:List Tree),(preL (a++b)).length=(preL a).length+(preL b).length:=by
     intro a b
     induction a with
     | nil=>simp[preL]
     | cons y a ih=>simp only[List.cons_append,preL,List.length_append,ih];omega
    rw[e] at this
    omega
   have htk:=preL_take hx
   have htl:=congrArg List.length htk
   rw[List.length_append] at htl
   rw[List.length_cons] at hbl
   refine WT.appendA hT 1 (hb.mono hF2) hy Z (fun _=>rfl) Z Z Z Z Z Z Z Z Z Z Z Z Z (by decide) zom (fun a3 c3 B3 hB3=>?_)
   rw[List.cons_append,←htk] at hB3
   refine zB4 ?_
   exact⟨⟨a3,s.n+yn,c3,B3⟩,sM,zow,by dsimp only;omega,hB3⟩
  ·intro s F1 hF1 hP
   obtain⟨hs1,hb⟩:=hP
   rw[List.take_of_length_le zo,←hpe] at hb
   refine AW.freezeAll 0 Z Z (fun F2 hF2 hB2=>?_)
   have hx:=hb.frozen hF2 hB2
   refine zB4 ?_
   exact AW.ret ⟨_,[],⟨_,_,rfl,rfl,rfl⟩,zsb,rfl,_,_,_,rfl,hx⟩
theorem cmpL_lex:∀{l m:List Int},cmpL l m<0→lexLt l m
 | [],[],h=>absurd h (by decide)
 | [],_::_,_=>trivial
 | _::_,[],h=>absurd h (by unfold cmpL;decide)
 | a::l,b::m,h=>by
  unfold cmpL at h
  split at h
  ·rename_i e
   have:a=b:=by unfold cmpInt at e;split at e<;>(try split at e)<;>omega
   exact .inr ⟨this,cmpL_lex h⟩
  ·left
   unfold cmpInt at h
   split at h
   ·assumption
   ·split at h<;>omega
theorem descentFirst_law(F:Frz)(hL:Laid F){a b:Option Addr}{m n c d:Nat}{l w0:List Int}(hl:Arr tInt F a m c l)(hw0:Arr tInt F b n d w0)(hm:n≤9223372036854775807) :
  Abs.Spec CC 3 [.slice a m c,.slice b n d] F [] fun _ v o=>o=[]∧v=.bool true:=by
 refine Abs.Spec.fn (n:=85) Tryz.func3 rfl rfl fun own=>?_
 refine zB4 ?_
 refine WT.callF0 Tryz.func7 Z Z Z Z Z Z (made_spec _ hl hw0 hm 7 (by decide)) (fun F1 v hF1 hv=>?_)
 obtain⟨g,ga,gm,gc,wa,wn,wc,w,rfl,hg,hr,hw,hw1,hw2⟩:=hv
 have hL1:=hL.mono hF1
 have hgv:=hg.valid
 unfold gramCells
 refine zB4 ?_
 refine WT.allocT hT Z Z Z Z Z Z (fun i5 hi5=>?_)
 refine zB4 ?_
 refine WT.callF0 Tryz.func8 Z Z Z Z Z Z (dparse_spec _ hL1 g hgv hr hw zo hw2) (fun F2 v hF2 hv=>?_)
 have hL2:=hL1.mono hF2
 have hr2:=hr.mono hF2
 have hwB:=hw.mono hF2
 rcases hv with rfl | ⟨rfl,hd⟩ | ⟨cs,T,rfl,hrel,hbest,hd,M,E0,Fi,hN⟩
 ·refine zB4 ?_
  refine WT.allocT hT Z Z Z Z Z Z (fun i6 hi6=>?_)
  refine zB4 ?_
  refine WT.callV Tryz.func9 Z Z Z Z Z Z (accepts_spec _ hL2 g hgv hr2 hwB zo hw2) (fun v hv=>?_)
  subst hv
  refine zB4 ?_
  refine WT.callV Tryz.func10 Z Z Z Z Z Z (Abs.Spec.fact Z hL2) (fun v hv=>?_)
  subst hv
  refine zB4 ?_
  refine AW.cond Z (fun _=>?_) (fun h=>(by cases h))
  refine zB4 ?_
  refine WT.callV Tryz.func10 Z Z Z Z Z Z (Abs.Spec.fact Z hL2) (fun v hv=>?_)
  subst hv
  refine zB4 ?_
  exact AW.ret ⟨_,[],⟨_,_,rfl,rfl,rfl⟩,zsb,rfl,rfl⟩
 ·refine zB4 ?_
  refine WT.allocT hT Z Z Z Z Z Z (fun i6 hi6=>?_)
  refine zB4 ?_
  refine WT.callV Tryz.func9 Z Z Z Z Z Z (accepts_spec _ hL2 g hgv hr2 hwB zo hw2) (fun v hv=>?_)
  rw[hd] at hv
  subst hv
  refine zB4 ?_
  refine WT.callV Tryz.func10 Z Z Z Z Z Z (Abs.Spec.fact Z hL2) (fun v hv=>?_)
  subst hv
  refine zB4 ?_
  refine AW.cond Z (fun _=>?_) (fun h=>(by cases h))
  refine zB4 ?_
  refine WT.callV Tryz.func10 Z Z Z Z Z Z (Abs.Spec.fact Z hL2) (fun v hv=>?_)
  subst hv
  refine zB4 ?_
  exact AW.ret ⟨_,[],⟨_,_,rfl,rfl,rfl⟩,zsb,rfl,rfl⟩
 ·have hsize:=size_small hN hg (t:=T) (s:=⟨false,g.start⟩) (j:=w.length) hbest.1 zo
  obtain⟨tr,tt,tks⟩:=T
  obtain⟨ta,tn,tc,rfl,_⟩:=tTree_cases hrel
  refine zB4 ?_
  refine WT.allocT hT Z Z Z Z Z Z (fun i6 hi6=>?_)
  refine zB4 ?_
  refine WT.callV Tryz.func9 Z Z Z Z Z Z (accepts_spec _ hL2 g hgv hr2 hwB zo hw2) (fun v hv=>?_)
  rw[hd] at hv
  subst hv
  refine zB4 ?_
  refine WT.callV Tryz.func10 Z Z Z Z Z Z (Abs.Spec.fact Z hL2) (fun v hv=>?_)
  subst hv
  refine zB4 ?_
  refine AW.cond Z (fun h=>(by cases h)) (fun _=>?_)
  refine zB4 ?_
  refine WT.callN Tryz.func11 Z Z Z Z Z Z (mtrees_spec _ hL2 g hgv hr2 hwB zo hw2 (most:=100) zo) (fun F3 v B3 hF3 hv3=>?_)
  obtain⟨K,xa,xn,xc,xe,rfl,harr,hK⟩:∃(K:List Tree) (xa:Option Addr) (xn xc:Nat) (xe:Int),v=.tuple ⟨[.slice xa xn xc,.int .i64 xe]⟩∧(∀G:Frz,(∀i b,(i,b)∈B3→G i=some b)→Arr tTree G xa xn xc K)∧(∀t∈K,TreeOf g w ⟨false,g.start⟩ t 0 w.length∧t.pre.length≤5000)∧K.length≤100:=by
   obtain⟨L,c3,hW,hres⟩:=hv3
   rcases hres with ⟨_,a1,n1,d1,B1,css1,bs1,rfl,rfl,hB1,hT1⟩ | ⟨_,rfl⟩
   ·exact⟨L,_,_,_,_,rfl,fun G hG=>hT1.frozen hB1 (fun i b hm=>hG i b (List.mem_append_left _ hm)) (fun i b hm=>hG i b (List.mem_append_right _ hm)),fun t ht=>⟨hW.valid t ht,hW.small t ht⟩,hW.len⟩
   ·exact⟨[],none,0,0,2,rfl,fun G _=>Arr.nil_ _ _,fun t ht=>(by cases ht),by simp⟩
  obtain⟨hK,hKl⟩:=hK
  refine WT.freezeAll 0 Z Z (fun F4 hF4 hB4=>?_)
  have hA:=harr F4 hB4
  have hal:=hA.len
  have hF34:=hF3.trans hF4
  have hrel4:=tTree.mono _ _ _ _ hF34 hrel
  have hr4:=hr2.mono hF34
  have hw4:=hwB.mono hF34
  refine zB4 ?_
  refine AW.range (S:=Unit) (fun _=>[]) (fun _=>[(i6,.cells false [.int .i64 tr,.int .i64 tt,.slice ta tn tc])]::[(i5,.cells false [.int .i64 g.terms,.int .i64 g.nons,.int .i64 g.start,.slice ga gm gc])]::own) (fun j _ G=>True) xn () Z Z Z Z Z Z Z Z Z zo Z Z (fun _=>rfl) (fun _=>rfl) sM (OwnLe.skip _ oR) trivial ?_ ?_
  ·intro j _ F5 hF5 hj _
   have hA5:=hA.mono hF5
   have hrel5:=tTree.mono _ _ _ _ hF5 hrel4
   refine zB4 ?_
   refine WT.idxL hT hA5 Z Z Z Z Z Z Z Z Z zo (fun x hxj b1 off ro cs lx hb hp1 hrelx0=>?_)
   have hrelx:=hrelx0
   obtain⟨hval,hsm⟩:=hK x (gM hxj)
   obtain⟨xr,xt,xks⟩:=x
   obtain⟨ya,yn,yc,rfl,_⟩:=tTree_cases hrelx0
   refine zB4 ?_
   refine WT.allocT hT Z Z Z Z Z Z (fun i13 hi13=>?_)
   refine zB4 ?_
   refine AW.draw (ps:=[(2,1)]) Z Z ?_
   refine zB4 ?_
   refine WT.callF0 Tryz.func13 Z Z Z Z Z Z (pre_spec _ _ _ _ (Nat.lt_succ_self _) zo hrelx) (fun F6 v hF6 hv=>?_)
   obtain⟨pa,pn,pc,rfl,hp⟩:=hv
   refine zB4 ?_
   refine WT.callF0 Tryz.func13 Z Z Z Z Z Z (pre_spec _ _ _ _ (Nat.lt_succ_self _) hsize (tTree.mono _ _ _ _ hF6 hrel5)) (fun F7 v hF7 hv=>?_)
   obtain⟨qa,qn,qc,rfl,hq⟩:=hv
   have hp7:=hp.mono hF7
   have hpl:=hp7.len
   have hql:=hq.len
   skip
   refine WT.callV Tryz.func12 Z Z Z Z Z Z (intCompare_spec _ hp7 hq zo zo) (fun v hv=>?_)
   subst hv
   refine zB4 ?_
   refine⟨zrC,?_⟩
   skip
   refine AW.cond Z (fun h=>?_) (fun h=>?_)
   ·have h:=cmpL_lex (of_decide_eq_true h)
    exact(hbest.2 _ hval h).elim
   ·refine zB4 ?_
    exact⟨(),sM,zow,trivial⟩
  ·intro _ F5 hF5 _
   have hrel5:=tTree.mono _ _ _ _ hF5 hrel4
   refine zB4 ?_
   have hwt:Arr tNat F5 wa wn wc (w.take w.length):=by rw[List.take_length];exact hw4.mono hF5
   refine WT.callV Tryz.func14 Z Z Z Z Z Z (isTree_spec g hgv _ (hr4.mono hF5) w zo hrel5 hbest.1 hwt) (fun v hv=>?_)
   subst hv
   refine zB4 ?_
   exact AW.ret ⟨_,[],⟨_,_,rfl,rfl,rfl⟩,zsb,rfl,rfl⟩
end Go.Proofs.D