/-
  The abstract machine is sound, third part: append, copy, the operations one by one.
-/
import Derived.Test.YtmbdmfjijofmmaaGreatDoorPAbs2
/-
 Soundness,twelfth part: append whole,copy,clear.
-/
namespace Go.Abs
open Go
section
variable {C:Ctx}{P:Program}
structure Ob(P:Program)(σ:aY)(w:World)(n:Nat)(new:List Value)(zeros:Bool)(appended:Sem (Array Value))(new':List Value):Prop where
 rel:aJ σ new new'
 run:∀w1:World,w1.heap=w.heap->appended.run P w1=.ok ⟨new'⟩ w1
theorem LF(ok:C.Ok P){σ:aY}{g:Nat->Option aE}{w:World}(s:cU σ g w){h:aq}{t e:TypeId}{ts:List TypeId}{ty:TypeId}{sz by_ n:Nat}{base:Option Addr}{sLen sCap:Nat}{x x':Value}
  {new:List Value} (hu:C.gZ t=some (.slice e)) (hs:C.size e=some sz) (hb:C.bytes e=some by_) (hx:aL σ x x') (hg:∀a n c,x=.slice (some a) n c->g a.block=h.get a.block)
  (en:kl C h e sz ts.head? x=some (n,new)) (hroom:n*by_<=140737488355328) :
  ∃zeros appended new',Ob P σ w n new zeros appended new'/\
   Ar C P w e sz n appended base sLen sCap ((Builtin.append_ ⟨t::ts⟩ ty ⟨[.slice base sLen sCap,x']⟩).run P w):=by
 have pl:eT h sz x=some (n,new)->(∀xt,ts.head?=some xt->∃d,C.gZ xt=some d/\JR d=false)->
   ∃zeros appended new',Ob P σ w n new zeros appended new'/\
   Ar C P w e sz n appended base sLen sCap ((Builtin.append_ ⟨t::ts⟩ ty ⟨[.slice base sLen sCap,x']⟩).run P w):=by
  intro hp hd;unfold eT at hp;cases hl:jA x with
  | none=>simp[hl] at hp
  | some m=>
   simp only[hl] at hp;cases hf:iE h sz m x with
   | none=>simp[hf] at hp
   | some l=>
    simp[hf] at hp;obtain⟨rfl,rfl⟩:=hp;obtain⟨new',q1,q2⟩:=xl (P:=P) s hx hg hl (AS _) hf;exact⟨false,_,new',⟨q1,q2⟩,BP ok w hu hs hd (Cc w hx hl)⟩
 unfold kl at en;split at en
 ·rename_i ht;exact pl en (λxt hxt=>by rw[ht] at hxt;cases hxt)
 ·rename_i xt ht;split at en
  ·cases en
  ·rename_i ki hxt;split at en
   ·rename_i k m z hz;split at en
    ·rename_i hm;cases en;obtain rfl:=(show x'=_ from hx);cases ts with
     | nil=>cases ht
     | cons xt2 ts=>
      simp only[List.head?_cons,IT] at ht;subst ht;obtain⟨i,hi,hiz,hzp,hzs⟩:=oT ok hz;obtain⟨i2,hi2,hin⟩:=o9 ok hs;rw[hi] at hi2;cases hi2;refine⟨true,_,c7 z.cells.toList m.toNat,⟨cX σ _ (jr (fM hzp) _),λw1 _=>?_⟩,Bb ok w hu hs hxt hb hm.1 hm.2 hroom⟩;by_cases h0:m.toNat*sz=0
      ·have:c7 z.cells.toList m.toNat=[]:=by
        have:=mC z.cells.toList m.toNat;rw[show z.cells.toList.length=sz from by simp;omega,h0] at this;exact SE this
       rw[By h0,this];rfl
      ·rw[AT h0];simp only[Sem.run_bind,eg ok hz,Result.andThen_ok,Sem.run_pure];congr 1;apply TT;exact vq z.cells m.toNat
    ·cases en
   ·cases en
  ·rename_i d hd hxt;refine pl en (λxt2 h2=>?_);rw[ht] at h2;cases h2;exact⟨d,hxt,by cases d<;>first | rfl | exact absurd rfl (hd _)⟩
theorem Hv(ok:C.Ok P){σ:aY}{h h':aq}{w:World}(s:cU σ h.get w)(hw:∀i b,h.get i=some b->i<h.next){t:TypeId}{ts:List TypeId}(ty:TypeId){x x' y y' v:Value}(hx:aL σ x x')(hy:aL σ y y')
  (e:gp C h t ts.head? x y=some (v,h')) (hf:∀i,h.next<=i->i<h'.next->σ i=none) :
  ∃σ' v' w',(Builtin.append_ ⟨t::ts⟩ ty ⟨[x',y']⟩).run P w=.ok v' w'/\aL σ' v v'/\cU σ' h'.get w'/\Ev σ h.get h.next w σ' h'.get h'.next w':=by
 unfold gp at e;split at e
 ·rename_i el base len c hu;split at e
  ·rename_i sz z by_ hs hz hb;split at e
   ·rename_i n new hnw;cases hc:(new.length==n*sz&&new.all one&&Nat.blt 0 sz&&Nat.blt 0 by_&&Nat.ble ((len+n)*by_) 140737488355328) with
    | false=>simp only[hc,TN,RH] at e;cases e
    | true=>
     simp only[hc,Tp,RO] at e;simp only[IN,SK,Th,Nat.blt_eq] at hc;obtain⟨⟨⟨⟨hc1,hc2⟩,hc3⟩,hc4⟩,hc5⟩:=hc;have hroomn:n*by_<=140737488355328:=AI (OF _ (Nat.le_add_left n len)) hc5;obtain⟨base',cap,rfl,hle,hrel⟩:∃base' cap,x'=.slice base' len cap/\len<=cap/\
       (base=none->base'=none/\len=0/\cap=0):=by
      cases base with
      | none=>obtain⟨rfl,rfl,rfl⟩:=hx;exact⟨none,0,rfl,AS _,λ_=>⟨rfl,rfl,rfl⟩⟩
      | some a=>obtain⟨l,a',cap,_,_,rfl,hle,_⟩:=hx;exact⟨some a',cap,rfl,hle,λh=>by cases h⟩
     obtain⟨zeros,appended,new',⟨hnr,hnrun⟩,hrun⟩:=LF (ty:=ty) (base:=base') (sLen:=len) (sCap:=cap) ok s hu hs hb hy (λ_ _ _ _=>rfl) hnw hroomn;obtain⟨i,hi,hiz,hzp,hzs⟩:=oT ok hz;obtain⟨i2,hi2,hin⟩:=o9 ok hs;rw[hi] at hi2;cases hi2;have hzn:z.cells.size=sz:=by omega
     have hnl:=hnr.length;cases hn0:(n==0) with
     | true=>
      have hn0':n=0:=by simpa using hn0
      subst hn0';simp only[hn0,RH,IT,Sb] at e;obtain⟨rfl,rfl⟩:=e;have hnew:new'=[]:=SE (by omega);subst hnew;refine⟨σ,.slice base' len cap,w,?_,hx,s,Ev.refl _ _ _ _⟩;exact hrun.room w [] hle (hnrun w rfl) (by cases base'<;>simp[storeCells])
     | false=>
      have hnpos : 0 < n := by
       have : n ≠ 0 := by simpa using hn0
       omega
      simp only[hn0,RO] at e;have fresh:∀(g:Nat->Option aE) (c6 old':List Value),cU σ g w->aJ σ c6 old'->c6.length=len*sz->cap<len+n->σ h.next=none->
        (∀w1:World,w1.heap=w.heap->(Builtin.firstCells sz len (.slice base' len cap)).run P w1=.ok ⟨old'⟩ w1)->
        ∃l v' w',(Builtin.append_ ⟨t::ts⟩ ty ⟨[.slice base' len cap,y']⟩).run P w=.ok v' w'/\aL (dg σ h.next (some l)) (.slice (some ⟨h.next,0,none⟩) (len+n) sz) v'/\
         cU (dg σ h.next (some l)) (dg g h.next (some (.cells false (c6++new)))) w'/\Ev σ g h.next w (dg σ h.next (some l)) (dg g h.next (some (.cells false (c6++new)))) (h.next+1) w':=by
       intro g c6 old' sg hor hol hgt hsn hold;obtain⟨cp,hcp,hr⟩:=hrun.grow _ _ old' new' hz hb hgt hc4 hc5 hnrun hold;have hzc:(Builtin.zeroCells z.cells (cp-(len+n))).toList.length=(cp-(len+n))*sz:=by simp[Builtin.zeroCells,hzn]
       have hlo:old'.length=len*sz:=by rw[hor.length,hol]
       have hln:new'.length=n*sz:=by omega
       have hsz:(old'++new'++(Builtin.zeroCells z.cells (cp-(len+n))).toList).length=cp*sz:=by
        simp only[RP,hzc,hlo,hln];rw[<-Ss,<-Ss];congr 1;omega
       have hw2:∀b,b<w.heap.size->(w.drew.alloc (.cells ⟨old'++new'++(Builtin.zeroCells z.cells (cp-(len+n))).toList⟩ el)).heap[b]?=w.heap[b]?:=
        λb hb=>heap_alloc_old w.drew _ b hb
       refine⟨⟨w.heap.size,0,cp*sz⟩,_,_,hr,lg σ h.next w.heap.size (len+n) cp sz (cp*sz) hcp (by omega) (AS _),?_,?_⟩
       ·refine sg.alloc hsn rfl hw2 ⟨_,el,(0,0),heap_alloc_new w.drew _,hsz,λ_=>rfl,?_,?_⟩
        ·show 0+(c6++new).length<=(old'++new'++(Builtin.zeroCells z.cells (cp-(len+n))).toList).length;rw[hsz];simp only[RP,hol,hc1];have:len*sz+n*sz=(len+n)*sz:=by rw[Ss]
         have:=OF sz hcp;omega
        ·have h3:=(hor.app hnr).mono (aY.lW (l:=some ⟨w.heap.size,0,cp*sz⟩) hsn);simp only[Ux];have h4:(c6++new).length=(old'++new').length:=by rw[<-(hor.app hnr).length]
         rw[h4,List.take_left];exact h3
       ·exact Ev.alloc rfl (by simp) hw2 rfl rfl rfl _
      cases base with
      | none=>
       obtain⟨rfl,rfl,rfl⟩:=hrel rfl;simp only[IT,Sb] at e;obtain⟨rfl,rfl⟩:=e;have hsn:=hf h.next (AS _) (by simp)
       obtain⟨l,v',w',q1,q2,q3,q4⟩:=fresh h.get [] [] s rfl (by simp) (by omega) hsn (λw1 _=>by simp[Builtin.firstCells]);refine⟨_,v',w',q1,by simpa using q2,?_,?_⟩
       ·rw[aq.gL];exact q3
       ·rw[aq.gL];exact q4
      | some a=>
       obtain⟨b,off,sp⟩:=a;cases sp with
       | some sp=>simp at e
       | none=>
        obtain⟨l,a',cap2,hl,_,hq,hle2,h0,hne⟩:=hx;cases hq;simp only at e;cases hc0:(c==0) with
        | true=>
         simp only[hc0,RH] at e;cases hl0:(len==0) with
         | false=>simp[hl0] at e
         | true=>
          simp only[hl0,RH,IT,Sb] at e;obtain⟨rfl,rfl⟩:=e;have hcz:cap=0:=h0 (by simpa using hc0);have hlz:len=0:=by simpa using hl0
          subst hlz;have hsn:=hf h.next (AS _) (by simp)
          obtain⟨l2,v',w',q1,q2,q3,q4⟩:=fresh h.get [] [] s rfl (by simp) (by omega) hsn (λw1 _=>by simp[Builtin.firstCells,loadCells,loadCellsFrom]);refine⟨_,v',w',q1,by simpa using q2,?_,?_⟩
          ·rw[aq.gL];exact q3
          ·rw[aq.gL];exact q4
        | false=>
         simp only[hc0,RO] at e;cases hcs:(c==sz) with
         | false=>simp[hcs] at e
         | true=>
          simp only[hcs,Tp,RO] at e;have hcs':c=sz:=by simpa using hcs
          subst hcs';split at e
          ·rename_i cs hblk;split at e
           ·rename_i c6 hold;simp only[IT,Sb] at e;obtain⟨rfl,rfl⟩:=e;have hsn:=hf h.next (AS _) (by simp)
            have hl':σ b=some l:=hl;have hbn:b<h.next:=hw b _ hblk
            obtain⟨ho1,ho2⟩:=eV hold;have hget:((h.put b none).alloc (.cells false (c6++new))).get=dg (dg h.get b none) h.next (some (.cells false (c6++new))):=by
             rw[aq.gL,aq.dQ];rfl
            have hsub:cU σ (dg h.get b none) w:=s.sub λi B hi=>by
             by_cases hib:i=b
             ·subst hib;rw[bL] at hi;cases hi
             ·rw[cl _ _ hib] at hi;exact hi
            obtain⟨arr,ty0,fr,g1,g2,g3,g4,g5⟩:=s.cells hblk hl';obtain rfl:=g3 rfl;obtain⟨old',hor,hoe,horun⟩:∃old',aJ σ c6 old'/\(cap≠0->old'=((arr.toList.drop (l.off+off)).take (len*c)))/\
              (∀w1:World,w1.heap=w.heap->(Builtin.firstCells c len (.slice (some a') len cap)).run P w1=.ok ⟨old'⟩ w1):=by
             have hfirst:iE h c len (.slice (some ⟨b,off,none⟩) len c)=some c6:=by
              by_cases hz:len=0
              ·subst hz;simp[iE,ho1]
              ·have hz':(len==0)=false:=by simpa using hz
               simp only[iE,hz',RO,jS,hblk];exact hold
             obtain⟨o',p1,p2⟩:=xl (P:=P) s (x:=.slice (some ⟨b,off,none⟩) len c) (x':=.slice (some a') len cap) ⟨l,a',cap,hl,rfl,rfl,hle,h0,hne⟩ (λ_ _ _ _=>rfl) (m:=len) rfl (AS _) hfirst;refine⟨o',p1,λhcap=>?_,p2⟩;obtain⟨rfl,hroom⟩:=hne hcap;have hlen2:o'.length=len*c:=by rw[p1.length,ho2]
             have hld:=run_loadCells_list (P:=P) w ⟨l.bu,l.off+off,none⟩ ((arr.toList.drop (l.off+off)).take (len*c)) (λj v hj=>by
              have hjn:j<len*c:=by
               have:=(R9.1 hj).1;simp only[Sm] at this;omega
              rw[ik,cell_of_row w l.bu _ arr ty0 (0,0) g1];rw[Sg,By hjn,Se] at hj;rw[<-R7];exact hj)
             have hl3:((arr.toList.drop (l.off+off)).take (len*c)).length=len*c:=by
              simp only[Sm,List.length_drop,T2];have hm:=OF c hle;dsimp only at hroom;omega
             rw[hl3] at hld;have:=p2 w rfl;simp only[Builtin.firstCells] at this;rw[hld] at this;cases this;rfl
            by_cases hroom:len+n<=cap
            ·
             have hcap:cap≠0:=by omega
             obtain⟨rfl,hrm⟩:=hne hcap;dsimp only at hrm;obtain rfl:=hoe hcap;have hmul:(len+n)*c<=cap*c:=OF c hroom;have hadd:(len+n)*c=len*c+n*c:=Ss _ _ _;have hst:=run_storeCells_at P l.bu (l.off+off+len*c) ty0 new' 0 arr w g1 (by omega) (sG hnr hc2);have hrun2:=hrun.room _ new' hroom (hnrun w rfl)
              (by simp only[ik];exact hst)
             have harr:∀k,k≠l.bu->(w.setRow l.bu (arr.toList.take (l.off+off+len*c+0)++new'++arr.toList.drop (l.off+off+len*c+0+new'.length)).toArray).heap[k]?=w.heap[k]?:=
              λk hk=>setRow_other w l.bu k _ hk
             have hnew:=setRow_heap w l.bu arr (arr.toList.take (l.off+off+len*c+0)++new'++arr.toList.drop (l.off+off+len*c+0+new'.length)).toArray ty0 (0,0) g1;have hasz:(arr.toList.take (l.off+off+len*c+0)++new'++arr.toList.drop (l.off+off+len*c+0+new'.length)).length=arr.size:=by
              simp;omega
             refine⟨dg σ h.next (some ⟨l.bu,l.off+off,l.size⟩),_,_,hrun2,?_,?_,?_⟩
             ·refine⟨_,_,cap,bL _ _ _,rfl,rfl,hroom,h0,λ_=>⟨by simp,?_⟩⟩;dsimp only;omega
             ·rw[hget];constructor
              ·intro j B hB;by_cases hj:j=h.next
               ·subst hj;rw[bL] at hB;cases hB;refine⟨_,bL _ _ _,_,ty0,(0,0),hnew,by simpa [g2] using hasz,λ_=>rfl,?_,?_⟩
                ·simp only[RP,ho2,hc1];show l.off+off+(len*c+n*c)<=(arr.toList.take (l.off+off+len*c+0)++new'++arr.toList.drop (l.off+off+len*c+0+new'.length)).length;rw[hasz];omega
                ·have h3:=(hor.app hnr).mono (aY.lW (l:=some ⟨l.bu,l.off+off,l.size⟩) hsn);have hcut:((arr.toList.take (l.off+off+len*c+0)++new'++arr.toList.drop (l.off+off+len*c+0+new'.length)).drop (l.off+off)).take (c6++new).length =
                   (arr.toList.drop (l.off+off)).take (len*c)++new':=by
                  apply SA;intro q;have t1:(arr.toList.take (l.off+off+len*c+0)).length=l.off+off+len*c:=by simp;omega
                  have t2:((arr.toList.drop (l.off+off)).take (len*c)).length=len*c:=by simp;omega
                  have t3:(c6++new).length=len*c+n*c:=by simp[ho2,hc1]
                  have t4:new'.length=n*c:=by omega
                  by_cases hq:q<len*c+n*c
                  ·rw[Sg,t3,By hq,Se,SL];by_cases hq2:q<len*c
                   ·rw[RW (l₁:=arr.toList.take _) (by omega),RW (l₁:=(arr.toList.drop _).take _) (by omega)];simp only[Sg,Se];rw[By (by omega),By hq2]
                   ·rw[Sj (l₁:=arr.toList.take _) (by omega),Sj (l₁:=(arr.toList.drop _).take _) (by omega),t1,t2,
                     RW (by omega)]
                    congr 1;omega
                  ·rw[R3 (by rw[Sm,t3];omega),R3 (by rw[RP,t2,t4];omega)]
                 simp only[hcut];exact h3
               ·rw[cl _ _ hj] at hB;by_cases hjb:j=b
                ·subst hjb;rw[bL] at hB;cases hB
                ·rw[cl _ _ hjb] at hB;obtain⟨m,hm,r⟩:=s.bu j B hB;exact⟨m,by rw[cl _ _ hj];exact hm,(r.mono (aY.lW hsn)).world (harr _ (s.inj j b B _ m l hB hblk hjb (.inr rfl) hm hl'))⟩
              ·intro j k B D lj lk hB hD hjk hro hlj hlk;have key:∀j B lj,dg (dg h.get b none) h.next (some (.cells false (c6++new))) j=some B->dg σ h.next (some ⟨l.bu,l.off+off,l.size⟩) j=some lj->j≠h.next->
                 h.get j=some B/\σ j=some lj/\j≠b:=by
                intro j B lj h1 h2 hj;rw[cl _ _ hj] at h1 h2;by_cases hjb:j=b
                ·subst hjb;rw[bL] at h1;cases h1
                ·rw[cl _ _ hjb] at h1;exact⟨h1,h2,hjb⟩
               by_cases hj:j=h.next
               ·obtain⟨p1,p2,p3⟩:=key k D lk hD hlk (by omega);subst hj;rw[bL] at hlj;cases hlj;exact(s.inj k b D _ lk l p1 hblk p3 (.inr rfl) p2 hl').symm
               ·obtain⟨p1,p2,p3⟩:=key j B lj hB hlj hj;by_cases hk:k=h.next
                ·subst hk;rw[bL] at hlk;cases hlk;exact s.inj j b B _ lj l p1 hblk p3 (.inr rfl) p2 hl'
                ·obtain⟨p4,p5,p6⟩:=key k D lk hD hlk hk;exact s.inj j k B D lj lk p1 p4 hjk hro p2 p5
             ·rw[hget];refine⟨by simp,rfl,rfl,rfl,λk _ hk=>harr k (Ne.symm (hk b _ l hblk rfl hl')),?_,λi hi=>cl _ _ (by simp at hi;omega)⟩;intro j B m hB hro hm;by_cases hj:j=h.next
              ·subst hj;rw[bL] at hm;cases hm;exact .inr ⟨b,_,l,hblk,rfl,hl',rfl⟩
              ·rw[cl _ _ hj] at hB hm;by_cases hjb:j=b
               ·subst hjb;rw[bL] at hB;cases hB
               ·rw[cl _ _ hjb] at hB;exact .inr ⟨j,B,m,hB,hro,hm,rfl⟩
            ·obtain⟨l2,v',w',q1,q2,q3,q4⟩:=fresh (dg h.get b none) c6 old' hsub hor ho2 (by omega) hsn horun;refine⟨_,v',w',q1,q2,?_,?_⟩
             ·rw[hget];exact q3
             ·rw[hget];refine⟨q4.size,q4.os,q4.out,q4.tape,λk hk hn=>q4.mg k hk λi B li hi hr hs=>?_,λi B li hi hr hs=>?_,q4.sig⟩
              ·by_cases hib:i=b
               ·subst hib;rw[bL] at hi;cases hi
               ·rw[cl _ _ hib] at hi;exact hn i B li hi hr hs
              ·rcases q4.own i B li hi hr hs with h1 | ⟨j,D,m,h1,h2,h3,h4⟩
               ·exact .inl h1
               ·by_cases hjb:j=b
                ·subst hjb;rw[bL] at h1;cases h1
                ·rw[cl _ _ hjb] at h1;exact .inr ⟨j,D,m,h1,h2,h3,h4⟩
           ·cases e
          ·cases e
   ·cases e
  ·cases e
 ·cases e
end
end Go.Abs
/-
 Soundness,thirteenth part: copy,clear;operations as a whole.
-/
namespace Go.Abs
open Go
section
variable {C:Ctx}{P:Program}
theorem Lv(ok:C.Ok P){σ:aY}{h h':aq}{w:World}(s:cU σ h.get w){t:TypeId}{ts:List TypeId}(ty:TypeId){x x' y y' v:Value}(hx:aL σ x x')(hy:aL σ y y')
  (e:B0 C h t x y=some (v,h')) :
  ∃v' w',(Builtin.copy_ ⟨t::ts⟩ ty ⟨[x',y']⟩).run P w=.ok v' w'/\h'.next=h.next/\aL σ v v'/\cU σ h'.get w'/\Ev σ h.get h.next w σ h'.get h'.next w':=by
 have a0:(⟨t::ts⟩:Array TypeId)[0]?=some t:=rfl;unfold B0 at e;split at e
 ·rename_i el base dl c n hu hln;split at e
  ·rename_i sz hs;split at e
   ·rename_i new hfi;cases hone:new.all one with
    | false=>simp only[hone,TN,RH] at e;cases e
    | true=>
     simp only[hone,Tp,RO] at e;have hlr:=Cc (P:=P) w hy hln;obtain⟨new',q1,q2⟩:=xl (P:=P) s hy (λ_ _ _ _=>rfl) hln (Uj n dl) hfi;cases base with
     | none=>
      obtain⟨rfl,rfl,rfl⟩:=hx;simp only[IT,Sb] at e;obtain⟨rfl,rfl⟩:=e;refine⟨_,w,?_,rfl,rfl,s,Ev.refl _ _ _ _⟩;have b0:(⟨[.slice none 0 0,y']⟩:Array Value)[0]?=some (.slice none 0 0):=rfl;have b1:(⟨[.slice none 0 0,y']⟩:Array Value)[1]?=some y':=rfl;simp only[Builtin.copy_,a0,b0,b1,Sem.run_bind,run_underlying (aD ok hu),Result.andThen_ok,hlr,bF ok hs,q2 w rfl,Sem.run_pure];rfl
     | some a=>
      obtain⟨b,off,sp⟩:=a;cases sp with
      | some sp=>simp at e
      | none=>
       obtain⟨l,a',cap,hl,_,rfl,hle,h0,hne⟩:=hx;have b0:(⟨[.slice (some a') dl cap,y']⟩:Array Value)[0]?=some (.slice (some a') dl cap):=rfl;have b1:(⟨[.slice (some a') dl cap,y']⟩:Array Value)[1]?=some y':=rfl;simp only at e;cases hemp:new.isEmpty with
       | true=>
        simp only[hemp,RH,IT,Sb] at e;obtain⟨rfl,rfl⟩:=e;have hn:new=[]:=by simpa using hemp
        subst hn;have hn':new'=[]:=q1;subst hn';refine⟨_,w,?_,rfl,rfl,s,Ev.refl _ _ _ _⟩;simp only[Builtin.copy_,a0,b0,b1,Sem.run_bind,run_underlying (aD ok hu),Result.andThen_ok,hlr,bF ok hs,q2 w rfl,Sem.run_pure,storeCells];rfl
       | false=>
        simp only[hemp,RO] at e;split at e
        ·rename_i cs hblk;cases hc:Nat.ble (off+new.length) cs.length with
         | false=>simp only[hc,RO] at e;cases e
         | true=>
          simp only[hc,RH,IT,Sb] at e;obtain⟨rfl,rfl⟩:=e;have hdl:dl≠0:=by
           intro hd;subst hd;have:Nat.min n 0=0:=Nat.min_zero n;rw[this] at hfi;unfold iE at hfi;split at hfi
           ·cases hfi;cases hemp
           ·simp only[beq_self_eq_true,RH,IT] at hfi;subst hfi;cases hemp
           ·cases hfi;simp at hemp
           ·cases hfi
          obtain⟨rfl,_⟩:=hne (by omega);have hl':σ b=some l:=hl;obtain⟨w',p1,p2,p3⟩:=tY (P:=P) (off:=off) s hblk hl' q1 hone (S1 hc) h.next
          refine⟨_,w',?_,rfl,rfl,by rw[aq.dQ];exact p2,by rw[aq.dQ];exact p3⟩;simp only[Builtin.copy_,a0,b0,b1,Sem.run_bind,run_underlying (aD ok hu),Result.andThen_ok,hlr,bF ok hs,q2 w rfl,p1,Sem.run_pure];rfl
        ·cases e
   ·cases e
  ·cases e
 ·cases e
theorem I7(ok:C.Ok P){σ:aY}{h h':aq}{w:World}(s:cU σ h.get w){t:TypeId}{ts:List TypeId}(ty:TypeId){x x':Value}(hx:aL σ x x')(e:nW C h t x=some h') :
  ∃w',(Builtin.clear_ ⟨t::ts⟩ ty ⟨[x']⟩).run P w=.ok dv w'/\h'.next=h.next/\cU σ h'.get w'/\Ev σ h.get h.next w σ h'.get h'.next w':=by
 have a0:(⟨t::ts⟩:Array TypeId)[0]?=some t:=rfl;have b0:(⟨[x']⟩:Array Value)[0]?=some x':=rfl;unfold nW at e;split at e
 ·rename_i el n c hu;cases e;obtain⟨rfl,rfl,rfl⟩:=hx;refine⟨w,?_,rfl,s,Ev.refl _ _ _ _⟩;simp only[Builtin.clear_,a0,b0,Sem.run_bind,run_underlying (aD ok hu),Result.andThen_ok,Sem.run_pure];rfl
 ·rename_i a c _ _;have hu:=‹C.gZ t=some (TypeDesc.slice _)›;cases e;refine⟨w,?_,rfl,s,Ev.refl _ _ _ _⟩;cases a with
  | none=>
   obtain⟨_,rfl,rfl⟩:=hx;simp only[Builtin.clear_,a0,b0,Sem.run_bind,run_underlying (aD ok hu),Result.andThen_ok,Sem.run_pure];rfl
  | some a=>
   obtain⟨l,a',cap,_,_,rfl,_⟩:=hx;simp only[Builtin.clear_,a0,b0,Sem.run_bind,run_underlying (aD ok hu),Result.andThen_ok,Sem.run_pure];rfl
 ·rename_i el b off n c hn hu;split at e
  ·rename_i z cs hz hblk;cases hc:((c7 z.cells.toList n).all one&&Nat.ble (off+(c7 z.cells.toList n).length) cs.length) with
   | false=>simp only[hc,RO] at e;cases e
   | true=>
    simp only[hc,RH,IT] at e;subst e;simp only[IN,Th] at hc;obtain⟨l,a',cap,hl,_,rfl,hle,h0,hne⟩:=hx;have hn0:n≠0:=λh=>hn h;obtain⟨rfl,_⟩:=hne (by omega);have hl':σ b=some l:=hl;have hzp:=gK ok hz;obtain⟨w',p1,p2,p3⟩:=tY (P:=P) (off:=off) s hblk hl' (cX σ _ (jr (fM hzp) n)) hc.1 hc.2 h.next
    refine⟨w',?_,rfl,by rw[aq.dQ];exact p2,by rw[aq.dQ];exact p3⟩;have hzc:(Builtin.zeroCells z.cells n).toList=c7 z.cells.toList n:=vq z.cells n;obtain⟨m,rfl⟩:∃m,n=m+1:=⟨n-1,by omega⟩;simp only[Builtin.clear_,a0,b0,Sem.run_bind,run_underlying (aD ok hu),Result.andThen_ok,Sem.run_pure,eg ok hz,hzc,p1];rfl
  ·cases e
 ·cases e
end
end Go.Abs
/-
 Soundness,fourteenth part: one operation.
-/
namespace Go.Abs
open Go
section
variable {C:Ctx}{P:Program}
def O7(r:Result Next)(v':Value)(w':World):Prop:=r=.ok (.value v') w'\/(r=.ok .skip w'/\v'=undef)
abbrev vz(σ:aY)(ρ:Operand->Option Value)(ρ':Operand->Value):Prop:=∀x v,ρ x=some v->aL σ v (ρ' x)
theorem mE{σ:aY}{ρ:Operand->Option Value}{ρ':Operand->Value}(hρ:vz σ ρ ρ'):∀(xs:List Operand) (vs:List Value),dI ρ xs=some vs->aJ σ vs (xs.map ρ')
 | [],vs,e=>by cases e;rfl
 | x::xs,vs,e=>by
  unfold dI at e;split at e
  ·rename_i v vs' h1 h2;cases e;exact⟨_,_,rfl,hρ x v h1,mE hρ xs vs' h2⟩
  ·cases e
theorem xB{σ:aY}{ρ:Operand->Option Value}{ρ':Operand->Value}(hρ:vz σ ρ ρ'):∀(xs:List (Nat×Operand)) (vs:List (Nat×Value)),eN ρ xs=some vs->
  (xs.map (λ(i,x)=>(i,ρ' x))).map (·.1)=vs.map (·.1)/\aJ σ (vs.map (·.2)) ((xs.map (λ(i,x)=>(i,ρ' x))).map (·.2))
 | [],vs,e=>by cases e;exact⟨rfl,rfl⟩
 | (i,x)::xs,vs,e=>by
  unfold eN at e;split at e
  ·rename_i v vs' h1 h2;cases e;obtain⟨a,b⟩:=xB hρ xs vs' h2;exact⟨by simp only[JN,a],⟨_,_,rfl,hρ x v h1,b⟩⟩
  ·cases e
theorem DJ{σ:aY}{ρ:Operand->Option Value}{ρ':Operand->Value}(hρ:vz σ ρ ρ'){x:Option Operand}{v:Option Value}(e:lH ρ x=some v):Am σ v (x.map ρ'):=by
 cases x with
 | none=>cases e;trivial
 | some x=>
  simp only[lH] at e;cases h:ρ x with
  | none=>simp[h] at e
  | some y=>simp[h] at e;subst e;exact hρ x y h
theorem xJ(ok:C.Ok P){σ:aY}(w:World){x x' v:Value}{t:TypeId}{b:Bool}(hx:aL σ x x')(xt:TypeId)(e:oA C x t b=some v) :
  ∃v',(Instr.typeAssert x' xt t b).run P w=.ok v' w/\aL σ v v':=by
 unfold oA at e;split at e
 ·cases e
 ·rename_i d hd;have hu:=aD ok hd;cases hi:Cq d with
  | true=>simp[hi] at e
  | false=>
   simp only[hi,RO] at e;have zero:∀{y:Value},(C.zero t).map (λz=>Value.tuple ⟨[z,.bool false]⟩)=some y->∃z,C.zero t=some z/\y=.tuple ⟨[z,.bool false]⟩/\aL σ y (.tuple #[z,.bool false]):=by
    intro y h;cases hz:C.zero t with
    | none=>rw[hz] at h;cases h
    | some z=>
     rw[hz] at h;simp only[Sp,IT] at h;subst h;refine⟨z,rfl,rfl,[z,.bool false],rfl,z,_,rfl,gj σ z (gK ok hz),?_⟩;exact⟨.bool false,[],rfl,rfl,rfl⟩
   split at e
   ·rename_i t' u;obtain⟨u',rfl,hu'⟩:=hx;cases ht:Nat.beq t' t with
    | true=>
     obtain rfl:=R8 ht;simp only[ht,RH,IT] at e;subst e;cases b with
     | true=>
      refine⟨.tuple #[u',.bool true],?_,[u',.bool true],rfl,u',_,rfl,hu',.bool true,[],rfl,rfl,rfl⟩;cases d<;>first | (cases hi;done) | simp[Instr.typeAssert,run_underlying hu]
     | false=>
      refine⟨u',?_,hu'⟩;cases d<;>first | (cases hi;done) | simp[Instr.typeAssert,run_underlying hu]
    | false=>
     have hne:¬t'=t:=λh=>by subst h;rw[Tx] at ht;cases ht
     simp only[ht,RO] at e;cases b with
     | false=>simp at e
     | true=>
      simp only[RH] at e;obtain⟨z,hz,rfl,hr⟩:=zero e;refine⟨_,?_,hr⟩;cases d<;>first | (cases hi;done) | simp[Instr.typeAssert,run_underlying hu,hne,eg ok hz]
   ·obtain rfl:=(show x'=_ from hx);cases b with
    | false=>simp at e
    | true=>
     simp only[RH] at e;obtain⟨z,hz,rfl,hr⟩:=zero e;refine⟨_,?_,hr⟩;cases d<;>first | (cases hi;done) | simp[Instr.typeAssert,run_underlying hu,eg ok hz]
   ·cases e
theorem GN:∃n,P.types.size+Made.depth=n+1:=by
 have h:0<Made.depth:=by decide
 exact⟨P.types.size+Made.depth-1,by omega⟩
theorem oH{t:TypeId}{v' r:Value}{name:String}{f:FuncId}{as':List Value}{w:World}
  (hr:∀n,(method (n+1) t v' name).run P w=.ok (f,r) w) (hcall:(callFunc f ⟨r::as'⟩).run P w=.ok (.enter f ⟨r::as'⟩) w) :
  (callMethod (.iface t v') name ⟨as'⟩).run P w=.ok (.enter f ⟨r::as'⟩) w:=by
 obtain⟨n,hn⟩:=GN (P:=P);have hp:(program).run P w=.ok P w:=rfl;have hm:=hr n;rw[<-hn] at hm;unfold callMethod;simp only[Sem.run_bind,hp,Result.andThen_ok,hm];rw[show (#[r]++⟨as'⟩:Array Value)=⟨r::as'⟩ by apply TT;simp];exact hcall
theorem wI{t:TypeId}{v' r:Value}{name:String}{f:FuncId}{pr:Bool}{i:TypeInfo}{m:Method}{w:World}(hti:(typeInfo t).run P w=.ok i w)(hm:i.methods.find? (·.name==name)=some m)(hp:m.path.isEmpty=true)(hf:m.func=some (f,pr))
  (hr:∀x,(receiverAt t (.val v') pr (some x)).run P w=.ok r w) (n:Nat):(method (n+1) t v' name).run P w=.ok (f,r) w:=by
 have hpl:m.path.toList=[]:=by
  cases m with | mk a b p c=>
  cases p with | mk p=>cases p<;>first | rfl | (simp at hp)
 unfold method;simp only[Sem.run_bind,hti,Result.andThen_ok,hm,hpl,follow,Sem.run_pure,hf,hp,SU,hr]
theorem GF(ok:C.Ok P){σ:aY}{w:World}{h:aq}(s:cU σ h.get w){x x' recv:Value}{name:String}{f:FuncId}(hx:aL σ x x')(e:A4 C h x name=some (f,recv)){fn:Func}(hfn:C.func f=some fn)(hb:fn.body.isSome=true)(as':List Value) :
  ∃recv',aL σ recv recv'/\(callMethod x' name ⟨as'⟩).run P w=.ok (.enter f ⟨recv'::as'⟩) w:=by
 unfold A4 at e;split at e
 ·rename_i t v;obtain⟨v',rfl,hv⟩:=hx;split at e
  ·rename_i i d hi hd;have hu:=aD ok hd;have hti:(typeInfo t).run P w=.ok i w:=by simp[typeInfo,ok.info t i hi]
   split at e
   ·rename_i m hm;cases hp:m.path.isEmpty with
    | false=>simp[hp] at e
    | true=>
     simp only[hp,RH] at e;split at e
     ·rename_i g el hfm;simp only[IT,Sb] at e;obtain⟨rfl,rfl⟩:=e;refine⟨v',hv,oH (wI hti hm hp hfm λx=>?_) (ok.call _ fn hfn hb _ w)⟩;unfold receiverAt;simp only[Sem.run_bind,run_underlying hu,Result.andThen_ok,Place.get,Sem.run_pure]
     ·rename_i g el hfm;cases hl:m5 C h el v with
      | none=>rw[hl] at e;cases e
      | some y=>
       rw[hl] at e;simp only[Sp,IT,Sb] at e;obtain⟨rfl,rfl⟩:=e;obtain⟨y',q1,q2⟩:=AN (P:=P) ok s hv hl (λ_ _=>rfl);refine⟨y',q2,?_⟩;obtain⟨a,rfl⟩:∃a,v'=.pointer (some a):=by
        unfold m5 at hl;split at hl
        ·obtain⟨l,_,_,rfl⟩:=hv;exact⟨_,rfl⟩
        ·cases hl
       have q1':(loadVar el a).run P w=.ok y' w:=by simpa [Instr.loadAt,Instr.sureAddr] using q1
       refine oH (wI hti hm hp hfm λx=>?_) (ok.call _ fn hfn hb _ w);have hw:(Builtin.ssaWrapNilChk_ #[t] t #[.pointer (some a),strVal "",strVal x]).run P w=.ok (.pointer (some a)) w:=rfl
       unfold receiverAt;simp only[Sem.run_bind,run_underlying hu,Result.andThen_ok,Place.get,Sem.run_pure,hw,asAddr,q1']
     ·cases e
   ·cases e
  ·cases e
 ·cases e
theorem kD(ok:C.Ok P){ρ:Operand->Option Value}{h:aq}{o:Oper}{r:yX}(hs:cb o.op=true)(e:aN C ρ h o.op=some r) :
  ∃v,r=.val v h/\∀(ρ':Operand->Value) (σ:aY) (g:Nat->Option aE) (w:World),cU σ g w->vz σ ρ ρ'->(∀b∈bE ρ o.op,g b=h.get b)->
   ∃v',(execOp ρ' o).run P w=.ok (.value v') w/\aL σ v v':=by
 have val:∀{x:Option Value},(x.map λv=>yX.val v h)=some r->∃v,x=some v/\r=.val v h:=by
  intro x hx;cases x with
  | none=>cases hx
  | some v=>exact⟨v,rfl,by simpa using hx.symm⟩
 cases ho:o.op with
 | move x=>
  rw[ho] at e;obtain⟨v,h1,rfl⟩:=val e;exact⟨v,rfl,λρ' σ g w s hρ _=>⟨ρ' x,by simp[execOp,ho],hρ x v h1⟩⟩
 | assign x=>
  rw[ho] at e;obtain⟨v,h1,rfl⟩:=val e;exact⟨v,rfl,λρ' σ g w s hρ _=>⟨ρ' x,by simp[execOp,ho],hρ x v h1⟩⟩
 | pick c a b=>
  rw[ho] at e;simp only[aN] at e;split at e
  ·rename_i hc;obtain⟨v,h1,rfl⟩:=val e;refine⟨v,rfl,λρ' σ g w s hρ _=>⟨ρ' a,?_,hρ a v h1⟩⟩;have:=hρ c _ hc;simp[execOp,ho,show ρ' c=.bool true from this,asBool]
  ·rename_i hc;obtain⟨v,h1,rfl⟩:=val e;refine⟨v,rfl,λρ' σ g w s hρ _=>⟨ρ' b,?_,hρ b v h1⟩⟩;have:=hρ c _ hc;simp[execOp,ho,show ρ' c=.bool false from this,asBool]
  ·cases e
 | build t ps=>
  rw[ho] at e;simp only[aN] at e;split at e
  ·rename_i ps' hp;obtain⟨v,h1,rfl⟩:=val e;refine⟨v,rfl,λρ' σ g w s hρ _=>?_⟩;obtain⟨q1,q2⟩:=xB hρ ps.toList ps' hp;obtain⟨v',r1,r2⟩:=HG (parts':=ps.map λ(i,x)=>(i,ρ' x)) ok w (by simpa using q1) (by simpa using q2) h1;exact⟨v',by simp[execOp,ho,r1],r2⟩
  ·cases e
 | load t a=>
  rw[ho] at e;simp only[aN] at e;split at e
  ·rename_i x hx;obtain⟨v,h1,rfl⟩:=val e;refine⟨v,rfl,λρ' σ g w s hρ hl=>?_⟩;obtain⟨v',r1,r2⟩:=AN ok s (hρ a x hx) h1 (λy hy=>hl _ (by simp[bE,hx,hy]));exact⟨v',by simp[execOp,ho,r1],r2⟩
  ·cases e
 | nilCheck x=>
  rw[ho] at e;simp only[aN] at e;split at e
  ·rename_i a hx;obtain⟨v,h1,rfl⟩:=val e;cases h1;refine⟨_,rfl,λρ' σ g w s hρ _=>?_⟩;obtain⟨l,h1,h2,h3⟩:=hρ x _ hx;refine⟨_,?_,⟨l,h1,h2,h3⟩⟩;simp[execOp,ho,h3]
  ·rename_i f xs ys hx;obtain⟨v,h1,rfl⟩:=val e;cases h1;cases xs with | mk xs=>
   cases ys with | mk ys=>
   refine⟨_,rfl,λρ' σ g w s hρ _=>?_⟩;obtain⟨a,b,h1,h2⟩:=hρ x _ hx;refine⟨_,?_,⟨a,b,h1,h2⟩⟩;simp[execOp,ho,h1]
  ·cases e
 | binOp op t x y yt=>
  rw[ho] at e;simp only[aN] at e;split at e
  ·rename_i a b hx hy;obtain⟨v,h1,rfl⟩:=val e;refine⟨v,rfl,λρ' σ g w s hρ hl=>?_⟩;obtain⟨r1,r2,r3⟩:=MA ok s (hρ x a hx) (hρ y b hy) (λz hz=>hl _ (by simp[bE,hx,hz])) (λz hz=>hl _ (by simp[bE,hy,hz])) h1;exact⟨v,by simp[execOp,ho,r1,r2],gj σ v r3⟩
  ·cases e
 | unOp op t x=>
  rw[ho] at e;simp only[aN] at e;split at e
  ·rename_i a hx;obtain⟨v,h1,rfl⟩:=val e;refine⟨v,rfl,λρ' σ g w s hρ hl=>?_⟩;obtain⟨r1,r3⟩:=N0 (P:=P) w (hρ x a hx) h1;exact⟨v,by simp[execOp,ho,r1],gj σ v r3⟩
  ·cases e
 | convert sr d x=>
  rw[ho] at e;simp only[aN] at e;split at e
  ·rename_i a hx;obtain⟨v,h1,rfl⟩:=val e;refine⟨v,rfl,λρ' σ g w s hρ hl=>?_⟩;unfold xe at h1;split at h1
   ·rename_i ds k k2 n hs hd;cases h1;have:=hρ x _ hx;refine⟨_,?_,rfl⟩;have:ρ' x=.int k2 n:=this;simp[execOp,ho,this,convert,run_underlying (aD ok hs),run_underlying (aD ok hd),Conv.intToInt]
   ·cases h1
  ·cases e
 | makeInterface t x=>
  rw[ho] at e;simp only[aN] at e;split at e
  ·rename_i a d hx hu;split at e
   ·cases e
   ·rename_i hd;obtain⟨v,h1,rfl⟩:=val e;cases h1;refine⟨_,rfl,λρ' σ g w s hρ hl=>⟨.iface t (ρ' x),?_,⟨_,rfl,hρ x a hx⟩⟩⟩;have:(Instr.makeInterface t (ρ' x)).run P w=.ok (.iface t (ρ' x)) w:=by
     simp only[Instr.makeInterface,Sem.run_bind,run_underlying (aD ok hu),Result.andThen_ok]
     try cases d<;>first | rfl | exact absurd rfl (hd _)
    simp[execOp,ho,this]
  ·cases e
 | makeFunc fn xs ys=>
  rw[ho] at e;simp only[aN] at e;split at e
  ·rename_i a b hx hy;obtain⟨v,h1,rfl⟩:=val e;cases h1;refine⟨_,rfl,λρ' σ g w s hρ hl=>⟨.func fn (xs.map ρ') (ys.map ρ'),by simp[execOp,ho,Instr.makeFunc],⟨xs.toList.map ρ',ys.toList.map ρ',?_,mE hρ _ _ hx,mE hρ _ _ hy⟩⟩⟩;congr 1<;>(apply TT;simp)
  ·cases e
 | slice t x lo hi mx=>
  rw[ho] at e;simp only[aN] at e;split at e
  ·rename_i x' lo' hi' mx' h1 h2 h3 h4;obtain⟨v,h5,rfl⟩:=val e;refine⟨v,rfl,λρ' σ g w s hρ hl=>?_⟩;obtain⟨v',r1,r2⟩:=H9 ok s (hρ x _ h1) (DJ hρ h2) (DJ hρ h3) (DJ hρ h4) h5 (λz hz=>hl _ (by simp[bE,h1,hz]));exact⟨v',by simp[execOp,ho,r1],r2⟩
  ·cases e
 | fieldAddr t x f=>
  rw[ho] at e;simp only[aN] at e;split at e
  ·rename_i a hx;obtain⟨v,h1,rfl⟩:=val e;refine⟨v,rfl,λρ' σ g w s hρ hl=>?_⟩;obtain⟨v',r1,r2⟩:=AH ok w (hρ x a hx) h1;exact⟨v',by simp[execOp,ho,r1],r2⟩
  ·cases e
 | field t x f=>
  rw[ho] at e;simp only[aN] at e;split at e
  ·rename_i a hx;obtain⟨v,h1,rfl⟩:=val e;refine⟨v,rfl,λρ' σ g w s hρ hl=>?_⟩;obtain⟨v',r1,r2⟩:=J9 ok w (hρ x a hx) h1;exact⟨v',by simp[execOp,ho,r1],r2⟩
  ·cases e
 | indexAddr t x i=>
  rw[ho] at e;simp only[aN] at e;split at e
  ·rename_i a b hx hy;obtain⟨v,h1,rfl⟩:=val e;refine⟨v,rfl,λρ' σ g w s hρ hl=>?_⟩;obtain⟨v',r1,r2⟩:=AK ok w (hρ x a hx) (hρ i b hy) h1;exact⟨v',by simp[execOp,ho,r1],r2⟩
  ·cases e
 | index t x i=>
  rw[ho] at e;simp only[aN] at e;split at e
  ·rename_i a b hx hy;obtain⟨v,h1,rfl⟩:=val e;refine⟨v,rfl,λρ' σ g w s hρ hl=>?_⟩;obtain⟨v',r1,r2⟩:=Ka ok w (hρ x a hx) (hρ i b hy) h1;exact⟨v',by simp[execOp,ho,r1],r2⟩
  ·cases e
 | lookup t x k b=>
  rw[ho] at e;simp only[aN] at e;split at e
  ·rename_i m kk hx hy;obtain⟨v,h1,rfl⟩:=val e;refine⟨v,rfl,λρ' σ g w s hρ hl=>?_⟩;obtain⟨v',r1,r2⟩:=Hb ok s (hρ x m hx) (hρ k kk hy) (λz hz=>hl _ (by simp[bE,hx,hz])) h1;exact⟨v',by simp[execOp,ho,r1],r2⟩
  ·cases e
 | extract x i=>
  rw[ho] at e;simp only[aN] at e;split at e
  ·rename_i vs hx;obtain⟨v,h1,rfl⟩:=val e;refine⟨v,rfl,λρ' σ g w s hρ hl=>?_⟩;cases vs with | mk vs=>
   obtain⟨cs,h2,h3⟩:=hρ x _ hx;obtain⟨v',h4,h5⟩:=h3.get i v (by simpa using h1);refine⟨v',?_,h5⟩;have:(⟨cs⟩:Array Value)[i]?=some v':=by simpa using h4
   simp[execOp,ho,h2,Instr.extract,this]
  ·cases e
 | typeAssert x xt t b=>
  rw[ho] at e;simp only[aN] at e;split at e
  ·rename_i a hx;obtain⟨v,h1,rfl⟩:=val e;refine⟨v,rfl,λρ' σ g w s hρ hl=>?_⟩;obtain⟨v',r1,r2⟩:=xJ (P:=P) ok w (hρ x a hx) xt h1;exact⟨v',by simp[execOp,ho,r1],r2⟩
  ·cases e
 | call c=>
  rw[ho] at e hs;cases hc:c.callee with
  | invoke x m=>simp[cb,hc] at hs
  | value f=>simp[cb,hc] at hs
  | builtin b=>
   simp only[aN,hc] at e;split at e
   ·rename_i as has;have hva:∀(σ:aY) (ρ':Operand->Value),vz σ ρ ρ'->∃as',(c.args.map ρ')=⟨as'⟩/\aJ σ as as':=λσ ρ' hρ=>
     ⟨c.args.toList.map ρ',by apply TT;simp,mE hρ _ _ has⟩
    have hts:∀{t:TypeId} {ts:List TypeId},c.argTypes.toList=t::ts->c.argTypes=⟨t::ts⟩:=λh=>by apply TT;simpa using h
    have hex:∃cs,∀(ρ':Operand->Value) (w:World),(execOp ρ' o).run P w=(builtin b c.argTypes o.type cs (c.args.map ρ')).run P w:=
     ⟨_,λρ' w=>by simp only[execOp,ho,resolve,hc,invoke,Sem.run_bind,Sem.run_pure,Result.andThen_ok];rfl⟩
    obtain⟨cs,hex⟩:=hex;simp only[cb,hc] at hs;cases b<;>first | (cases hs;done) | skip
    ·
     cases h1:c.argTypes.toList with
     | nil=>simp[bR,h1] at e
     | cons t ts=>
      rw[h1] at e;rcases as with _ | ⟨x,_ | ⟨y,as⟩⟩
      ·cases e
      ·simp only[bR] at e;cases h2:KF C t x with
       | none=>rw[h2] at e;cases e
       | some v=>
        rw[h2] at e;simp only[Sp,IT] at e;subst e;refine⟨v,rfl,λρ' σ g w s hρ hl=>?_⟩;obtain⟨as',q1,x',r,q2,q3,q4⟩:=hva σ ρ' hρ;have:r=[]:=q4;subst this;subst q2;obtain⟨v',r1,r2⟩:=Na ok w q3 ts o.type h2;exact⟨v',by rw[hex,hts h1,q1];simp[builtin,r1],r2⟩
      ·cases e
    ·
     cases h1:c.argTypes.toList with
     | nil=>simp[bR,h1] at e
     | cons t ts=>
      rw[h1] at e;rcases as with _ | ⟨x,_ | ⟨y,as⟩⟩
      ·cases e
      ·cases hax:c.args.toList with
       | nil=>rw[hax] at has;cases has
       | cons ax axs=>
        simp only[bR] at e;cases h2:DP C h t x with
        | none=>rw[h2] at e;cases e
        | some v=>
         rw[h2] at e;simp only[Sp,IT] at e;subst e;refine⟨v,rfl,λρ' σ g w s hρ hl=>?_⟩;obtain⟨as',q1,x',r,q2,q3,q4⟩:=hva σ ρ' hρ;have:r=[]:=q4;subst this;subst q2;have hρx:ρ ax=some x:=by
          rw[hax] at has;unfold dI at has;split at has
          ·rename_i h3 h4;simp only[IT,R1] at has;rw[h3,has.1]
          ·cases has
         obtain⟨v',r1,r2⟩:=MI ok s q3 ts o.type h2 (λz hz=>hl _ (by simp[bE,hc,hax,hρx,hz]));exact⟨v',by rw[hex,hts h1,q1];simp[builtin,r1],r2⟩
      ·cases e
    ·
     obtain⟨k,k',a,b,rfl,rfl⟩:∃k k' a b,as=[.int k a,.int k' b]/\r=.val (.int k (if b > a then b else a)) h:=by
      unfold bR at e;split at e<;>first | contradiction | (simp only[Sp,IT] at e;first | (cases e;done) | exact⟨_,_,_,_,rfl,e.symm⟩) | skip
     refine⟨_,rfl,λρ' σ g w s hρ hl=>?_⟩;obtain⟨as',q1,x',r,q2,q3,y',r2,q4,q5,q6⟩:=hva σ ρ' hρ;have:r2=[]:=q6;subst this;subst q4;subst q2;obtain rfl:=(show x'=_ from q3);obtain rfl:=(show y'=_ from q5);exact⟨_,by rw[hex,q1];simp[builtin,Builtin.max_,Builtin.max2],rfl⟩
    ·
     have hcase:(∃k k' a b,as=[.int k a,.int k' b]/\r=.val (.int k (if b<a then b else a)) h)\/
       (∃k k' k'' a b d,as=[.int k a,.int k' b,.int k'' d]/\r=.val (.int k (if d<(if b<a then b else a) then d else (if b<a then b else a))) h):=by
      unfold bR at e;split at e<;>first
       | contradiction
       | (simp only[Sp,IT] at e;first | (cases e;done) | exact .inl ⟨_,_,_,_,rfl,e.symm⟩ | exact .inr ⟨_,_,_,_,_,_,rfl,e.symm⟩)
       | skip
     rcases hcase with ⟨k,k',a,b,rfl,rfl⟩ | ⟨k,k',k'',a,b,d,rfl,rfl⟩
     ·refine⟨_,rfl,λρ' σ g w s hρ hl=>?_⟩;obtain⟨as',q1,x',r,q2,q3,y',r2,q4,q5,q6⟩:=hva σ ρ' hρ;have:r2=[]:=q6;subst this;subst q4;subst q2;obtain rfl:=(show x'=_ from q3);obtain rfl:=(show y'=_ from q5);exact⟨_,by rw[hex,q1];simp[builtin,Builtin.min_,Builtin.min2],rfl⟩
     ·refine⟨_,rfl,λρ' σ g w s hρ hl=>?_⟩;obtain⟨as',q1,x',r,q2,q3,y',r2,q4,q5,z',r3,q6,q7,q8⟩:=hva σ ρ' hρ;have:r3=[]:=q8;subst this;subst q6;subst q4;subst q2;obtain rfl:=(show x'=_ from q3);obtain rfl:=(show y'=_ from q5);obtain rfl:=(show z'=_ from q7);exact⟨_,by rw[hex,q1];simp[builtin,Builtin.min_,Builtin.min2],rfl⟩
   ·cases e
 | _=>rw[ho] at hs;cases hs
end
end Go.Abs
/-
 Soundness,fifteenth part: one operation that lays a block,stores,appends,or calls.
-/
namespace Go.Abs
open Go
section
variable {C:Ctx}{P:Program}
def HJ(P:Program)(ρ':Operand->Value)(o:Oper)(σ:aY)(g:Nat->Option aE)(n:Nat)(w:World)(b:aE)(v:Value):Prop:=
 ∃l v' w',(execOp ρ' o).run P w=.ok (.value v') w'/\aL (dg σ n (some l)) v v'/\cU (dg σ n (some l)) (dg g n (some b)) w'/\Ev σ g n w (dg σ n (some l)) (dg g n (some b)) (n+1) w'/\
  l.bu=w.heap.size/\w'.heap.size=w.heap.size+1
theorem lv{ρ':Operand->Value}{o:Oper}{σ:aY}{g:Nat->Option aE}{n:Nat}{w:World}{b:aE}{v:Value}{sem:Sem Value}
  (h:Lays P σ g n w b v sem) (he:∀v' w',sem.run P w=.ok v' w'->(execOp ρ' o).run P w=.ok (.value v') w'):HJ P ρ' o σ g n w b v:=by
 obtain⟨l,v',w',q1,q⟩:=h;exact⟨l,v',w',he v' w' q1,q⟩
theorem tQ(ok:C.Ok P){ρ:Operand->Option Value}{h:aq}{o:Oper}{r:yX}(hs:rK o.op=true)(e:aN C ρ h o.op=some r) :
  ∃v b,b.ro=false/\r=.val v (h.alloc b)/\∀(ρ':Operand->Value) (σ:aY) (g:Nat->Option aE) (w:World),cU σ g w->σ h.next=none->vz σ ρ ρ'->HJ P ρ' o σ g h.next w b v:=by
 cases ho:o.op with
 | alloc t=>
  rw[ho] at e;simp only[aN] at e;split at e
  ·rename_i z hz;cases e;exact⟨_,_,rfl,rfl,λρ' σ g w s hn hρ=>lv (HS ok s hn hz) λv' w' hr=>by simp[execOp,ho,hr]⟩
  ·cases e
 | box t x=>
  rw[ho] at e;simp only[aN] at e;split at e
  ·rename_i y hy;cases e;exact⟨_,_,rfl,rfl,λρ' σ g w s hn hρ=>lv (Mr s hn t (hρ x y hy)) λv' w' hr=>by simp[execOp,ho,hr]⟩
  ·cases e
 | buildSlice t n ps=>
  rw[ho] at e;simp only[aN] at e;split at e
  ·rename_i ps' hp;cases hb:gV C h t n ps' with
   | none=>simp[hb] at e
   | some vh=>
    obtain⟨v,h'⟩:=vh;simp[hb] at e;subst e;obtain⟨b,hbro,hh,-⟩:∃b,b.ro=false/\h'=h.alloc b/\True:=by
     unfold gV at hb;split at hb
     ·split at hb
      ·rename_i n2 z hs2 hz;cases hc:(Nat.ble (n*n2) 16777216&&Nat.blt 0 n2) with
       | false=>simp only[hc,RO] at hb;cases hb
       | true=>
        simp only[hc,RH] at hb;split at hb
        ·cases hb;exact⟨_,rfl,rfl,trivial⟩
        ·cases hb
      ·cases hb
     ·cases hb
    refine⟨v,b,hbro,by rw[hh],λρ' σ g w s hn hρ=>?_⟩;obtain⟨q1,q2⟩:=xB hρ ps.toList ps' hp;obtain⟨b2,hb2,hh2,hl⟩:=xV (parts':=ps.map λ(i,x)=>(i,ρ' x)) (w:=w) ok s hn (by simpa using q1) (by simpa using q2) hb;have hbb:b2=b:=by
     have h1:(h.alloc b2).get h.next=(h.alloc b).get h.next:=by rw[<-hh,<-hh2]
     simpa [aq.dP] using h1
    subst hbb;exact lv hl λv' w' hr=>by simp[execOp,ho,hr]
  ·cases e
 | makeMap t x=>
  rw[ho] at e;cases x with
  | some x=>cases e
  | none=>
   cases e;exact⟨_,_,rfl,rfl,λρ' σ g w s hn hρ=>lv (EV s hn t) λv' w' hr=>by simp[execOp,ho,hr]⟩
 | makeSlice t x y=>
  rw[ho] at e;simp only[aN] at e;split at e
  ·rename_i l c hx hy;cases hb:je C h t l c with
   | none=>simp[hb] at e
   | some vh=>
    obtain⟨v,h'⟩:=vh;simp[hb] at e;subst e;obtain⟨b,hbro,hh,-⟩:∃b,b.ro=false/\h'=h.alloc b/\True:=by
     unfold je at hb;split at hb
     ·split at hb
      ·split at hb
       ·cases hb;exact⟨_,rfl,rfl,trivial⟩
       ·cases hb
      ·cases hb
     ·cases hb
    refine⟨v,b,hbro,by rw[hh],λρ' σ g w s hn hρ=>?_⟩;obtain⟨b2,hb2,hh2,hl⟩:=AR (w:=w) ok s hn (hρ x l hx) (hρ y c hy) hb;have hbb:b2=b:=by
     have h1:(h.alloc b2).get h.next=(h.alloc b).get h.next:=by rw[<-hh,<-hh2]
     simpa [aq.dP] using h1
    subst hbb;exact lv hl λv' w' hr=>by simp[execOp,ho,hr]
  ·cases e
 | _=>rw[ho] at hs;cases hs
theorem fZ(σ:aY):aL σ dv undef:=⟨[],rfl,rfl⟩
theorem jc(ok:C.Ok P){ρ:Operand->Option Value}{h:aq}{o:Oper}{r:yX}(hs:gJ o.op=true)(e:aN C ρ h o.op=some r) :
  ∃b cs,bE ρ o.op=[b]/\r=.val dv (h.put b (some (.cells false cs)))/\(∃cs0,h.get b=some (.cells false cs0))/\
   ∀(ρ':Operand->Value) (σ:aY) (g:Nat->Option aE) (w:World) (n:Nat),cU σ g w->vz σ ρ ρ'->g b=h.get b->
   ∃w',(execOp ρ' o).run P w=.ok .skip w'/\cU σ (dg g b (some (.cells false cs))) w'/\Ev σ g n w σ (dg g b (some (.cells false cs))) n w':=by
 cases ho:o.op with
 | store t a x=>
  rw[ho] at e;simp only[aN] at e;split at e
  ·rename_i p v hp hv;cases hst:sV C h t p v with
   | none=>simp[hst] at e
   | some h'=>
    simp[hst] at e;subst e;obtain⟨b,off,cs0,cs,rfl,hb0,hh⟩:∃b off cs0 cs,p=.pointer (some ⟨b,off,none⟩)/\h.get b=some (.cells false cs0)/\h'=h.put b (some (.cells false cs)):=by
     unfold sV at hst;split at hst
     ·rename_i b off;split at hst
      ·rename_i cs sz hb hsz;cases hc:(v.cells.toList.length==sz&&v.cells.toList.all one&&Nat.ble (off+sz) cs.length) with
       | false=>simp only[hc,RO] at hst;cases hst
       | true=>simp only[hc,RH,IT] at hst;exact⟨b,off,cs,_,rfl,hb,hst.symm⟩
      ·cases hst
     ·cases hst
    refine⟨b,cs,by simp[bE,hp],by rw[hh],⟨cs0,hb0⟩,λρ' σ g w n s hρ hg=>?_⟩;obtain⟨b2,cs2,⟨o2,hp2⟩,hh2,w',q1,q2,q3⟩:=Jt (P:=P) ok s (hρ a _ hp) (hρ x _ hv) hst (λz hz=>by cases hz;exact hg) n;cases hp2;have hcs:cs2=cs:=by
     have h1:(h.put b (some (.cells false cs2))).get b=(h.put b (some (.cells false cs))).get b:=by rw[<-hh,<-hh2]
     simpa [aq.dy] using h1
    subst hcs;exact⟨w',by simp[execOp,ho,q1],q2,q3⟩
  ·cases e
 | _=>rw[ho] at hs;cases hs
theorem yr(ok:C.Ok P){ρ:Operand->Option Value}{h h':aq}{o:Oper}{v:Value}(hs:fj o.op=true)(e:aN C ρ h o.op=some (.val v h'))
  {ρ':Operand->Value} {σ:aY} {w:World} (s:cU σ h.get w) (hw:∀i b,h.get i=some b->i<h.next) (hρ:vz σ ρ ρ') (hf:∀i,h.next<=i->i<h'.next->σ i=none) :
  ∃σ' v' w',O7 ((execOp ρ' o).run P w) v' w'/\aL σ' v v'/\cU σ' h'.get w'/\Ev σ h.get h.next w σ' h'.get h'.next w':=by
 cases ho:o.op with
 | mapUpdate t m k x=>
  rw[ho] at e;simp only[aN] at e;split at e
  ·rename_i m1 k1 x1 h1 h2 h3;cases hst:cN C h t m1 k1 x1 with
   | none=>simp[hst] at e
   | some h2'=>
    simp[hst] at e;obtain⟨rfl,rfl⟩:=e;obtain⟨w',q1,q2,q3,q4⟩:=qT (P:=P) ok s (hρ m _ h1) (hρ k _ h2) (hρ x _ h3) hst;exact⟨σ,undef,w',.inr ⟨by simp[execOp,ho,q1],rfl⟩,fZ σ,q3,q4⟩
  ·cases e
 | mapEntry t m k=>
  rw[ho] at e;simp only[aN] at e;split at e
  ·rename_i m1 k1 h1 h2;cases hst:gh C h t m1 k1 with
   | none=>simp[hst] at e
   | some vh=>
    obtain⟨v2,h2'⟩:=vh;simp[hst] at e;obtain⟨rfl,rfl⟩:=e;obtain⟨v',w',q1,q2,q3,q4,q5⟩:=Bi (P:=P) ok s (hρ m _ h1) (hρ k _ h2) hst;exact⟨σ,v',w',.inl (by simp[execOp,ho,q1]),q2,q4,q3▸q5⟩
  ·cases e
 | entryStore t m k x=>
  rw[ho] at e;simp only[aN] at e;split at e
  ·rename_i m1 k1 x1 h1 h2 h3;cases hst:eF h m1 k1 x1 with
   | none=>simp[hst] at e
   | some h2'=>
    simp[hst] at e;obtain⟨rfl,rfl⟩:=e;obtain⟨w',q1,q2,q3,q4⟩:=xK (P:=P) s t (hρ m _ h1) (hρ k _ h2) (hρ x _ h3) hst;exact⟨σ,undef,w',.inr ⟨by simp[execOp,ho,q1],rfl⟩,fZ σ,q3,q4⟩
  ·cases e
 | insert t m k x=>
  rw[ho] at e;simp only[aN] at e;split at e
  ·rename_i m1 k1 x1 h1 h2 h3;cases hst:cN C h t m1 k1 x1 with
   | none=>simp[hst] at e
   | some h2'=>
    simp[hst] at e;obtain⟨rfl,rfl⟩:=e;obtain⟨w',q1,q2,q3,q4⟩:=qT (P:=P) ok s (hρ m _ h1) (hρ k _ h2) (hρ x _ h3) hst;exact⟨σ,undef,w',.inr ⟨by simp[execOp,ho,q1],rfl⟩,fZ σ,q3,q4⟩
  ·cases e
 | call c=>
  rw[ho] at e;cases hc:c.callee with
  | invoke x m=>
   simp only[aN,hc] at e;split at e
   ·split at e
    ·split at e
     ·rename_i fn hfn;cases hb:fn.body.isSome<;>simp[hb] at e
     ·cases e
    ·cases e
   ·cases e
  | value f=>
   simp only[aN,hc] at e;split at e
   ·rename_i f1 as h1 h2;unfold lD at e;split at e
    ·split at e
     ·rename_i fn hfn;cases hb:fn.body.isSome<;>simp[hb] at e
     ·cases e
    ·cases e
   ·cases e
  | builtin b=>
   simp only[aN,hc] at e;split at e
   ·rename_i as has;obtain⟨as',hva1,hva⟩:∃as',(c.args.map ρ')=⟨as'⟩/\aJ σ as as':=⟨c.args.toList.map ρ',by apply TT;simp,mE hρ _ _ has⟩;have hts:∀{t:TypeId} {ts:List TypeId},c.argTypes.toList=t::ts->c.argTypes=⟨t::ts⟩:=λh=>by apply TT;simpa using h
    obtain⟨cs,hex⟩:∃cs,(execOp ρ' o).run P w=(builtin b c.argTypes o.type cs (c.args.map ρ')).run P w:=
     ⟨_,by simp only[execOp,ho,resolve,hc,invoke,Sem.run_bind,Sem.run_pure,Result.andThen_ok];rfl⟩
    cases hbr:bR C h b c.argTypes.toList as with
    | none=>simp[hbr] at e
    | some vh=>
     obtain⟨v2,h2⟩:=vh;simp[hbr] at e;obtain⟨rfl,rfl⟩:=e;rw[ho] at hs;simp only[fj,rK,cb,gJ,hc,TN,Bool.true_and,UF] at hs;cases hct:c.argTypes.toList with
     | nil=>
      rw[hct] at hbr;cases b<;>first | (cases hs;done) | (simp[bR] at hbr)
     | cons t ts=>
      rw[hct] at hbr;have hct':=hts hct;cases b<;>first | (cases hs;done) | skip
      all_goals first | (simp[bR] at hbr;done) | skip
      ·
       rcases as with _ | ⟨x,_ | ⟨y,_ | ⟨z,as⟩⟩⟩
       ·cases hbr
       ·cases hbr
       ·simp only[bR] at hbr;obtain⟨x',r,rfl,q3,y',r2,rfl,q5,q6⟩:=hva;have:r2=[]:=q6;subst this;obtain⟨σ',v',w',p1,p2,p3,p4⟩:=Hv (P:=P) ok s hw o.type q3 q5 hbr hf;exact⟨σ',v',w',.inl (by rw[hex,hva1,hct'];simp[builtin,p1]),p2,p3,p4⟩
       ·cases hbr
      ·
       rcases as with _ | ⟨x,_ | ⟨y,as⟩⟩
       ·cases hbr
       ·simp only[bR] at hbr;cases hcl:nW C h t x with
        | none=>rw[hcl] at hbr;cases hbr
        | some h3=>
         rw[hcl] at hbr;simp only[Sp,IT,Sb] at hbr;obtain⟨rfl,rfl⟩:=hbr;obtain⟨x',r,rfl,q3,q4⟩:=hva;have:r=[]:=q4;subst this;obtain⟨w',p1,p2,p3,p4⟩:=I7 (P:=P) (ts:=ts) ok s o.type q3 hcl;exact⟨σ,dv,w',.inl (by rw[hex,hva1,hct'];simp[builtin,p1]),fZ σ,p3,p4⟩
       ·cases hbr
      ·
       rcases as with _ | ⟨x,_ | ⟨y,_ | ⟨z,as⟩⟩⟩
       ·cases hbr
       ·cases hbr
       ·simp only[bR] at hbr;obtain⟨x',r,rfl,q3,y',r2,rfl,q5,q6⟩:=hva;have:r2=[]:=q6;subst this;obtain⟨v',w',p1,p2,p3,p4,p5⟩:=Lv (P:=P) (ts:=ts) ok s o.type q3 q5 hbr;exact⟨σ,v',w',.inl (by rw[hex,hva1,hct'];simp[builtin,p1]),p3,p4,p5⟩
       ·cases hbr
      ·
       rcases as with _ | ⟨x,_ | ⟨y,_ | ⟨z,as⟩⟩⟩
       ·cases hbr
       ·cases hbr
       ·simp only[bR] at hbr;cases hcl:mB C h t x y with
        | none=>rw[hcl] at hbr;cases hbr
        | some h3=>
         rw[hcl] at hbr;simp only[Sp,IT,Sb] at hbr;obtain⟨rfl,rfl⟩:=hbr;obtain⟨x',r,rfl,q3,y',r2,rfl,q5,q6⟩:=hva;have:r2=[]:=q6;subst this;obtain⟨w',p1,p2,p3,p4⟩:=Gi (P:=P) (ts:=ts) ok s o.type q3 q5 hcl;exact⟨σ,dv,w',.inl (by rw[hex,hva1,hct'];simp[builtin,p1];rfl),fZ σ,p3,p4⟩
       ·cases hbr
   ·cases e
 | alloc t=>rw[ho] at hs;cases hs
 | box t x=>rw[ho] at hs;cases hs
 | buildSlice t n ps=>rw[ho] at hs;cases hs
 | makeMap t x=>rw[ho] at hs;cases hs
 | makeSlice t x y=>rw[ho] at hs;cases hs
 | store t a x=>rw[ho] at hs;cases hs
 | _=>first | (rw[ho] at hs;cases hs;done) | (rw[ho] at e;cases e)
theorem qE(ok:C.Ok P){ρ:Operand->Option Value}{h:aq}{o:Oper}{f:FuncId}{args:List Value}(e:aN C ρ h o.op=some (.call f args))
  {ρ':Operand->Value} {σ:aY} {w:World} (hρ:vz σ ρ ρ') (s:cU σ h.get w):∃args',(execOp ρ' o).run P w=.ok (.enter f ⟨args'⟩) w/\aJ σ args args':=by
 have noval:∀{x:Option Value},(x.map λv=>yX.val v h)=some (.call f args)->False:=by intro x hx;cases x<;>cases hx
 have nopair:∀{x:Option (Value×aq)},(x.map λr=>yX.val r.1 r.2)=some (.call f args)->False:=by intro x hx;cases x<;>cases hx
 have noheap:∀{x:Option aq},(x.map λh=>yX.val dv h)=some (.call f args)->False:=by intro x hx;cases x<;>cases hx
 cases ho:o.op with
 | call c=>
  rw[ho] at e;cases hc:c.callee with
  | invoke ro name=>
   simp only[aN,hc] at e;split at e
   ·rename_i x as h1 h2;split at e
    ·rename_i g recv hm;split at e
     ·rename_i fn hfn;cases hb:fn.body.isSome with
      | false=>simp[hb] at e
      | true=>
       simp only[hb,RH,IT,yX.call.injEq] at e;obtain⟨rfl,rfl⟩:=e;have r3:=mE hρ _ _ h2;obtain⟨recv',q1,q2⟩:=GF (P:=P) ok s (hρ ro _ h1) hm hfn hb (c.args.toList.map ρ');refine⟨recv'::c.args.toList.map ρ',?_,⟨recv',_,rfl,q1,r3⟩⟩;have harr:(#[ρ' ro]++c.args.map ρ').extract 1 (#[ρ' ro]++c.args.map ρ').size=⟨c.args.toList.map ρ'⟩:=by apply TT;simp[RN]
       have h0:((#[ρ' ro]++c.args.map ρ':Array Value)[0]?:Option Value)=some (ρ' ro):=by rw[Array.getElem?_append_left (by simp)];rfl
       have hdo:(execOp ρ' o).run P w=(invoke (.fn (.method name) #[]) (#[ρ' ro]++c.args.map ρ')).run P w:=by
        simp only[execOp,ho,resolve,hc,Sem.run_bind,Sem.run_pure,Result.andThen_ok]
       rw[hdo];simp only[invoke,h0,harr,q2]
     ·cases e
    ·cases e
   ·cases e
  | builtin b=>
   simp only[aN,hc] at e;split at e
   ·exact(nopair e).elim
   ·cases e
  | value fo=>
   simp only[aN,hc] at e;split at e
   ·rename_i f1 as h1 h2;unfold lD at e;split at e
    ·rename_i i first captured
     split at e
     ·rename_i fn hfn;cases hb:fn.body.isSome with
      | false=>simp[hb] at e
      | true=>
       simp only[hb,RH,IT,yX.call.injEq] at e;obtain⟨rfl,rfl⟩:=e;cases first with | mk first=>
       cases captured with | mk captured=>
       obtain⟨xs',ys',hf1,r1,r2⟩:=hρ fo _ h1;have r3:=mE hρ _ _ h2;refine⟨xs'++c.args.toList.map ρ'++ys',?_,(r1.app r3).app r2⟩;have harr:(⟨xs'⟩:Array Value)++c.args.map ρ'++⟨ys'⟩=⟨xs'++c.args.toList.map ρ'++ys'⟩:=by apply TT;simp
       simp only[execOp,ho,resolve,hc,Sem.run_bind,hf1,Deferred.ofValue,Sem.run_pure,Result.andThen_ok,invoke,harr];exact ok.call i fn hfn hb _ w
     ·cases e
    ·cases e
   ·cases e
 | _=>
  rw[ho] at e;exfalso;clear ho hρ;simp only[aN] at e
  repeat' split at e
  all_goals first
   | (cases e;done)
   | exact noval e
   | exact nopair e
   | exact noheap e
   | contradiction
end
end Go.Abs