/-
  The abstract machine is sound, third part: append, copy, the operations one by one.
-/
import Derived.Test.YtcldmcmclejlhaaGreatDoorAbs2
/-
 Soundness,twelfth part: append whole,copy,clear.
-/
namespace Go.Abs
open Go
section
variable {C:Ctx}{P:Program}
structure P0(P:Program)(σ:bD)(w:World)(n:Nat)(new:List Value)(zeros:Bool)(appended:Sem (Array Value))(new':List Value):Prop where
 rel:aV σ new new'
 run:∀w1:World,w1.heap=w.heap->appended.run P w1=.ok ⟨new'⟩ w1
theorem NP(ok:C.Ok P){σ:bD}{g:Nat->Option aJ}{w:World}(s:cM σ g w){h:au}{t e:TypeId}{ts:List TypeId}{ty:TypeId}{J by_ n:Nat}{base:Option Addr}{sLen sCap:Nat}{x x':Value}
  {new:List Value} (hu:C.iL t=some (.slice e)) (hs:C.size e=some J) (hb:C.bytes e=some by_) (hx:aX σ x x') (hg:∀a n c,x=.slice (some a) n c->g a.block=h.get a.block)
  (I:kD C h e J ts.head? x=some (n,new)) (R:n*by_<=140737488355328) :
  ∃p j o,P0 P σ w n new p j o/\
   DA C P w e J n j base sLen sCap ((Builtin.append_ ⟨t::ts⟩ ty ⟨[.slice base sLen sCap,x']⟩).run P w):=by
 have pl:fG h J x=some (n,new)->(∀xt,ts.head?=some xt->∃d,C.iL xt=some d/\Mt d=false)->
   ∃p j o,P0 P σ w n new p j o/\
   DA C P w e J n j base sLen sCap ((Builtin.append_ ⟨t::ts⟩ ty ⟨[.slice base sLen sCap,x']⟩).run P w):=by
  intro hp hd;unfold fG at hp;cases hl:kj x with
  | none=>simp[hl] at hp
  | some m=>
   simp only[hl] at hp;cases hf:jf h J m x with
   | none=>simp[hf] at hp
   | some l=>
    simp[hf] at hp;obtain⟨rfl,rfl⟩:=hp;obtain⟨o,q1,q2⟩:=AE (P:=P) s hx hg hl (mc _) hf;exact⟨false,_,o,⟨q1,q2⟩,ET ok w hu hs hd (E9 w hx hl)⟩
 unfold kD at I;split at I
 ·rename_i U;exact pl I (λxt r=>by rw[U] at r;cases r)
 ·rename_i xt U;split at I
  ·cases I
  ·rename_i ki r;split at I
   ·rename_i k m z hz;split at I
    ·rename_i hm;cases I;obtain rfl:=(show x'=_ from hx);cases ts with
     | nil=>cases U
     | cons ag ts=>
      simp only[List.head?_cons,sw] at U;subst U;obtain⟨i,hi,a1,al,a2⟩:=qz ok hz;obtain⟨i2,aa,a3⟩:=qN ok hs;rw[hi] at aa;cases aa;refine⟨true,_,dH z.cells.toList m.toNat,⟨dz σ _ (jW (gq al) _),λw1 _=>?_⟩,Eg ok w hu hs r hb hm.1 hm.2 R⟩;by_cases h0:m.toNat*J=0
      ·have:dH z.cells.toList m.toNat=[]:=by
        have:=og z.cells.toList m.toNat;rw[show z.cells.toList.length=J from by simp;omega,h0] at this;exact BY this
       rw[n0 h0,this];rfl
      ·rw[nw h0];simp only[Sem.run_bind,eN ok hz,Result.andThen_ok,Sem.run_pure];congr 1;apply UW;exact yg z.cells m.toNat
    ·cases I
   ·cases I
  ·rename_i d hd r;refine pl I (λag h2=>?_);rw[U] at h2;cases h2;exact⟨d,r,by cases d<;>first | rfl | exact absurd rfl (hd _)⟩
theorem KD(ok:C.Ok P){σ:bD}{h h':au}{w:World}(s:cM σ h.get w)(hw:∀i b,h.get i=some b->i<h.next){t:TypeId}{ts:List TypeId}(ty:TypeId){x x' y y' v:Value}(hx:aX σ x x')(hy:aX σ y y')
  (e:gg C h t ts.head? x y=some (v,h')) (hf:∀i,h.next<=i->i<h'.next->σ i=none) :
  ∃a8 v' w',(Builtin.append_ ⟨t::ts⟩ ty ⟨[x',y']⟩).run P w=.ok v' w'/\aX a8 v v'/\cM a8 h'.get w'/\Ev σ h.get h.next w a8 h'.get h'.next w':=by
 unfold gg at e;split at e
 ·rename_i el base len c hu;split at e
  ·rename_i sz z by_ hs hz hb;split at e
   ·rename_i n new c4;cases hc:(new.length==n*sz&&new.all one&&Nat.blt 0 sz&&Nat.blt 0 by_&&Nat.ble ((len+n)*by_) 140737488355328) with
    | false=>simp only[hc,UK,xf] at e;cases e
    | true=>
     simp only[hc,Uz,zm] at e;simp only[tx,T5,Ve,Nat.blt_eq] at hc;obtain⟨⟨⟨⟨a9,c5⟩,et⟩,c6⟩,b1⟩:=hc;have ay:n*by_<=140737488355328:=AS (TG _ (Nat.le_add_left n len)) b1;obtain⟨I,cap,rfl,hle,b2⟩:∃I cap,x'=.slice I len cap/\len<=cap/\
       (base=none->I=none/\len=0/\cap=0):=by
      cases base with
      | none=>obtain⟨rfl,rfl,rfl⟩:=hx;exact⟨none,0,rfl,mc _,λ_=>⟨rfl,rfl,rfl⟩⟩
      | some a=>obtain⟨l,a',cap,_,_,rfl,hle,_⟩:=hx;exact⟨some a',cap,rfl,hle,λh=>by cases h⟩
     obtain⟨c7,bv,o,⟨ao,ac⟩,ar⟩:=NP (ty:=ty) (base:=I) (sLen:=len) (sCap:=cap) ok s hu hs hb hy (λ_ _ _ _=>rfl) c4 ay;obtain⟨i,hi,ev,ex,ey⟩:=qz ok hz;obtain⟨i2,b4,e0⟩:=qN ok hs;rw[hi] at b4;cases b4;have c8:z.cells.size=sz:=by omega
     have e1:=ao.length;cases a0:(n==0) with
     | true=>
      have b5:n=0:=by simpa using a0
      subst b5;simp only[a0,xf,sw,Tk] at e;obtain⟨rfl,rfl⟩:=e;have av:o=[]:=BY (by omega);subst av;refine⟨σ,.slice I len cap,w,?_,hx,s,Ev.refl _ _ _ _⟩;exact ar.room w [] hle (ac w rfl) (by cases I<;>simp[storeCells])
     | false=>
      have c9 : 0 < n := by
       have : n ≠ 0 := by simpa using a0
       omega
      simp only[a0,zm] at e;have fresh:∀(g:Nat->Option aJ) (dy p:List Value),cM σ g w->aV σ dy p->dy.length=len*sz->cap<len+n->σ h.next=none->
        (∀w1:World,w1.heap=w.heap->(Builtin.firstCells sz len (.slice I len cap)).run P w1=.ok ⟨p⟩ w1)->
        ∃l v' w',(Builtin.append_ ⟨t::ts⟩ ty ⟨[.slice I len cap,y']⟩).run P w=.ok v' w'/\aX (dx σ h.next (some l)) (.slice (some ⟨h.next,0,none⟩) (len+n) sz) v'/\
         cM (dx σ h.next (some l)) (dx g h.next (some (.cells false (dy++new)))) w'/\Ev σ g h.next w (dx σ h.next (some l)) (dx g h.next (some (.cells false (dy++new)))) (h.next+1) w':=by
       intro g dy p sg al b6 dd U hold;obtain⟨cp,b7,hr⟩:=ar.grow _ _ p o hz hb dd c6 b1 ac hold;have df:(Builtin.zeroCells z.cells (cp-(len+n))).toList.length=(cp-(len+n))*sz:=by simp[Builtin.zeroCells,c8]
       have dk:p.length=len*sz:=by rw[al.length,b6]
       have dq:o.length=n*sz:=by omega
       have b9:(p++o++(Builtin.zeroCells z.cells (cp-(len+n))).toList).length=cp*sz:=by
        simp only[sj,df,dk,dq];rw[<-TO,<-TO];congr 1;omega
       have ca:∀b,b<w.heap.size->(w.drew.alloc (.cells ⟨p++o++(Builtin.zeroCells z.cells (cp-(len+n))).toList⟩ el)).heap[b]?=w.heap[b]?:=
        λb hb=>heap_alloc_old w.drew _ b hb
       refine⟨⟨w.heap.size,0,cp*sz⟩,_,_,hr,mM σ h.next w.heap.size (len+n) cp sz (cp*sz) b7 (by omega) (mc _),?_,?_⟩
       ·refine sg.alloc U rfl ca ⟨_,el,(0,0),heap_alloc_new w.drew _,b9,λ_=>rfl,?_,?_⟩
        ·show 0+(dy++new).length<=(p++o++(Builtin.zeroCells z.cells (cp-(len+n))).toList).length;rw[b9];simp only[sj,b6,a9];have:len*sz+n*sz=(len+n)*sz:=by rw[TO]
         have:=TG sz b7;omega
        ·have h3:=(al.app ao).mono (bD.u5 (l:=some ⟨w.heap.size,0,cp*sz⟩) U);simp only[Vg];have h4:(dy++new).length=(p++o).length:=by rw[<-(al.app ao).length]
         rw[h4,VO];exact h3
       ·exact Ev.alloc rfl (by simp) ca rfl rfl ⟨rfl,VW _⟩ _
      cases base with
      | none=>
       obtain⟨rfl,rfl,rfl⟩:=b2 rfl;simp only[sw,Tk] at e;obtain⟨rfl,rfl⟩:=e;have U:=hf h.next (mc _) (by simp)
       obtain⟨l,v',w',q1,q2,q3,q4⟩:=fresh h.get [] [] s rfl (by simp) (by omega) U (λw1 _=>by simp[Builtin.firstCells]);refine⟨_,v',w',q1,by simpa using q2,?_,?_⟩
       ·rw[au.iu];exact q3
       ·rw[au.iu];exact q4
      | some a=>
       obtain⟨b,off,sp⟩:=a;cases sp with
       | some sp=>simp at e
       | none=>
        obtain⟨l,a',eg,hl,_,hq,em,h0,ba⟩:=hx;cases hq;simp only at e;cases bb:(c==0) with
        | true=>
         simp only[bb,xf] at e;cases bc:(len==0) with
         | false=>simp[bc] at e
         | true=>
          simp only[bc,xf,sw,Tk] at e;obtain⟨rfl,rfl⟩:=e;have e3:cap=0:=h0 (by simpa using bb);have d1:len=0:=by simpa using bc
          subst d1;have U:=hf h.next (mc _) (by simp)
          obtain⟨l2,v',w',q1,q2,q3,q4⟩:=fresh h.get [] [] s rfl (by simp) (by omega) U (λw1 _=>by simp[Builtin.firstCells,loadCells,loadCellsFrom]);refine⟨_,v',w',q1,by simpa using q2,?_,?_⟩
          ·rw[au.iu];exact q3
          ·rw[au.iu];exact q4
        | false=>
         simp only[bb,zm] at e;cases bd:(c==sz) with
         | false=>simp[bd] at e
         | true=>
          simp only[bd,Uz,zm] at e;have cn:c=sz:=by simpa using bd
          subst cn;split at e
          ·rename_i cs hblk;split at e
           ·rename_i dy hold;simp only[sw,Tk] at e;obtain⟨rfl,rfl⟩:=e;have U:=hf h.next (mc _) (by simp)
            have an:σ b=some l:=hl;have e5:b<h.next:=hw b _ hblk
            obtain⟨d2,a2⟩:=fH hold;have ae:((h.put b none).alloc (.cells false (dy++new))).get=dx (dx h.get b none) h.next (some (.cells false (dy++new))):=by
             rw[au.iu,au.eF];rfl
            have cr:cM σ (dx h.get b none) w:=s.sub λi B hi=>by
             by_cases ax:i=b
             ·subst ax;rw[cu] at hi;cases hi
             ·rw[dB _ _ ax] at hi;exact hi
            obtain⟨arr,a3,fr,g1,g2,g3,g4,g5⟩:=s.cells hblk an;obtain rfl:=g3 rfl;obtain⟨p,al,d3,bf⟩:∃p,aV σ dy p/\(cap≠0->p=((arr.toList.drop (l.off+off)).take (len*c)))/\
              (∀w1:World,w1.heap=w.heap->(Builtin.firstCells c len (.slice (some a') len cap)).run P w1=.ok ⟨p⟩ w1):=by
             have a4:jf h c len (.slice (some ⟨b,off,none⟩) len c)=some dy:=by
              by_cases hz:len=0
              ·subst hz;simp[jf,d2]
              ·have d4:(len==0)=false:=by simpa using hz
               simp only[jf,d4,zm,kO,hblk];exact hold
             obtain⟨o',p1,p2⟩:=AE (P:=P) s (x:=.slice (some ⟨b,off,none⟩) len c) (x':=.slice (some a') len cap) ⟨l,a',cap,hl,rfl,rfl,hle,h0,ba⟩ (λ_ _ _ _=>rfl) (m:=len) rfl (mc _) a4;refine⟨o',p1,λaf=>?_,p2⟩;obtain⟨rfl,R⟩:=ba af;have d5:o'.length=len*c:=by rw[p1.length,a2]
             have ct:=run_loadCells_list (P:=P) w ⟨l.bQ,l.off+off,none⟩ ((arr.toList.drop (l.off+off)).take (len*c)) (λj v hj=>by
              have d6:j<len*c:=by
               have:=(No.1 hj).1;simp only[Tg] at this;omega
              rw[iQ,cell_of_row w l.bQ _ arr a3 (0,0) g1];rw[Tv,n0 d6,Tu] at hj;rw[<-TK];exact hj)
             have d7:((arr.toList.drop (l.off+off)).take (len*c)).length=len*c:=by
              simp only[Tg,Vh,UO];have hm:=TG c hle;dsimp only at R;omega
             rw[d7] at ct;have:=p2 w rfl;simp only[Builtin.firstCells] at this;rw[ct] at this;cases this;rfl
            by_cases R:len+n<=cap
            ·
             have af:cap≠0:=by omega
             obtain⟨rfl,d8⟩:=ba af;dsimp only at d8;obtain rfl:=d3 af;have hmul:(len+n)*c<=cap*c:=TG c R;have eo:(len+n)*c=len*c+n*c:=TO _ _ _;have d9:=run_storeCells_at P l.bQ (l.off+off+len*c) a3 o 0 arr w g1 (by omega) (Eh ao c5);have bo:=ar.room _ o R (ac w rfl)
              (by simp only[iQ];exact d9)
             have a6:∀k,k≠l.bQ->(w.setRow l.bQ (arr.toList.take (l.off+off+len*c+0)++o++arr.toList.drop (l.off+off+len*c+0+o.length)).toArray).heap[k]?=w.heap[k]?:=
              λk hk=>setRow_other w l.bQ k _ hk
             have av:=setRow_heap w l.bQ arr (arr.toList.take (l.off+off+len*c+0)++o++arr.toList.drop (l.off+off+len*c+0+o.length)).toArray a3 (0,0) g1;have a7:(arr.toList.take (l.off+off+len*c+0)++o++arr.toList.drop (l.off+off+len*c+0+o.length)).length=arr.size:=by
              simp;omega
             refine⟨dx σ h.next (some ⟨l.bQ,l.off+off,l.size⟩),_,_,bo,?_,?_,?_⟩
             ·refine⟨_,_,cap,cu _ _ _,rfl,rfl,R,h0,λ_=>⟨by simp,?_⟩⟩;dsimp only;omega
             ·rw[ae];constructor
              ·intro j B hB;by_cases hj:j=h.next
               ·subst hj;rw[cu] at hB;cases hB;refine⟨_,cu _ _ _,_,a3,(0,0),av,by simpa [g2] using a7,λ_=>rfl,?_,?_⟩
                ·simp only[sj,a2,a9];show l.off+off+(len*c+n*c)<=(arr.toList.take (l.off+off+len*c+0)++o++arr.toList.drop (l.off+off+len*c+0+o.length)).length;rw[a7];omega
                ·have h3:=(al.app ao).mono (bD.u5 (l:=some ⟨l.bQ,l.off+off,l.size⟩) U);have cv:((arr.toList.take (l.off+off+len*c+0)++o++arr.toList.drop (l.off+off+len*c+0+o.length)).drop (l.off+off)).take (dy++new).length =
                   (arr.toList.drop (l.off+off)).take (len*c)++o:=by
                  apply Tn;intro q;have t1:(arr.toList.take (l.off+off+len*c+0)).length=l.off+off+len*c:=by simp;omega
                  have t2:((arr.toList.drop (l.off+off)).take (len*c)).length=len*c:=by simp;omega
                  have t3:(dy++new).length=len*c+n*c:=by simp[a2,a9]
                  have t4:o.length=n*c:=by omega
                  by_cases hq:q<len*c+n*c
                  ·rw[Tv,t3,n0 hq,Tu,By];by_cases ea:q<len*c
                   ·rw[AT (l₁:=arr.toList.take _) (by omega),AT (l₁:=(arr.toList.drop _).take _) (by omega)];simp only[Tv,Tu];rw[n0 (by omega),n0 ea]
                   ·rw[OF (l₁:=arr.toList.take _) (by omega),OF (l₁:=(arr.toList.drop _).take _) (by omega),t1,t2,
                     AT (by omega)]
                    congr 1;omega
                  ·rw[zE (by rw[Tg,t3];omega),zE (by rw[sj,t2,t4];omega)]
                 simp only[cv];exact h3
               ·rw[dB _ _ hj] at hB;by_cases J:j=b
                ·subst J;rw[cu] at hB;cases hB
                ·rw[dB _ _ J] at hB;obtain⟨m,hm,r⟩:=s.bQ j B hB;exact⟨m,by rw[dB _ _ hj];exact hm,(r.mono (bD.u5 U)).world (a6 _ (s.inj j b B _ m l hB hblk J (.inr rfl) hm an))⟩
              ·intro j k B D lj lk hB hD eb bs bt a5;have key:∀j B lj,dx (dx h.get b none) h.next (some (.cells false (dy++new))) j=some B->dx σ h.next (some ⟨l.bQ,l.off+off,l.size⟩) j=some lj->j≠h.next->
                 h.get j=some B/\σ j=some lj/\j≠b:=by
                intro j B lj h1 h2 hj;rw[dB _ _ hj] at h1 h2;by_cases J:j=b
                ·subst J;rw[cu] at h1;cases h1
                ·rw[dB _ _ J] at h1;exact⟨h1,h2,J⟩
               by_cases hj:j=h.next
               ·obtain⟨p1,p2,p3⟩:=key k D lk hD a5 (by omega);subst hj;rw[cu] at bt;cases bt;exact(s.inj k b D _ lk l p1 hblk p3 (.inr rfl) p2 an).symm
               ·obtain⟨p1,p2,p3⟩:=key j B lj hB bt hj;by_cases hk:k=h.next
                ·subst hk;rw[cu] at a5;cases a5;exact s.inj j b B _ lj l p1 hblk p3 (.inr rfl) p2 an
                ·obtain⟨p4,p5,p6⟩:=key k D lk hD a5 hk;exact s.inj j k B D lj lk p1 p4 eb bs p2 p5
             ·rw[ae];refine⟨by simp,rfl,rfl,.rfl,λk _ hk=>a6 k (Ne.symm (hk b _ l hblk rfl an)),?_,λi hi=>dB _ _ (by simp at hi;omega)⟩;intro j B m hB bs hm;by_cases hj:j=h.next
              ·subst hj;rw[cu] at hm;cases hm;exact .inr ⟨b,_,l,hblk,rfl,an,rfl⟩
              ·rw[dB _ _ hj] at hB hm;by_cases J:j=b
               ·subst J;rw[cu] at hB;cases hB
               ·rw[dB _ _ J] at hB;exact .inr ⟨j,B,m,hB,bs,hm,rfl⟩
            ·obtain⟨l2,v',w',q1,q2,q3,q4⟩:=fresh (dx h.get b none) dy p cr al a2 (by omega) U bf;refine⟨_,v',w',q1,q2,?_,?_⟩
             ·rw[ae];exact q3
             ·rw[ae];refine⟨q4.size,q4.os,q4.out,q4.tape,λk hk hn=>q4.oL k hk λi B li hi hr hs=>?_,λi B li hi hr hs=>?_,q4.sig⟩
              ·by_cases ax:i=b
               ·subst ax;rw[cu] at hi;cases hi
               ·rw[dB _ _ ax] at hi;exact hn i B li hi hr hs
              ·rcases q4.own i B li hi hr hs with h1 | ⟨j,D,m,h1,h2,h3,h4⟩
               ·exact .inl h1
               ·by_cases J:j=b
                ·subst J;rw[cu] at h1;cases h1
                ·rw[dB _ _ J] at h1;exact .inr ⟨j,D,m,h1,h2,h3,h4⟩
           ·cases e
          ·cases e
   ·cases e
  ·cases e
 ·cases e
end
end Go.Abs
/-
 Soundness,thirteenth part: copy,clear;operations as a whole.
-/
namespace Go.Abs
open Go
section
variable {C:Ctx}{P:Program}
theorem NJ(ok:C.Ok P){σ:bD}{h r:au}{w:World}(s:cM σ h.get w){t:TypeId}{ts:List TypeId}(ty:TypeId){x x' y o v:Value}(hx:aX σ x x')(hy:aX σ y o)
  (e:E2 C h t x y=some (v,r)) :
  ∃v' I,(Builtin.copy_ ⟨t::ts⟩ ty ⟨[x',o]⟩).run P w=.ok v' I/\r.next=h.next/\aX σ v v'/\cM σ r.get I/\Ev σ h.get h.next w σ r.get r.next I:=by
 have a0:(⟨t::ts⟩:Array TypeId)[0]?=some t:=rfl;unfold E2 at e;split at e;{rename_i el base dl c n hu J;split at e;{rename_i sz hs;split at e;{rename_i new i;cases j:new.all one with| false=>{simp only[j,UK,xf] at e;cases e}| true=>{simp only[j,Uz,zm] at e;have p:=E9 (P:=P) w hy J;obtain⟨R,q1,q2⟩:=AE (P:=P) s hy (λ_ _ _ _=>rfl) J (Nat.min_le_left n dl) i;cases base with| none=>{obtain⟨rfl,rfl,rfl⟩:=hx;simp only[sw,Tk] at e;obtain⟨rfl,rfl⟩:=e;refine⟨_,w,?_,rfl,rfl,s,Ev.refl _ _ _ _⟩;have U:(⟨[.slice none 0 0,o]⟩:Array Value)[0]?=some (.slice none 0 0):=rfl;have b1:(⟨[.slice none 0 0,o]⟩:Array Value)[1]?=some o:=rfl;simp only[Builtin.copy_,a0,U,b1,Sem.run_bind,run_underlying (aQ ok hu),Result.andThen_ok,p,bV ok hs,q2 w rfl,Sem.run_pure];rfl}| some a=>{obtain⟨b,off,sp⟩:=a;cases sp with| some sp=>{simp at e}| none=>{obtain⟨l,a',cap,hl,_,rfl,hle,h0,ad⟩:=hx;have U:(⟨[.slice (some a') dl cap,o]⟩:Array Value)[0]?=some (.slice (some a') dl cap):=rfl;have b1:(⟨[.slice (some a') dl cap,o]⟩:Array Value)[1]?=some o:=rfl;simp only at e;cases g:new.isEmpty with| true=>{simp only[g,xf,sw,Tk] at e;obtain⟨rfl,rfl⟩:=e;have hn:new=[]:=by{simpa using g};subst hn;have ae:R=[]:=q1;subst ae;refine⟨_,w,?_,rfl,rfl,s,Ev.refl _ _ _ _⟩;simp only[Builtin.copy_,a0,U,b1,Sem.run_bind,run_underlying (aQ ok hu),Result.andThen_ok,p,bV ok hs,q2 w rfl,Sem.run_pure,storeCells];rfl}| false=>{simp only[g,zm] at e;split at e;{rename_i cs hblk;cases hc:Nat.ble (off+new.length) cs.length with| false=>{simp only[hc,zm] at e;cases e}| true=>{simp only[hc,xf,sw,Tk] at e;obtain⟨rfl,rfl⟩:=e;have ay:dl≠0:=by{intro hd;subst hd;have:Nat.min n 0=0:=Nat.min_zero n;rw[this] at i;unfold jf at i;split at i;{cases i;cases g};{simp only[beq_self_eq_true,xf,sw] at i;subst i;cases g};{cases i;simp at g};{cases i}};obtain⟨rfl,_⟩:=ad (by omega);have ag:σ b=some l:=hl;obtain⟨I,p1,p2,p3⟩:=vX (P:=P) (off:=off) s hblk ag q1 j (TH hc) h.next;refine⟨_,I,?_,rfl,rfl,by rw[au.eF];exact p2,by rw[au.eF];exact p3⟩;simp only[Builtin.copy_,a0,U,b1,Sem.run_bind,run_underlying (aQ ok hu),Result.andThen_ok,p,bV ok hs,q2 w rfl,p1,Sem.run_pure];rfl}};{cases e}}}}}};{cases e}};{cases e}};{cases e}
theorem LV(ok:C.Ok P){σ:bD}{h g:au}{w:World}(s:cM σ h.get w){t:TypeId}{ts:List TypeId}(ty:TypeId){x x':Value}(o:aX σ x x')(e:pI C h t x=some g) :
  ∃i,(Builtin.clear_ ⟨t::ts⟩ ty ⟨[x']⟩).run P w=.ok bX i/\g.next=h.next/\cM σ g.get i/\Ev σ h.get h.next w σ g.get g.next i:=by
 have a0:(⟨t::ts⟩:Array TypeId)[0]?=some t:=rfl;have p:(⟨[x']⟩:Array Value)[0]?=some x':=rfl;unfold pI at e;split at e;{rename_i el n c hu;cases e;obtain⟨rfl,rfl,rfl⟩:=o;refine⟨w,?_,rfl,s,Ev.refl _ _ _ _⟩;simp only[Builtin.clear_,a0,p,Sem.run_bind,run_underlying (aQ ok hu),Result.andThen_ok,Sem.run_pure];rfl};{rename_i a c _ _;have hu:=‹C.iL t=some (TypeDesc.slice _)›;cases e;refine⟨w,?_,rfl,s,Ev.refl _ _ _ _⟩;cases a with| none=>{obtain⟨_,rfl,rfl⟩:=o;simp only[Builtin.clear_,a0,p,Sem.run_bind,run_underlying (aQ ok hu),Result.andThen_ok,Sem.run_pure];rfl}| some a=>{obtain⟨l,a',cap,_,_,rfl,_⟩:=o;simp only[Builtin.clear_,a0,p,Sem.run_bind,run_underlying (aQ ok hu),Result.andThen_ok,Sem.run_pure];rfl}};{rename_i el b off n c hn hu;split at e;{rename_i z cs U hblk;cases j:((dH z.cells.toList n).all one&&Nat.ble (off+(dH z.cells.toList n).length) cs.length) with| false=>{simp only[j,zm] at e;cases e}| true=>{simp only[j,xf,sw] at e;subst e;simp only[tx,Ve] at j;obtain⟨l,a',cap,hl,_,rfl,hle,h0,r⟩:=o;have ad:n≠0:=λh=>hn h;obtain⟨rfl,_⟩:=r (by omega);have I:σ b=some l:=hl;have J:=ij ok U;obtain⟨i,p1,p2,p3⟩:=vX (P:=P) (off:=off) s hblk I (dz σ _ (jW (gq J) n)) j.1 j.2 h.next;refine⟨i,?_,rfl,by rw[au.eF];exact p2,by rw[au.eF];exact p3⟩;have R:(Builtin.zeroCells z.cells n).toList=dH z.cells.toList n:=yg z.cells n;obtain⟨m,rfl⟩:∃m,n=m+1:=⟨n-1,by omega⟩;simp only[Builtin.clear_,a0,p,Sem.run_bind,run_underlying (aQ ok hu),Result.andThen_ok,Sem.run_pure,eN ok U,R,p1];rfl}};{cases e}};{cases e}
end
end Go.Abs
/-
 Soundness,fourteenth part: one operation.
-/
namespace Go.Abs
open Go
section
variable {C:Ctx}{P:Program}
def QU(r:Result Next)(v':Value)(g:World):Prop:=r=.ok (.value v') g\/(r=.ok .skip g/\v'=undef)
abbrev yz(σ:bD)(ρ:Operand->Option Value)(g:Operand->Value):Prop:=∀x v,ρ x=some v->aX σ v (g x)
theorem oi{σ:bD}{ρ:Operand->Option Value}{g:Operand->Value}(i:yz σ ρ g):∀(xs:List Operand) (vs:List Value),dm ρ xs=some vs->aV σ vs (xs.map g)
 | [],vs,e=>by cases e;rfl
 | x::xs,vs,e=>by{unfold dm at e;split at e;{rename_i v j h1 l;cases e;exact⟨_,_,rfl,i x v h1,oi i xs j l⟩};{cases e}}
theorem AQ{σ:bD}{ρ:Operand->Option Value}{g:Operand->Value}(j:yz σ ρ g):∀(xs:List (Nat×Operand)) (vs:List (Nat×Value)),fC ρ xs=some vs->
  (xs.map (λ(i,x)=>(i,g x))).map (·.1)=vs.map (·.1)/\aV σ (vs.map (·.2)) ((xs.map (λ(i,x)=>(i,g x))).map (·.2))
 | [],vs,e=>by cases e;exact⟨rfl,rfl⟩
 | (i,x)::xs,vs,e=>by{unfold fC at e;split at e;{rename_i v l h1 o;cases e;obtain⟨a,b⟩:=AQ j xs l o;exact⟨by simp only[y2,a],⟨_,_,rfl,j x v h1,b⟩⟩};{cases e}}
theorem GZ{σ:bD}{ρ:Operand->Option Value}{g:Operand->Value}(i:yz σ ρ g){x:Option Operand}{v:Option Value}(e:mC ρ x=some v):Du σ v (x.map g):=by
 cases x with| none=>{cases e;trivial}| some x=>{simp only[mC] at e;cases h:ρ x with| none=>{simp[h] at e}| some y=>{simp[h] at e;subst e;exact i x y h}}
theorem A5(ok:C.Ok P){σ:bD}(w:World){x x' v:Value}{t:TypeId}{b:Bool}(r:aX σ x x')(J:TypeId)(e:ke C x t b=some v) :
  ∃v',(Instr.typeAssert x' J t b).run P w=.ok v' w/\aX σ v v':=by
 unfold ke at e;split at e;{cases e};{rename_i d R;have hu:=aQ ok R;cases hi:z7 d with| true=>{simp[hi] at e}| false=>{simp only[hi,zm] at e;have zero:∀{y:Value},(C.zero t).map (λz=>Value.tuple ⟨[z,.bool false]⟩)=some y->∃z,C.zero t=some z/\y=.tuple ⟨[z,.bool false]⟩/\aX σ y (.tuple #[z,.bool false]):=by{intro y h;cases g:C.zero t with| none=>{rw[g] at h;cases h}| some z=>{rw[g] at h;simp only[Tq,sw] at h;subst h;refine⟨z,rfl,rfl,[z,.bool false],rfl,z,_,rfl,gD σ z (ij ok g),?_⟩;exact⟨.bool false,[],rfl,rfl,rfl⟩}};split at e;{rename_i I u;obtain⟨l,rfl,i⟩:=r;cases j:Nat.beq I t with| true=>{obtain rfl:=Mr j;simp only[j,xf,sw] at e;subst e;cases b with| true=>{refine⟨.tuple #[l,.bool true],?_,[l,.bool true],rfl,l,_,rfl,i,.bool true,[],rfl,rfl,rfl⟩;cases d<;>first | (cases hi;done) | simp[Instr.typeAssert,run_underlying hu]}| false=>{refine⟨l,?_,i⟩;cases d<;>first | (cases hi;done) | simp[Instr.typeAssert,run_underlying hu]}}| false=>{have o:¬I=t:=λh=>by{subst h;rw[UX] at j;cases j};simp only[j,zm] at e;cases b with| false=>{simp at e}| true=>{simp only[xf] at e;obtain⟨z,g,rfl,p⟩:=zero e;refine⟨_,?_,p⟩;cases d<;>first | (cases hi;done) | simp[Instr.typeAssert,run_underlying hu,o,eN ok g]}}};{obtain rfl:=(show x'=_ from r);cases b with| false=>{simp at e}| true=>{simp only[xf] at e;obtain⟨z,g,rfl,p⟩:=zero e;refine⟨_,?_,p⟩;cases d<;>first | (cases hi;done) | simp[Instr.typeAssert,run_underlying hu,eN ok g]}};{cases e}}}
theorem JO:∃n,P.types.size+Made.depth=n+1:=by
 have h:0<Made.depth:=by{decide};exact⟨P.types.size+Made.depth-1,by omega⟩
theorem qi{t:TypeId}{v' r:Value}{name:String}{f:FuncId}{g:List Value}{w:World}
  (j:∀n,(method (n+1) t v' name).run P w=.ok (f,r) w) (i:(callFunc f ⟨r::g⟩).run P w=.ok (.enter f ⟨r::g⟩) w) :
  (callMethod (.iface t v') name ⟨g⟩).run P w=.ok (.enter f ⟨r::g⟩) w:=by
 obtain⟨n,l⟩:=JO (P:=P);have hp:(program).run P w=.ok P w:=rfl;have hm:=j n;rw[<-l] at hm;unfold callMethod;simp only[Sem.run_bind,hp,Result.andThen_ok,hm];rw[show (#[r]++⟨g⟩:Array Value)=⟨r::g⟩ by apply UW;simp];exact i
theorem zZ{t:TypeId}{v' r:Value}{name:String}{f:FuncId}{pr:Bool}{i:TypeInfo}{m:Method}{w:World}(g:(typeInfo t).run P w=.ok i w)(hm:i.methods.find? (·.name==name)=some m)(hp:m.path.isEmpty=true)(l:m.func=some (f,pr))
  (o:∀x,(receiverAt t (.val v') pr (some x)).run P w=.ok r w) (n:Nat):(method (n+1) t v' name).run P w=.ok (f,r) w:=by
 have j:m.path.toList=[]:=by
  cases m with | mk a b p c=>
  cases p with | mk p=>cases p<;>first | rfl | (simp at hp)
 unfold method;simp only[Sem.run_bind,g,Result.andThen_ok,hm,j,follow,Sem.run_pure,l,hp,TY,o]
theorem JJ(ok:C.Ok P){σ:bD}{w:World}{h:au}(s:cM σ h.get w){x x' recv:Value}{name:String}{f:FuncId}(hx:aX σ x x')(e:jS C h x name=some (f,recv)){fn:Func}(r:C.func f=some fn)(hb:fn.body.isSome=true)(I:List Value) :
  ∃j,aX σ recv j/\(callMethod x' name ⟨I⟩).run P w=.ok (.enter f ⟨j::I⟩) w:=by
 unfold jS at e;split at e;{rename_i t v;obtain⟨v',rfl,R⟩:=hx;split at e;{rename_i i d hi hd;have hu:=aQ ok hd;have J:(typeInfo t).run P w=.ok i w:=by{simp[typeInfo,ok.info t i hi]};split at e;{rename_i m hm;cases hp:m.path.isEmpty with| false=>{simp[hp] at e}| true=>{simp only[hp,xf] at e;split at e;{rename_i g el o;simp only[sw,Tk] at e;obtain⟨rfl,rfl⟩:=e;refine⟨v',R,qi (zZ J hm hp o λx=>?_) (ok.call _ fn r hb _ w)⟩;unfold receiverAt;simp only[Sem.run_bind,run_underlying hu,Result.andThen_ok,Place.get,Sem.run_pure]};{rename_i g el o;cases p:nq C h el v with| none=>{rw[p] at e;cases e}| some y=>{rw[p] at e;simp only[Tq,sw,Tk] at e;obtain⟨rfl,rfl⟩:=e;obtain⟨y',q1,q2⟩:=DT (P:=P) ok s R p (λ_ _=>rfl);refine⟨y',q2,?_⟩;obtain⟨a,rfl⟩:∃a,v'=.pointer (some a):=by{unfold nq at p;split at p;{obtain⟨l,_,_,rfl⟩:=R;exact⟨_,rfl⟩};{cases p}};have U:(loadVar el a).run P w=.ok y' w:=by{simpa [Instr.loadAt,Instr.sureAddr] using q1};refine qi (zZ J hm hp o λx=>?_) (ok.call _ fn r hb _ w);have hw:(Builtin.ssaWrapNilChk_ #[t] t #[.pointer (some a),strVal "",strVal x]).run P w=.ok (.pointer (some a)) w:=rfl;unfold receiverAt;simp only[Sem.run_bind,run_underlying hu,Result.andThen_ok,Place.get,Sem.run_pure,hw,asAddr,U]}};{cases e}}};{cases e}};{cases e}};{cases e}
theorem lQ(ok:C.Ok P){ρ:Operand->Option Value}{h:au}{o:Oper}{r:Af}(hs:cy o.op=true)(e:aW C ρ h o.op=some r) :
  ∃v,r=.val v h/\∀(p:Operand->Value) (σ:bD) (g:Nat->Option aJ) (w:World),cM σ g w->yz σ ρ p->(∀b∈bJ ρ o.op,g b=h.get b)->
   ∃v',(execOp p o).run P w=.ok (.value v') w/\aX σ v v':=by
 have val:∀{x:Option Value},(x.map λv=>Af.val v h)=some r->∃v,x=some v/\r=.val v h:=by
  intro x J;cases x with
  | none=>cases J
  | some v=>exact⟨v,rfl,by simpa using J.symm⟩
 cases I:o.op with
 | move x=>
  rw[I] at e;obtain⟨v,h1,rfl⟩:=val e;exact⟨v,rfl,λp σ g w s j _=>⟨p x,by simp[execOp,I],j x v h1⟩⟩
 | assign x=>
  rw[I] at e;obtain⟨v,h1,rfl⟩:=val e;exact⟨v,rfl,λp σ g w s j _=>⟨p x,by simp[execOp,I],j x v h1⟩⟩
 | pick c a b=>
  rw[I] at e;simp only[aW] at e;split at e
  ·rename_i hc;obtain⟨v,h1,rfl⟩:=val e;refine⟨v,rfl,λp σ g w s j _=>⟨p a,?_,j a v h1⟩⟩;have:=j c _ hc;simp[execOp,I,show p c=.bool true from this,asBool]
  ·rename_i hc;obtain⟨v,h1,rfl⟩:=val e;refine⟨v,rfl,λp σ g w s j _=>⟨p b,?_,j b v h1⟩⟩;have:=j c _ hc;simp[execOp,I,show p c=.bool false from this,asBool]
  ·cases e
 | build t ps=>
  rw[I] at e;simp only[aW] at e;split at e
  ·rename_i a4 hp;obtain⟨v,h1,rfl⟩:=val e;refine⟨v,rfl,λp σ g w s j _=>?_⟩;obtain⟨q1,q2⟩:=AQ j ps.toList a4 hp;obtain⟨v',r1,r2⟩:=KR (parts':=ps.map λ(i,x)=>(i,p x)) ok w (by simpa using q1) (by simpa using q2) h1;exact⟨v',by simp[execOp,I,r1],r2⟩
  ·cases e
 | load t a=>
  rw[I] at e;simp only[aW] at e;split at e
  ·rename_i x J;obtain⟨v,h1,rfl⟩:=val e;refine⟨v,rfl,λp σ g w s j R=>?_⟩;obtain⟨v',r1,r2⟩:=DT ok s (j a x J) h1 (λy hy=>R _ (by simp[bJ,J,hy]));exact⟨v',by simp[execOp,I,r1],r2⟩
  ·cases e
 | nilCheck x=>
  rw[I] at e;simp only[aW] at e;split at e
  ·rename_i a J;obtain⟨v,h1,rfl⟩:=val e;cases h1;refine⟨_,rfl,λp σ g w s j _=>?_⟩;obtain⟨l,h1,U,h3⟩:=j x _ J;refine⟨_,?_,⟨l,h1,U,h3⟩⟩;simp[execOp,I,h3]
  ·rename_i f xs ys J;obtain⟨v,h1,rfl⟩:=val e;cases h1;cases xs with | mk xs=>
   cases ys with | mk ys=>
   refine⟨_,rfl,λp σ g w s j _=>?_⟩;obtain⟨a,b,h1,U⟩:=j x _ J;refine⟨_,?_,⟨a,b,h1,U⟩⟩;simp[execOp,I,h1]
  ·cases e
 | binOp op t x y yt=>
  rw[I] at e;simp only[aW] at e;split at e
  ·rename_i a b J hy;obtain⟨v,h1,rfl⟩:=val e;refine⟨v,rfl,λp σ g w s j R=>?_⟩;obtain⟨r1,r2,r3⟩:=OM ok s (j x a J) (j y b hy) (λz hz=>R _ (by simp[bJ,J,hz])) (λz hz=>R _ (by simp[bJ,hy,hz])) h1;exact⟨v,by simp[execOp,I,r1,r2],gD σ v r3⟩
  ·cases e
 | unOp op t x=>
  rw[I] at e;simp only[aW] at e;split at e
  ·rename_i a J;obtain⟨v,h1,rfl⟩:=val e;refine⟨v,rfl,λp σ g w s j R=>?_⟩;obtain⟨r1,r3⟩:=PS (P:=P) w (j x a J) h1;exact⟨v,by simp[execOp,I,r1],gD σ v r3⟩
  ·cases e
 | convert sr d x=>
  rw[I] at e;simp only[aW] at e;split at e
  ·rename_i a J;obtain⟨v,h1,rfl⟩:=val e;refine⟨v,rfl,λp σ g w s j R=>?_⟩;unfold Ay at h1;split at h1
   ·rename_i ds k k2 n hs hd;cases h1;have:=j x _ J;refine⟨_,?_,rfl⟩;have:p x=.int k2 n:=this;simp[execOp,I,this,convert,run_underlying (aQ ok hs),run_underlying (aQ ok hd),Conv.intToInt]
   ·cases h1
  ·cases e
 | makeInterface t x=>
  rw[I] at e;simp only[aW] at e;split at e
  ·rename_i a d J hu;split at e
   ·cases e
   ·rename_i hd;obtain⟨v,h1,rfl⟩:=val e;cases h1;refine⟨_,rfl,λp σ g w s j R=>⟨.iface t (p x),?_,⟨_,rfl,j x a J⟩⟩⟩;have:(Instr.makeInterface t (p x)).run P w=.ok (.iface t (p x)) w:=by
     simp only[Instr.makeInterface,Sem.run_bind,run_underlying (aQ ok hu),Result.andThen_ok]
     try cases d<;>first | rfl | exact absurd rfl (hd _)
    simp[execOp,I,this]
  ·cases e
 | makeFunc fn xs ys=>
  rw[I] at e;simp only[aW] at e;split at e
  ·rename_i a b J hy;obtain⟨v,h1,rfl⟩:=val e;cases h1;refine⟨_,rfl,λp σ g w s j R=>⟨.func fn (xs.map p) (ys.map p),by simp[execOp,I,Instr.makeFunc],⟨xs.toList.map p,ys.toList.map p,?_,oi j _ _ J,oi j _ _ hy⟩⟩⟩;congr 1<;>(apply UW;simp)
  ·cases e
 | slice t x lo hi mx=>
  rw[I] at e;simp only[aW] at e;split at e
  ·rename_i x' a7 a8 a9 h1 U h3 h4;obtain⟨v,h5,rfl⟩:=val e;refine⟨v,rfl,λp σ g w s j R=>?_⟩;obtain⟨v',r1,r2⟩:=Lb ok s (j x _ h1) (GZ j U) (GZ j h3) (GZ j h4) h5 (λz hz=>R _ (by simp[bJ,h1,hz]));exact⟨v',by simp[execOp,I,r1],r2⟩
  ·cases e
 | fieldAddr t x f=>
  rw[I] at e;simp only[aW] at e;split at e
  ·rename_i a J;obtain⟨v,h1,rfl⟩:=val e;refine⟨v,rfl,λp σ g w s j R=>?_⟩;obtain⟨v',r1,r2⟩:=DN ok w (j x a J) h1;exact⟨v',by simp[execOp,I,r1],r2⟩
  ·cases e
 | field t x f=>
  rw[I] at e;simp only[aW] at e;split at e
  ·rename_i a J;obtain⟨v,h1,rfl⟩:=val e;refine⟨v,rfl,λp σ g w s j R=>?_⟩;obtain⟨v',r1,r2⟩:=MB ok w (j x a J) h1;exact⟨v',by simp[execOp,I,r1],r2⟩
  ·cases e
 | indexAddr t x i=>
  rw[I] at e;simp only[aW] at e;split at e
  ·rename_i a b J hy;obtain⟨v,h1,rfl⟩:=val e;refine⟨v,rfl,λp σ g w s j R=>?_⟩;obtain⟨v',r1,r2⟩:=DP ok w (j x a J) (j i b hy) h1;exact⟨v',by simp[execOp,I,r1],r2⟩
  ·cases e
 | index t x i=>
  rw[I] at e;simp only[aW] at e;split at e
  ·rename_i a b J hy;obtain⟨v,h1,rfl⟩:=val e;refine⟨v,rfl,λp σ g w s j R=>?_⟩;obtain⟨v',r1,r2⟩:=MC ok w (j x a J) (j i b hy) h1;exact⟨v',by simp[execOp,I,r1],r2⟩
  ·cases e
 | lookup t x k b=>
  rw[I] at e;simp only[aW] at e;split at e
  ·rename_i m kk J hy;obtain⟨v,h1,rfl⟩:=val e;refine⟨v,rfl,λp σ g w s j R=>?_⟩;obtain⟨v',r1,r2⟩:=Kg ok s (j x m J) (j k kk hy) (λz hz=>R _ (by simp[bJ,J,hz])) h1;exact⟨v',by simp[execOp,I,r1],r2⟩
  ·cases e
 | extract x i=>
  rw[I] at e;simp only[aW] at e;split at e
  ·rename_i vs J;obtain⟨v,h1,rfl⟩:=val e;refine⟨v,rfl,λp σ g w s j R=>?_⟩;cases vs with | mk vs=>
   obtain⟨cs,U,h3⟩:=j x _ J;obtain⟨v',h4,h5⟩:=h3.get i v (by simpa using h1);refine⟨v',?_,h5⟩;have:(⟨cs⟩:Array Value)[i]?=some v':=by simpa using h4
   simp[execOp,I,U,Instr.extract,this]
  ·cases e
 | typeAssert x xt t b=>
  rw[I] at e;simp only[aW] at e;split at e
  ·rename_i a J;obtain⟨v,h1,rfl⟩:=val e;refine⟨v,rfl,λp σ g w s j R=>?_⟩;obtain⟨v',r1,r2⟩:=A5 (P:=P) ok w (j x a J) xt h1;exact⟨v',by simp[execOp,I,r1],r2⟩
  ·cases e
 | call c=>
  rw[I] at e hs;cases hc:c.callee with
  | invoke x m=>simp[cy,hc] at hs
  | value f=>simp[cy,hc] at hs
  | builtin b=>
   simp only[aW,hc] at e;split at e
   ·rename_i as has;have ae:∀(σ:bD) (p:Operand->Value),yz σ ρ p->∃aa,(c.args.map p)=⟨aa⟩/\aV σ as aa:=λσ p j=>
     ⟨c.args.toList.map p,by apply UW;simp,oi j _ _ has⟩
    have ay:∀{t:TypeId} {ts:List TypeId},c.argTypes.toList=t::ts->c.argTypes=⟨t::ts⟩:=λh=>by apply UW;simpa using h
    have hex:∃cs,∀(p:Operand->Value) (w:World),(execOp p o).run P w=(builtin b c.argTypes o.type cs (c.args.map p)).run P w:=
     ⟨_,λp w=>by simp only[execOp,I,resolve,hc,invoke,Sem.run_bind,Sem.run_pure,Result.andThen_ok];rfl⟩
    obtain⟨cs,hex⟩:=hex;simp only[cy,hc] at hs;cases b<;>first | (cases hs;done) | skip
    ·
     cases h1:c.argTypes.toList with
     | nil=>simp[bR,h1] at e
     | cons t ts=>
      rw[h1] at e;rcases as with _ | ⟨x,_ | ⟨y,as⟩⟩
      ·cases e
      ·simp only[bR] at e;cases U:MZ C t x with
       | none=>rw[U] at e;cases e
       | some v=>
        rw[U] at e;simp only[Tq,sw] at e;subst e;refine⟨v,rfl,λp σ g w s j R=>?_⟩;obtain⟨aa,q1,x',r,q2,q3,q4⟩:=ae σ p j;have:r=[]:=q4;subst this;subst q2;obtain⟨v',r1,r2⟩:=Pg ok w q3 ts o.type U;exact⟨v',by rw[hex,ay h1,q1];simp[builtin,r1],r2⟩
      ·cases e
    ·
     cases h1:c.argTypes.toList with
     | nil=>simp[bR,h1] at e
     | cons t ts=>
      rw[h1] at e;rcases as with _ | ⟨x,_ | ⟨y,as⟩⟩
      ·cases e
      ·cases ar:c.args.toList with
       | nil=>rw[ar] at has;cases has
       | cons ax bd=>
        simp only[bR] at e;cases U:G9 C h t x with
        | none=>rw[U] at e;cases e
        | some v=>
         rw[U] at e;simp only[Tq,sw] at e;subst e;refine⟨v,rfl,λp σ g w s j R=>?_⟩;obtain⟨aa,q1,x',r,q2,q3,q4⟩:=ae σ p j;have:r=[]:=q4;subst this;subst q2;have a0:ρ ax=some x:=by
          rw[ar] at has;unfold dm at has;split at has
          ·rename_i h3 h4;simp only[sw,T1] at has;rw[h3,has.1]
          ·cases has
         obtain⟨v',r1,r2⟩:=OU ok s q3 ts o.type U (λz hz=>R _ (by simp[bJ,hc,ar,a0,hz]));exact⟨v',by rw[hex,ay h1,q1];simp[builtin,r1],r2⟩
      ·cases e
    ·
     obtain⟨k,k',a,b,rfl,rfl⟩:∃k k' a b,as=[.int k a,.int k' b]/\r=.val (.int k (if b > a then b else a)) h:=by
      unfold bR at e;split at e<;>first | contradiction | (simp only[Tq,sw] at e;first | (cases e;done) | exact⟨_,_,_,_,rfl,e.symm⟩) | skip
     refine⟨_,rfl,λp σ g w s j R=>?_⟩;obtain⟨aa,q1,x',r,q2,q3,y',r2,q4,q5,q6⟩:=ae σ p j;have:r2=[]:=q6;subst this;subst q4;subst q2;obtain rfl:=(show x'=_ from q3);obtain rfl:=(show y'=_ from q5);exact⟨_,by rw[hex,q1];simp[builtin,Builtin.max_,Builtin.max2],rfl⟩
    ·
     have av:(∃k k' a b,as=[.int k a,.int k' b]/\r=.val (.int k (if b<a then b else a)) h)\/
       (∃k k' a2 a b d,as=[.int k a,.int k' b,.int a2 d]/\r=.val (.int k (if d<(if b<a then b else a) then d else (if b<a then b else a))) h):=by
      unfold bR at e;split at e<;>first
       | contradiction
       | (simp only[Tq,sw] at e;first | (cases e;done) | exact .inl ⟨_,_,_,_,rfl,e.symm⟩ | exact .inr ⟨_,_,_,_,_,_,rfl,e.symm⟩)
       | skip
     rcases av with ⟨k,k',a,b,rfl,rfl⟩ | ⟨k,k',a2,a,b,d,rfl,rfl⟩
     ·refine⟨_,rfl,λp σ g w s j R=>?_⟩;obtain⟨aa,q1,x',r,q2,q3,y',r2,q4,q5,q6⟩:=ae σ p j;have:r2=[]:=q6;subst this;subst q4;subst q2;obtain rfl:=(show x'=_ from q3);obtain rfl:=(show y'=_ from q5);exact⟨_,by rw[hex,q1];simp[builtin,Builtin.min_,Builtin.min2],rfl⟩
     ·refine⟨_,rfl,λp σ g w s j R=>?_⟩;obtain⟨aa,q1,x',r,q2,q3,y',r2,q4,q5,z',r3,q6,q7,q8⟩:=ae σ p j;have:r3=[]:=q8;subst this;subst q6;subst q4;subst q2;obtain rfl:=(show x'=_ from q3);obtain rfl:=(show y'=_ from q5);obtain rfl:=(show z'=_ from q7);exact⟨_,by rw[hex,q1];simp[builtin,Builtin.min_,Builtin.min2],rfl⟩
   ·cases e
 | _=>rw[I] at hs;cases hs
end
end Go.Abs
/-
 Soundness,fifteenth part: one operation that lays a block,stores,appends,or calls.
-/
namespace Go.Abs
open Go
section
variable {C:Ctx}{P:Program}
def KU(P:Program)(j:Operand->Value)(o:Oper)(σ:bD)(g:Nat->Option aJ)(n:Nat)(w:World)(b:aJ)(v:Value):Prop:=
 ∃l v' i,(execOp j o).run P w=.ok (.value v') i/\aX (dx σ n (some l)) v v'/\cM (dx σ n (some l)) (dx g n (some b)) i/\Ev σ g n w (dx σ n (some l)) (dx g n (some b)) (n+1) i/\
  l.bQ=w.heap.size/\i.heap.size=w.heap.size+1
theorem mR{i:Operand->Value}{o:Oper}{σ:bD}{g:Nat->Option aJ}{n:Nat}{w:World}{b:aJ}{v:Value}{j:Sem Value}
  (h:Lays P σ g n w b v j) (he:∀v' p,j.run P w=.ok v' p->(execOp i o).run P w=.ok (.value v') p):KU P i o σ g n w b v:=by
 obtain⟨l,v',p,r,q⟩:=h;exact⟨l,v',p,he v' p r,q⟩
theorem vT(ok:C.Ok P){ρ:Operand->Option Value}{h:au}{o:Oper}{r:Af}(hs:tW o.op=true)(e:aW C ρ h o.op=some r) :
  ∃v b,b.ro=false/\r=.val v (h.alloc b)/\∀(p:Operand->Value) (σ:bD) (g:Nat->Option aJ) (w:World),cM σ g w->σ h.next=none->yz σ ρ p->KU P p o σ g h.next w b v:=by
 cases J:o.op with| alloc t=>{rw[J] at e;simp only[aW] at e;split at e;{rename_i z hz;cases e;exact⟨_,_,rfl,rfl,λp σ g w s U I=>mR (K3 ok s U hz) λv' w' hr=>by simp[execOp,J,hr]⟩};{cases e}}| box t x=>{rw[J] at e;simp only[aW] at e;split at e;{rename_i y hy;cases e;exact⟨_,_,rfl,rfl,λp σ g w s U I=>mR (OA s U t (I x y hy)) λv' w' hr=>by simp[execOp,J,hr]⟩};{cases e}}| buildSlice t n ps=>{rw[J] at e;simp only[aW] at e;split at e;{rename_i ad hp;cases j:iI C h t n ad with| none=>{simp[j] at e}| some vh=>{obtain⟨v,h'⟩:=vh;simp[j] at e;subst e;obtain⟨b,R,hh,-⟩:∃b,b.ro=false/\h'=h.alloc b/\True:=by{unfold iI at j;split at j;{split at j;{rename_i n2 z a0 hz;cases hc:(Nat.ble (n*n2) 16777216&&Nat.blt 0 n2) with| false=>{simp only[hc,zm] at j;cases j}| true=>{simp only[hc,xf] at j;split at j;{cases j;exact⟨_,rfl,rfl,trivial⟩};{cases j}}};{cases j}};{cases j}};refine⟨v,b,R,by rw[hh],λp σ g w s U I=>?_⟩;obtain⟨q1,q2⟩:=AQ I ps.toList ad hp;obtain⟨b2,ar,ab,hl⟩:=Bg (parts':=ps.map λ(i,x)=>(i,p x)) (w:=w) ok s U (by simpa using q1) (by simpa using q2) j;have ac:b2=b:=by{have h1:(h.alloc b2).get h.next=(h.alloc b).get h.next:=by{rw[<-hh,<-ab]};simpa [au.eB] using h1};subst ac;exact mR hl λv' w' hr=>by simp[execOp,J,hr]}};{cases e}}| makeMap t x=>{rw[J] at e;cases x with| some x=>{cases e}| none=>{cases e;exact⟨_,_,rfl,rfl,λp σ g w s U I=>mR (Ia s U t) λv' w' hr=>by simp[execOp,J,hr]⟩}}| makeSlice t x y=>{rw[J] at e;simp only[aW] at e;split at e;{rename_i l c hx hy;cases j:jM C h t l c with| none=>{simp[j] at e}| some vh=>{obtain⟨v,h'⟩:=vh;simp[j] at e;subst e;obtain⟨b,R,hh,-⟩:∃b,b.ro=false/\h'=h.alloc b/\True:=by{unfold jM at j;split at j;{split at j;{split at j;{cases j;exact⟨_,rfl,rfl,trivial⟩};{cases j}};{cases j}};{cases j}};refine⟨v,b,R,by rw[hh],λp σ g w s U I=>?_⟩;obtain⟨b2,ar,ab,hl⟩:=DZ (w:=w) ok s U (I x l hx) (I y c hy) j;have ac:b2=b:=by{have h1:(h.alloc b2).get h.next=(h.alloc b).get h.next:=by{rw[<-hh,<-ab]};simpa [au.eB] using h1};subst ac;exact mR hl λv' w' hr=>by simp[execOp,J,hr]}};{cases e}}| _=>{rw[J] at hs;cases hs}
theorem eT(σ:bD):aX σ bX undef:=⟨[],rfl,rfl⟩
theorem jJ(ok:C.Ok P){ρ:Operand->Option Value}{h:au}{o:Oper}{r:Af}(hs:hZ o.op=true)(e:aW C ρ h o.op=some r) :
  ∃b cs,bJ ρ o.op=[b]/\r=.val bX (h.put b (some (.cells false cs)))/\(∃j,h.get b=some (.cells false j))/\
   ∀(l:Operand->Value) (σ:bD) (g:Nat->Option aJ) (w:World) (n:Nat),cM σ g w->yz σ ρ l->g b=h.get b->
   ∃I,(execOp l o).run P w=.ok .skip I/\cM σ (dx g b (some (.cells false cs))) I/\Ev σ g n w σ (dx g b (some (.cells false cs))) n I:=by
 cases U:o.op with| store t a x=>{rw[U] at e;simp only[aW] at e;split at e;{rename_i p v hp hv;cases i:vd C h t p v with| none=>{simp[i] at e}| some h'=>{simp[i] at e;subst e;obtain⟨b,off,j,cs,rfl,aa,hh⟩:∃b off j cs,p=.pointer (some ⟨b,off,none⟩)/\h.get b=some (.cells false j)/\h'=h.put b (some (.cells false cs)):=by{unfold vd at i;split at i;{rename_i b off;split at i;{rename_i cs sz hb ar;cases hc:(v.cells.toList.length==sz&&v.cells.toList.all one&&Nat.ble (off+sz) cs.length) with| false=>{simp only[hc,zm] at i;cases i}| true=>{simp only[hc,xf,sw] at i;exact⟨b,off,cs,_,rfl,hb,i.symm⟩}};{cases i}};{cases i}};refine⟨b,cs,by simp[bJ,hp],by rw[hh],⟨j,aa⟩,λl σ g w n s J hg=>?_⟩;obtain⟨b2,R,⟨o2,ab⟩,ac,I,q1,q2,q3⟩:=Mc (P:=P) ok s (J a _ hp) (J x _ hv) i (λz hz=>by cases hz;exact hg) n;cases ab;have ad:R=cs:=by{have h1:(h.put b (some (.cells false R))).get b=(h.put b (some (.cells false cs))).get b:=by{rw[<-hh,<-ac]};simpa [au.dX] using h1};subst ad;exact⟨I,by simp[execOp,U,q1],q2,q3⟩}};{cases e}}| _=>{rw[U] at hs;cases hs}
theorem Bw(ok:C.Ok P){ρ:Operand->Option Value}{h h':au}{o:Oper}{v:Value}(hs:fY o.op=true)(e:aW C ρ h o.op=some (.val v h'))
  {ab:Operand->Value} {σ:bD} {w:World} (s:cM σ h.get w) (hw:∀i b,h.get i=some b->i<h.next) (l:yz σ ρ ab) (hf:∀i,h.next<=i->i<h'.next->σ i=none) :
  ∃ac v' p,QU ((execOp ab o).run P w) v' p/\aX ac v v'/\cM ac h'.get p/\Ev σ h.get h.next w ac h'.get h'.next p:=by
 cases I:o.op with
 | mapUpdate t m k x=>
  rw[I] at e;simp only[aW] at e;split at e
  ·rename_i m1 k1 x1 h1 h2 h3;cases j:cO C h t m1 k1 x1 with
   | none=>simp[j] at e
   | some al=>
    simp[j] at e;obtain⟨rfl,rfl⟩:=e;obtain⟨p,q1,q2,J,q4⟩:=tg (P:=P) ok s (l m _ h1) (l k _ h2) (l x _ h3) j;exact⟨σ,undef,p,.inr ⟨by simp[execOp,I,q1],rfl⟩,eT σ,J,q4⟩
  ·cases e
 | mapEntry t m k=>
  rw[I] at e;simp only[aW] at e;split at e
  ·rename_i m1 k1 h1 h2;cases j:eX C h t m1 k1 with
   | none=>simp[j] at e
   | some vh=>
    obtain⟨v2,al⟩:=vh;simp[j] at e;obtain⟨rfl,rfl⟩:=e;obtain⟨v',p,q1,q2,J,q4,q5⟩:=Eu (P:=P) ok s (l m _ h1) (l k _ h2) j;exact⟨σ,v',p,.inl (by simp[execOp,I,q1]),q2,q4,J▸q5⟩
  ·cases e
 | entryStore t m k x=>
  rw[I] at e;simp only[aW] at e;split at e
  ·rename_i m1 k1 x1 h1 h2 h3;cases j:eG h m1 k1 x1 with
   | none=>simp[j] at e
   | some al=>
    simp[j] at e;obtain⟨rfl,rfl⟩:=e;obtain⟨p,q1,q2,J,q4⟩:=A6 (P:=P) s t (l m _ h1) (l k _ h2) (l x _ h3) j;exact⟨σ,undef,p,.inr ⟨by simp[execOp,I,q1],rfl⟩,eT σ,J,q4⟩
  ·cases e
 | insert t m k x=>
  rw[I] at e;simp only[aW] at e;split at e
  ·rename_i m1 k1 x1 h1 h2 h3;cases j:cO C h t m1 k1 x1 with
   | none=>simp[j] at e
   | some al=>
    simp[j] at e;obtain⟨rfl,rfl⟩:=e;obtain⟨p,q1,q2,J,q4⟩:=tg (P:=P) ok s (l m _ h1) (l k _ h2) (l x _ h3) j;exact⟨σ,undef,p,.inr ⟨by simp[execOp,I,q1],rfl⟩,eT σ,J,q4⟩
  ·cases e
 | call c=>
  rw[I] at e;cases hc:c.callee with
  | invoke x m=>
   simp only[aW,hc] at e;split at e
   ·split at e
    ·split at e
     ·rename_i fn a6;cases hb:fn.body.isSome<;>simp[hb] at e
     ·cases e
    ·cases e
   ·cases e
  | value f=>
   simp only[aW,hc] at e;split at e
   ·rename_i f1 as h1 h2;unfold mf at e;split at e
    ·split at e
     ·rename_i fn a6;cases hb:fn.body.isSome<;>simp[hb] at e
     ·cases e
    ·cases e
   ·cases e
  | builtin b=>
   simp only[aW,hc] at e;split at e
   ·rename_i as has;obtain⟨ao,U,ae⟩:∃ao,(c.args.map ab)=⟨ao⟩/\aV σ as ao:=⟨c.args.toList.map ab,by apply UW;simp,oi l _ _ has⟩;have a8:∀{t:TypeId} {ts:List TypeId},c.argTypes.toList=t::ts->c.argTypes=⟨t::ts⟩:=λh=>by apply UW;simpa using h
    obtain⟨cs,hex⟩:∃cs,(execOp ab o).run P w=(builtin b c.argTypes o.type cs (c.args.map ab)).run P w:=
     ⟨_,by simp only[execOp,I,resolve,hc,invoke,Sem.run_bind,Sem.run_pure,Result.andThen_ok];rfl⟩
    cases g:bR C h b c.argTypes.toList as with
    | none=>simp[g] at e
    | some vh=>
     obtain⟨v2,h2⟩:=vh;simp[g] at e;obtain⟨rfl,rfl⟩:=e;rw[I] at hs;simp only[fY,tW,cy,hZ,hc,UK,Bool.true_and,Vn] at hs;cases ar:c.argTypes.toList with
     | nil=>
      rw[ar] at g;cases b<;>first | (cases hs;done) | (simp[bR] at g)
     | cons t ts=>
      rw[ar] at g;have aa:=a8 ar;cases b<;>first | (cases hs;done) | skip
      all_goals first | (simp[bR] at g;done) | skip
      ·
       rcases as with _ | ⟨x,_ | ⟨y,_ | ⟨z,as⟩⟩⟩
       ·cases g
       ·cases g
       ·simp only[bR] at g;obtain⟨x',r,rfl,J,y',r2,rfl,q5,q6⟩:=ae;have:r2=[]:=q6;subst this;obtain⟨ac,v',p,p1,p2,p3,p4⟩:=KD (P:=P) ok s hw o.type J q5 g hf;exact⟨ac,v',p,.inl (by rw[hex,U,aa];simp[builtin,p1]),p2,p3,p4⟩
       ·cases g
      ·
       rcases as with _ | ⟨x,_ | ⟨y,as⟩⟩
       ·cases g
       ·simp only[bR] at g;cases R:pI C h t x with
        | none=>rw[R] at g;cases g
        | some h3=>
         rw[R] at g;simp only[Tq,sw,Tk] at g;obtain⟨rfl,rfl⟩:=g;obtain⟨x',r,rfl,J,q4⟩:=ae;have:r=[]:=q4;subst this;obtain⟨p,p1,p2,p3,p4⟩:=LV (P:=P) (ts:=ts) ok s o.type J R;exact⟨σ,bX,p,.inl (by rw[hex,U,aa];simp[builtin,p1]),eT σ,p3,p4⟩
       ·cases g
      ·
       rcases as with _ | ⟨x,_ | ⟨y,_ | ⟨z,as⟩⟩⟩
       ·cases g
       ·cases g
       ·simp only[bR] at g;obtain⟨x',r,rfl,J,y',r2,rfl,q5,q6⟩:=ae;have:r2=[]:=q6;subst this;obtain⟨v',p,p1,p2,p3,p4,p5⟩:=NJ (P:=P) (ts:=ts) ok s o.type J q5 g;exact⟨σ,v',p,.inl (by rw[hex,U,aa];simp[builtin,p1]),p3,p4,p5⟩
       ·cases g
      ·
       rcases as with _ | ⟨x,_ | ⟨y,_ | ⟨z,as⟩⟩⟩
       ·cases g
       ·cases g
       ·simp only[bR] at g;cases R:kL C h t x y with
        | none=>rw[R] at g;cases g
        | some h3=>
         rw[R] at g;simp only[Tq,sw,Tk] at g;obtain⟨rfl,rfl⟩:=g;obtain⟨x',r,rfl,J,y',r2,rfl,q5,q6⟩:=ae;have:r2=[]:=q6;subst this;obtain⟨p,p1,p2,p3,p4⟩:=Jq (P:=P) (ts:=ts) ok s o.type J q5 R;exact⟨σ,bX,p,.inl (by rw[hex,U,aa];simp[builtin,p1];rfl),eT σ,p3,p4⟩
       ·cases g
   ·cases e
 | alloc t=>rw[I] at hs;cases hs
 | box t x=>rw[I] at hs;cases hs
 | buildSlice t n ps=>rw[I] at hs;cases hs
 | makeMap t x=>rw[I] at hs;cases hs
 | makeSlice t x y=>rw[I] at hs;cases hs
 | store t a x=>rw[I] at hs;cases hs
 | _=>first | (rw[I] at hs;cases hs;done) | (rw[I] at e;cases e)
theorem sR(ok:C.Ok P){ρ:Operand->Option Value}{h:au}{o:Oper}{f:FuncId}{args:List Value}(e:aW C ρ h o.op=some (.call f args))
  {j:Operand->Value} {σ:bD} {w:World} (p:yz σ ρ j) (s:cM σ h.get w):∃args',(execOp j o).run P w=.ok (.enter f ⟨args'⟩) w/\aV σ args args':=by
 have R:∀{x:Option Value},(x.map λv=>Af.val v h)=some (.call f args)->False:=by intro x hx;cases x<;>cases hx
 have l:∀{x:Option (Value×au)},(x.map λr=>Af.val r.1 r.2)=some (.call f args)->False:=by intro x hx;cases x<;>cases hx
 have J:∀{x:Option au},(x.map λh=>Af.val bX h)=some (.call f args)->False:=by intro x hx;cases x<;>cases hx
 cases ho:o.op with
 | call c=>
  rw[ho] at e;cases hc:c.callee with
  | invoke ro name=>
   simp only[aW,hc] at e;split at e
   ·rename_i x as h1 h2;split at e
    ·rename_i g recv hm;split at e
     ·rename_i fn U;cases hb:fn.body.isSome with
      | false=>simp[hb] at e
      | true=>
       simp only[hb,xf,sw,Af.call.injEq] at e;obtain⟨rfl,rfl⟩:=e;have r3:=oi p _ _ h2;obtain⟨t,q1,q2⟩:=JJ (P:=P) ok s (p ro _ h1) hm U hb (c.args.toList.map j);refine⟨t::c.args.toList.map j,?_,⟨t,_,rfl,q1,r3⟩⟩;have I:(#[j ro]++c.args.map j).extract 1 (#[j ro]++c.args.map j).size=⟨c.args.toList.map j⟩:=by apply UW;simp[qs]
       have h0:((#[j ro]++c.args.map j:Array Value)[0]?:Option Value)=some (j ro):=by rw[Array.getElem?_append_left (by simp)];rfl
       have al:(execOp j o).run P w=(invoke (.fn (.method name) #[]) (#[j ro]++c.args.map j)).run P w:=by
        simp only[execOp,ho,resolve,hc,Sem.run_bind,Sem.run_pure,Result.andThen_ok]
       rw[al];simp only[invoke,h0,I,q2]
     ·cases e
    ·cases e
   ·cases e
  | builtin b=>
   simp only[aW,hc] at e;split at e
   ·exact(l e).elim
   ·cases e
  | value fo=>
   simp only[aW,hc] at e;split at e
   ·rename_i f1 as h1 h2;unfold mf at e;split at e
    ·rename_i i first captured
     split at e
     ·rename_i fn U;cases hb:fn.body.isSome with
      | false=>simp[hb] at e
      | true=>
       simp only[hb,xf,sw,Af.call.injEq] at e;obtain⟨rfl,rfl⟩:=e;cases first with | mk first=>
       cases captured with | mk captured=>
       obtain⟨ab,ac,an,r1,r2⟩:=p fo _ h1;have r3:=oi p _ _ h2;refine⟨ab++c.args.toList.map j++ac,?_,(r1.app r3).app r2⟩;have I:(⟨ab⟩:Array Value)++c.args.map j++⟨ac⟩=⟨ab++c.args.toList.map j++ac⟩:=by apply UW;simp
       simp only[execOp,ho,resolve,hc,Sem.run_bind,an,Deferred.ofValue,Sem.run_pure,Result.andThen_ok,invoke,I];exact ok.call i fn U hb _ w
     ·cases e
    ·cases e
   ·cases e
 | _=>
  rw[ho] at e;exfalso;clear ho p;simp only[aW] at e
  repeat' split at e
  all_goals first
   | (cases e;done)
   | exact R e
   | exact l e
   | exact J e
   | contradiction
end
end Go.Abs