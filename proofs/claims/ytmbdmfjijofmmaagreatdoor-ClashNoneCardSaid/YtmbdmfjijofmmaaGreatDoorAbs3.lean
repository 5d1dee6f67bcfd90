/-
  The abstract machine is sound, third part: append, copy, the operations one by one.
-/
import Derived.Test.YtmbdmfjijofmmaaGreatDoorAbs2
/-
 Soundness,twelfth part: append whole,copy,clear.
-/
namespace Go.Abs
open Go
section
variable {C:Ctx}{P:Program}
structure Ps(P:Program)(σ:bG)(w:World)(n:Nat)(new:List Value)(zeros:Bool)(appended:Sem (Array Value))(new':List Value):Prop where
 rel:aZ σ new new'
 run:∀w1:World,w1.heap=w.heap->appended.run P w1=.ok ⟨new'⟩ w1
theorem Nm(ok:C.Ok P){σ:bG}{g:Nat->Option aC}{w:World}(s:dT σ g w){h:au}{t e:TypeId}{ts:List TypeId}{ty:TypeId}{I by_ n:Nat}{base:Option Addr}{sLen sCap:Nat}{x x':Value}
  {new:List Value} (hu:C.g9 t=some (.slice e)) (hs:C.size e=some I) (hb:C.bytes e=some by_) (hx:aV σ x x') (hg:∀a n c,x=.slice (some a) n c->g a.block=h.get a.block)
  (r:fV C h e I ts.head? x=some (n,new)) (J:n*by_<=140737488355328) :
  ∃o f j,Ps P σ w n new o f j/\
   Cm C P w e I n f base sLen sCap ((Builtin.append_ ⟨t::ts⟩ ty ⟨[.slice base sLen sCap,x']⟩).run P w):=by
 have pl:cS h I x=some (n,new)->(∀xt,ts.head?=some xt->∃d,C.g9 xt=some d/\LV d=false)->
   ∃o f j,Ps P σ w n new o f j/\
   Cm C P w e I n f base sLen sCap ((Builtin.append_ ⟨t::ts⟩ ty ⟨[.slice base sLen sCap,x']⟩).run P w):=by
  intro R hd;unfold cS at R;cases hl:gP x with
  | none=>simp[hl] at R
  | some m=>
   simp only[hl] at R;cases hf:eg h I m x with
   | none=>simp[hf] at R
   | some l=>
    simp[hf] at R;obtain⟨rfl,rfl⟩:=R;obtain⟨j,q1,q2⟩:=y3 (P:=P) s hx hg hl (mc _) hf;exact⟨false,_,j,⟨q1,q2⟩,DN ok w hu hs hd (D4 w hx hl)⟩
 unfold fV at r;split at r
 ·rename_i U;exact pl r (λxt p=>by rw[U] at p;cases p)
 ·rename_i xt U;split at r
  ·cases r
  ·rename_i ki p;split at r
   ·rename_i k m z hz;split at r
    ·rename_i hm;cases r;obtain rfl:=(show x'=_ from hx);cases ts with
     | nil=>cases U
     | cons ag ts=>
      simp only[List.head?_cons,pr] at U;subst U;obtain⟨i,hi,a0,al,a1⟩:=pt ok hz;obtain⟨i2,aa,a2⟩:=pM ok hs;rw[hi] at aa;cases aa;refine⟨true,_,dy z.cells.toList m.toNat,⟨dn σ _ (jB (gk al) _),λw1 _=>?_⟩,C8 ok w hu hs p hb hm.1 hm.2 J⟩;by_cases h0:m.toNat*I=0
      ·have:dy z.cells.toList m.toNat=[]:=by
        have:=nj z.cells.toList m.toNat;rw[show z.cells.toList.length=I from by simp;omega,h0] at this;exact D1 this
       rw[nw h0,this];rfl
      ·rw[mb h0];simp only[Sem.run_bind,eK ok hz,Result.andThen_ok,Sem.run_pure];congr 1;apply TI;exact wQ z.cells m.toNat
    ·cases r
   ·cases r
  ·rename_i d hd p;refine pl r (λag h2=>?_);rw[U] at h2;cases h2;exact⟨d,p,by cases d<;>first | rfl | exact absurd rfl (hd _)⟩
theorem JR(ok:C.Ok P){σ:bG}{h h':au}{w:World}(s:dT σ h.get w)(hw:∀i b,h.get i=some b->i<h.next){t:TypeId}{ts:List TypeId}(ty:TypeId){x x' y y' v:Value}(hx:aV σ x x')(hy:aV σ y y')
  (e:dP C h t ts.head? x y=some (v,h')) (hf:∀i,h.next<=i->i<h'.next->σ i=none) :
  ∃bc v' w',(Builtin.append_ ⟨t::ts⟩ ty ⟨[x',y']⟩).run P w=.ok v' w'/\aV bc v v'/\dT bc h'.get w'/\Ev σ h.get h.next w bc h'.get h'.next w':=by
 unfold dP at e;split at e
 ·rename_i el base len c hu;split at e
  ·rename_i sz z by_ hs hz hb;split at e
   ·rename_i n new c8;cases hc:(new.length==n*sz&&new.all one&&Nat.blt 0 sz&&Nat.blt 0 by_&&Nat.ble ((len+n)*by_) 140737488355328) with
    | false=>simp only[hc,TD,xf] at e;cases e
    | true=>
     simp only[hc,Ti,zy] at e;simp only[ti,S6,T1,Nat.blt_eq] at hc;obtain⟨⟨⟨⟨bd,c9⟩,e2⟩,dd⟩,b3⟩:=hc;have a1:n*by_<=140737488355328:=LN (Sf _ (Nat.le_add_left n len)) b3;obtain⟨p,cap,rfl,hle,b4⟩:∃p cap,x'=.slice p len cap/\len<=cap/\
       (base=none->p=none/\len=0/\cap=0):=by
      cases base with
      | none=>obtain⟨rfl,rfl,rfl⟩:=hx;exact⟨none,0,rfl,mc _,λ_=>⟨rfl,rfl,rfl⟩⟩
      | some a=>obtain⟨l,a',cap,_,_,rfl,hle,_⟩:=hx;exact⟨some a',cap,rfl,hle,λh=>by cases h⟩
     obtain⟨df,b0,f,⟨ap,ac⟩,ar⟩:=Nm (ty:=ty) (base:=p) (sLen:=len) (sCap:=cap) ok s hu hs hb hy (λ_ _ _ _=>rfl) c8 a1;obtain⟨i,hi,e3,e4,e5⟩:=pt ok hz;obtain⟨i2,b6,e6⟩:=pM ok hs;rw[hi] at b6;cases b6;have dl:z.cells.size=sz:=by omega
     have e7:=ap.length;cases a2:(n==0) with
     | true=>
      have b7:n=0:=by simpa using a2
      subst b7;simp only[a2,xf,pr,R7] at e;obtain⟨rfl,rfl⟩:=e;have av:f=[]:=D1 (by omega);subst av;refine⟨σ,.slice p len cap,w,?_,hx,s,Ev.refl _ _ _ _⟩;exact ar.room w [] hle (ac w rfl) (by cases p<;>simp[storeCells])
     | false=>
      have dq:0<n:=by
       have:n≠0:=by simpa using a2
       omega
      simp only[a2,zy] at e;have fresh:∀(g:Nat->Option aC) (cU o:List Value),dT σ g w->aZ σ cU o->cU.length=len*sz->cap<len+n->σ h.next=none->
        (∀w1:World,w1.heap=w.heap->(Builtin.firstCells sz len (.slice p len cap)).run P w1=.ok ⟨o⟩ w1)->
        ∃l v' w',(Builtin.append_ ⟨t::ts⟩ ty ⟨[.slice p len cap,y']⟩).run P w=.ok v' w'/\aV (db σ h.next (some l)) (.slice (some ⟨h.next,0,none⟩) (len+n) sz) v'/\
         dT (db σ h.next (some l)) (db g h.next (some (.cells false (cU++new)))) w'/\Ev σ g h.next w (db σ h.next (some l)) (db g h.next (some (.cells false (cU++new)))) (h.next+1) w':=by
       intro g cU o sg al b8 ds U hold;obtain⟨cp,b9,hr⟩:=ar.grow _ _ o f hz hb ds dd b3 ac hold;have dv:(Builtin.zeroCells z.cells (cp-(len+n))).toList.length=(cp-(len+n))*sz:=by simp[Builtin.zeroCells,dl]
       have d0:o.length=len*sz:=by rw[al.length,b8]
       have d1:f.length=n*sz:=by omega
       have cc:(o++f++(Builtin.zeroCells z.cells (cp-(len+n))).toList).length=cp*sz:=by
        simp only[q0,dv,d0,d1];rw[<-Sq,<-Sq];congr 1;omega
       have cg:∀b,b<w.heap.size->(w.drew.alloc (.cells ⟨o++f++(Builtin.zeroCells z.cells (cp-(len+n))).toList⟩ el)).heap[b]?=w.heap[b]?:=
        λb hb=>heap_alloc_old w.drew _ b hb
       refine⟨⟨w.heap.size,0,cp*sz⟩,_,_,hr,lV σ h.next w.heap.size (len+n) cp sz (cp*sz) b9 (by omega) (mc _),?_,?_⟩
       ·refine sg.alloc U rfl cg ⟨_,el,(0,0),heap_alloc_new w.drew _,cc,λ_=>rfl,?_,?_⟩
        ·show 0+(cU++new).length<=(o++f++(Builtin.zeroCells z.cells (cp-(len+n))).toList).length;rw[cc];simp only[q0,b8,bd];have:len*sz+n*sz=(len+n)*sz:=by rw[Sq]
         have:=Sf sz b9;omega
        ·have h3:=(al.app ap).mono (bG.tX (l:=some ⟨w.heap.size,0,cp*sz⟩) U);simp only[TE];have h4:(cU++new).length=(o++f).length:=by rw[<-(al.app ap).length]
         rw[h4,List.take_left];exact h3
       ·exact Ev.alloc rfl (by simp) cg rfl rfl rfl _
      cases base with
      | none=>
       obtain⟨rfl,rfl,rfl⟩:=b4 rfl;simp only[pr,R7] at e;obtain⟨rfl,rfl⟩:=e;have U:=hf h.next (mc _) (by simp)
       obtain⟨l,v',w',q1,q2,q3,q4⟩:=fresh h.get [] [] s rfl (by simp) (by omega) U (λw1 _=>by simp[Builtin.firstCells]);refine⟨_,v',w',q1,by simpa using q2,?_,?_⟩
       ·rw[au.iu];exact q3
       ·rw[au.iu];exact q4
      | some a=>
       obtain⟨b,off,sp⟩:=a;cases sp with
       | some sp=>simp at e
       | none=>
        obtain⟨l,a',es,hl,_,hq,ev,h0,be⟩:=hx;cases hq;simp only at e;cases bf:(c==0) with
        | true=>
         simp only[bf,xf] at e;cases bi:(len==0) with
         | false=>simp[bi] at e
         | true=>
          simp only[bi,xf,pr,R7] at e;obtain⟨rfl,rfl⟩:=e;have fa:cap=0:=h0 (by simpa using bf);have d5:len=0:=by simpa using bi
          subst d5;have U:=hf h.next (mc _) (by simp)
          obtain⟨l2,v',w',q1,q2,q3,q4⟩:=fresh h.get [] [] s rfl (by simp) (by omega) U (λw1 _=>by simp[Builtin.firstCells,loadCells,loadCellsFrom]);refine⟨_,v',w',q1,by simpa using q2,?_,?_⟩
          ·rw[au.iu];exact q3
          ·rw[au.iu];exact q4
        | false=>
         simp only[bf,zy] at e;cases bl:(c==sz) with
         | false=>simp[bl] at e
         | true=>
          simp only[bl,Ti,zy] at e;have ct:c=sz:=by simpa using bl
          subst ct;split at e
          ·rename_i cs J;split at e
           ·rename_i cU hold;simp only[pr,R7] at e;obtain⟨rfl,rfl⟩:=e;have U:=hf h.next (mc _) (by simp)
            have an:σ b=some l:=hl;have fc:b<h.next:=hw b _ J
            obtain⟨d6,a4⟩:=fE hold;have ae:((h.put b none).alloc (.cells false (cU++new))).get=db (db h.get b none) h.next (some (.cells false (cU++new))):=by
             rw[au.iu,au.eB];rfl
            have cv:dT σ (db h.get b none) w:=s.sub λi B hi=>by
             by_cases az:i=b
             ·subst az;rw[cj] at hi;cases hi
             ·rw[dp _ _ az] at hi;exact hi
            obtain⟨arr,a5,fr,g1,g2,g3,g4,g5⟩:=s.cells J an;obtain rfl:=g3 rfl;obtain⟨o,al,d8,bn⟩:∃o,aZ σ cU o/\(cap≠0->o=((arr.toList.drop (l.off+off)).take (len*c)))/\
              (∀w1:World,w1.heap=w.heap->(Builtin.firstCells c len (.slice (some a') len cap)).run P w1=.ok ⟨o⟩ w1):=by
             have a8:eg h c len (.slice (some ⟨b,off,none⟩) len c)=some cU:=by
              by_cases hz:len=0
              ·subst hz;simp[eg,d6]
              ·have d9:(len==0)=false:=by simpa using hz
               simp only[eg,d9,zy,eW,J];exact hold
             obtain⟨o',p1,p2⟩:=y3 (P:=P) s (x:=.slice (some ⟨b,off,none⟩) len c) (x':=.slice (some a') len cap) ⟨l,a',cap,hl,rfl,rfl,hle,h0,be⟩ (λ_ _ _ _=>rfl) (m:=len) rfl (mc _) a8;refine⟨o',p1,λaf=>?_,p2⟩;obtain⟨rfl,R⟩:=be af;have ea:o'.length=len*c:=by rw[p1.length,a4]
             have cx:=run_loadCells_list (P:=P) w ⟨l.cf,l.off+off,none⟩ ((arr.toList.drop (l.off+off)).take (len*c)) (λj v hj=>by
              have eb:j<len*c:=by
               have:=(No.1 hj).1;simp only[R5] at this;omega
              rw[iI,cell_of_row w l.cf _ arr a5 (0,0) g1];rw[Sg,nw eb,Sj] at hj;rw[<-Sx];exact hj)
             have ec:((arr.toList.drop (l.off+off)).take (len*c)).length=len*c:=by
              simp only[R5,Uv,T7];have hm:=Sf c hle;dsimp only at R;omega
             rw[ec] at cx;have:=p2 w rfl;simp only[Builtin.firstCells] at this;rw[cx] at this;cases this;rfl
            by_cases R:len+n<=cap
            ·
             have af:cap≠0:=by omega
             obtain⟨rfl,ee⟩:=be af;dsimp only at ee;obtain rfl:=d8 af;have hmul:(len+n)*c<=cap*c:=Sf c R;have ey:(len+n)*c=len*c+n*c:=Sq _ _ _;have eh:=run_storeCells_at P l.cf (l.off+off+len*c) a5 f 0 arr w g1 (by omega) (C9 ap c9);have bs:=ar.room _ f R (ac w rfl)
              (by simp only[iI];exact eh)
             have ba:∀k,k≠l.cf->(w.setRow l.cf (arr.toList.take (l.off+off+len*c+0)++f++arr.toList.drop (l.off+off+len*c+0+f.length)).toArray).heap[k]?=w.heap[k]?:=
              λk hk=>setRow_other w l.cf k _ hk
             have av:=setRow_heap w l.cf arr (arr.toList.take (l.off+off+len*c+0)++f++arr.toList.drop (l.off+off+len*c+0+f.length)).toArray a5 (0,0) g1;have bb:(arr.toList.take (l.off+off+len*c+0)++f++arr.toList.drop (l.off+off+len*c+0+f.length)).length=arr.size:=by
              simp;omega
             refine⟨db σ h.next (some ⟨l.cf,l.off+off,l.size⟩),_,_,bs,?_,?_,?_⟩
             ·refine⟨_,_,cap,cj _ _ _,rfl,rfl,R,h0,λ_=>⟨by simp,?_⟩⟩;dsimp only;omega
             ·rw[ae];constructor
              ·intro j B hB;by_cases hj:j=h.next
               ·subst hj;rw[cj] at hB;cases hB;refine⟨_,cj _ _ _,_,a5,(0,0),av,by simpa [g2] using bb,λ_=>rfl,?_,?_⟩
                ·simp only[q0,a4,bd];show l.off+off+(len*c+n*c)<=(arr.toList.take (l.off+off+len*c+0)++f++arr.toList.drop (l.off+off+len*c+0+f.length)).length;rw[bb];omega
                ·have h3:=(al.app ap).mono (bG.tX (l:=some ⟨l.cf,l.off+off,l.size⟩) U);have c0:((arr.toList.take (l.off+off+len*c+0)++f++arr.toList.drop (l.off+off+len*c+0+f.length)).drop (l.off+off)).take (cU++new).length =
                   (arr.toList.drop (l.off+off)).take (len*c)++f:=by
                  apply Sb;intro q;have t1:(arr.toList.take (l.off+off+len*c+0)).length=l.off+off+len*c:=by simp;omega
                  have t2:((arr.toList.drop (l.off+off)).take (len*c)).length=len*c:=by simp;omega
                  have t3:(cU++new).length=len*c+n*c:=by simp[a4,bd]
                  have t4:f.length=n*c:=by omega
                  by_cases hq:q<len*c+n*c
                  ·rw[Sg,t3,nw hq,Sj,AS];by_cases em:q<len*c
                   ·rw[By (l₁:=arr.toList.take _) (by omega),By (l₁:=(arr.toList.drop _).take _) (by omega)];simp only[Sg,Sj];rw[nw (by omega),nw em]
                   ·rw[R0 (l₁:=arr.toList.take _) (by omega),R0 (l₁:=(arr.toList.drop _).take _) (by omega),t1,t2,
                     By (by omega)]
                    congr 1;omega
                  ·rw[D2 (by rw[R5,t3];omega),D2 (by rw[q0,t2,t4];omega)]
                 simp only[c0];exact h3
               ·rw[dp _ _ hj] at hB;by_cases I:j=b
                ·subst I;rw[cj] at hB;cases hB
                ·rw[dp _ _ I] at hB;obtain⟨m,hm,r⟩:=s.cf j B hB;exact⟨m,by rw[dp _ _ hj];exact hm,(r.mono (bG.tX U)).world (ba _ (s.inj j b B _ m l hB J I (.inr rfl) hm an))⟩
              ·intro j k B D lj lk hB hD en bv bx a9;have key:∀j B lj,db (db h.get b none) h.next (some (.cells false (cU++new))) j=some B->db σ h.next (some ⟨l.cf,l.off+off,l.size⟩) j=some lj->j≠h.next->
                 h.get j=some B/\σ j=some lj/\j≠b:=by
                intro j B lj h1 h2 hj;rw[dp _ _ hj] at h1 h2;by_cases I:j=b
                ·subst I;rw[cj] at h1;cases h1
                ·rw[dp _ _ I] at h1;exact⟨h1,h2,I⟩
               by_cases hj:j=h.next
               ·obtain⟨p1,p2,p3⟩:=key k D lk hD a9 (by omega);subst hj;rw[cj] at bx;cases bx;exact(s.inj k b D _ lk l p1 J p3 (.inr rfl) p2 an).symm
               ·obtain⟨p1,p2,p3⟩:=key j B lj hB bx hj;by_cases hk:k=h.next
                ·subst hk;rw[cj] at a9;cases a9;exact s.inj j b B _ lj l p1 J p3 (.inr rfl) p2 an
                ·obtain⟨p4,p5,p6⟩:=key k D lk hD a9 hk;exact s.inj j k B D lj lk p1 p4 en bv p2 p5
             ·rw[ae];refine⟨by simp,rfl,rfl,rfl,λk _ hk=>ba k (Ne.symm (hk b _ l J rfl an)),?_,λi hi=>dp _ _ (by simp at hi;omega)⟩;intro j B m hB bv hm;by_cases hj:j=h.next
              ·subst hj;rw[cj] at hm;cases hm;exact .inr ⟨b,_,l,J,rfl,an,rfl⟩
              ·rw[dp _ _ hj] at hB hm;by_cases I:j=b
               ·subst I;rw[cj] at hB;cases hB
               ·rw[dp _ _ I] at hB;exact .inr ⟨j,B,m,hB,bv,hm,rfl⟩
            ·obtain⟨l2,v',w',q1,q2,q3,q4⟩:=fresh (db h.get b none) cU o cv al a4 (by omega) U bn;refine⟨_,v',w',q1,q2,?_,?_⟩
             ·rw[ae];exact q3
             ·rw[ae];refine⟨q4.size,q4.os,q4.out,q4.tape,λk hk hn=>q4.qT k hk λi B li hi hr hs=>?_,λi B li hi hr hs=>?_,q4.sig⟩
              ·by_cases az:i=b
               ·subst az;rw[cj] at hi;cases hi
               ·rw[dp _ _ az] at hi;exact hn i B li hi hr hs
              ·rcases q4.own i B li hi hr hs with h1 | ⟨j,D,m,h1,h2,h3,h4⟩
               ·exact .inl h1
               ·by_cases I:j=b
                ·subst I;rw[cj] at h1;cases h1
                ·rw[dp _ _ I] at h1;exact .inr ⟨j,D,m,h1,h2,h3,h4⟩
           ·cases e
          ·cases e
   ·cases e
  ·cases e
 ·cases e
end
end Go.Abs
/-
 Soundness,thirteenth part: copy,clear;operations as a whole.
-/
namespace Go.Abs
open Go
section
variable {C:Ctx}{P:Program}
theorem Nh(ok:C.Ok P){σ:bG}{h p:au}{w:World}(s:dT σ h.get w){t:TypeId}{ts:List TypeId}(ty:TypeId){x x' y j v:Value}(hx:aV σ x x')(hy:aV σ y j)
  (e:vw C h t x y=some (v,p)) :
  ∃v' r,(Builtin.copy_ ⟨t::ts⟩ ty ⟨[x',j]⟩).run P w=.ok v' r/\p.next=h.next/\aV σ v v'/\dT σ p.get r/\Ev σ h.get h.next w σ p.get p.next r:=by have a0:(⟨t::ts⟩:Array TypeId)[0]?=some t:=rfl;unfold vw at e;split at e;{rename_i el base dl c n hu I;split at e;{rename_i sz hs;split at e;{rename_i new g;cases i:new.all one with| false=>{simp only[i,TD,xf] at e;cases e}| true=>{simp only[i,Ti,zy] at e;have o:=D4 (P:=P) w hy I;obtain⟨J,q1,q2⟩:=y3 (P:=P) s hy (λ_ _ _ _=>rfl) I (Nat.min_le_left n dl) g;cases base with| none=>{obtain⟨rfl,rfl,rfl⟩:=hx;simp only[pr,R7] at e;obtain⟨rfl,rfl⟩:=e;refine⟨_,w,?_,rfl,rfl,s,Ev.refl _ _ _ _⟩;have U:(⟨[.slice none 0 0,j]⟩:Array Value)[0]?=some (.slice none 0 0):=rfl;have b1:(⟨[.slice none 0 0,j]⟩:Array Value)[1]?=some j:=rfl;simp only[Builtin.copy_,a0,U,b1,Sem.run_bind,run_underlying (aL ok hu),Result.andThen_ok,o,bP ok hs,q2 w rfl,Sem.run_pure];rfl}| some a=>{obtain⟨b,off,sp⟩:=a;cases sp with| some sp=>{simp at e}| none=>{obtain⟨l,a',cap,hl,_,rfl,hle,h0,ae⟩:=hx;have U:(⟨[.slice (some a') dl cap,j]⟩:Array Value)[0]?=some (.slice (some a') dl cap):=rfl;have b1:(⟨[.slice (some a') dl cap,j]⟩:Array Value)[1]?=some j:=rfl;simp only at e;cases f:new.isEmpty with| true=>{simp only[f,xf,pr,R7] at e;obtain⟨rfl,rfl⟩:=e;have hn:new=[]:=by{simpa using f};subst hn;have af:J=[]:=q1;subst af;refine⟨_,w,?_,rfl,rfl,s,Ev.refl _ _ _ _⟩;simp only[Builtin.copy_,a0,U,b1,Sem.run_bind,run_underlying (aL ok hu),Result.andThen_ok,o,bP ok hs,q2 w rfl,Sem.run_pure,storeCells];rfl}| false=>{simp only[f,zy] at e;split at e;{rename_i cs R;cases hc:Nat.ble (off+new.length) cs.length with| false=>{simp only[hc,zy] at e;cases e}| true=>{simp only[hc,xf,pr,R7] at e;obtain⟨rfl,rfl⟩:=e;have az:dl≠0:=by{intro hd;subst hd;have:Nat.min n 0=0:=Nat.min_zero n;rw[this] at g;unfold eg at g;split at g;{cases g;cases f};{simp only[beq_self_eq_true,xf,pr] at g;subst g;cases f};{cases g;simp at f};{cases g}};obtain⟨rfl,_⟩:=ae (by omega);have al:σ b=some l:=hl;obtain⟨r,p1,p2,p3⟩:=uU (P:=P) (off:=off) s R al q1 i (Tq hc) h.next;refine⟨_,r,?_,rfl,rfl,by rw[au.eB];exact p2,by rw[au.eB];exact p3⟩;simp only[Builtin.copy_,a0,U,b1,Sem.run_bind,run_underlying (aL ok hu),Result.andThen_ok,o,bP ok hs,q2 w rfl,p1,Sem.run_pure];rfl}};{cases e}}}}}};{cases e}};{cases e}};{cases e}
theorem K8(ok:C.Ok P){σ:bG}{h f:au}{w:World}(s:dT σ h.get w){t:TypeId}{ts:List TypeId}(ty:TypeId){x x':Value}(o:aV σ x x')(e:kQ C h t x=some f) :
  ∃g,(Builtin.clear_ ⟨t::ts⟩ ty ⟨[x']⟩).run P w=.ok cl g/\f.next=h.next/\dT σ f.get g/\Ev σ h.get h.next w σ f.get f.next g:=by have p:(⟨t::ts⟩:Array TypeId)[0]?=some t:=rfl;have r:(⟨[x']⟩:Array Value)[0]?=some x':=rfl;unfold kQ at e;split at e;{rename_i el n c hu;cases e;obtain⟨rfl,rfl,rfl⟩:=o;refine⟨w,?_,rfl,s,Ev.refl _ _ _ _⟩;simp only[Builtin.clear_,p,r,Sem.run_bind,run_underlying (aL ok hu),Result.andThen_ok,Sem.run_pure];rfl};{rename_i a c _ _;have hu:=‹C.g9 t=some (TypeDesc.slice _)›;cases e;refine⟨w,?_,rfl,s,Ev.refl _ _ _ _⟩;cases a with| none=>{obtain⟨_,rfl,rfl⟩:=o;simp only[Builtin.clear_,p,r,Sem.run_bind,run_underlying (aL ok hu),Result.andThen_ok,Sem.run_pure];rfl}| some a=>{obtain⟨l,a',cap,_,_,rfl,_⟩:=o;simp only[Builtin.clear_,p,r,Sem.run_bind,run_underlying (aL ok hu),Result.andThen_ok,Sem.run_pure];rfl}};{rename_i el b off n c hn hu;split at e;{rename_i z cs hz i;cases j:((dy z.cells.toList n).all one&&Nat.ble (off+(dy z.cells.toList n).length) cs.length) with| false=>{simp only[j,zy] at e;cases e}| true=>{simp only[j,xf,pr] at e;subst e;simp only[ti,T1] at j;obtain⟨l,a',cap,hl,_,rfl,hle,h0,I⟩:=o;have ae:n≠0:=λh=>hn h;obtain⟨rfl,_⟩:=I (by omega);have J:σ b=some l:=hl;have R:=ij ok hz;obtain⟨g,p1,p2,p3⟩:=uU (P:=P) (off:=off) s i J (dn σ _ (jB (gk R) n)) j.1 j.2 h.next;refine⟨g,?_,rfl,by rw[au.eB];exact p2,by rw[au.eB];exact p3⟩;have U:(Builtin.zeroCells z.cells n).toList=dy z.cells.toList n:=wQ z.cells n;obtain⟨m,rfl⟩:∃m,n=m+1:=⟨n-1,by omega⟩;simp only[Builtin.clear_,p,r,Sem.run_bind,run_underlying (aL ok hu),Result.andThen_ok,Sem.run_pure,eK ok hz,U,p1];rfl}};{cases e}};{cases e}
end
end Go.Abs
/-
 Soundness,fourteenth part: one operation.
-/
namespace Go.Abs
open Go
section
variable {C:Ctx}{P:Program}
def P9(r:Result Next)(v':Value)(f:World):Prop:=r=.ok (.value v') f\/(r=.ok .skip f/\v'=undef)
abbrev w6(σ:bG)(ρ:Operand->Option Value)(f:Operand->Value):Prop:=∀x v,ρ x=some v->aV σ v (f x)
theorem np{σ:bG}{ρ:Operand->Option Value}{f:Operand->Value}(g:w6 σ ρ f):∀(xs:List Operand) (vs:List Value),cZ ρ xs=some vs->aZ σ vs (xs.map f)
 | [],vs,e=>by cases e;rfl
 | x::xs,vs,e=>by{unfold cZ at e;split at e;{rename_i v i j l;cases e;exact⟨_,_,rfl,g x v j,np g xs i l⟩};{cases e}}
theorem zA{σ:bG}{ρ:Operand->Option Value}{f:Operand->Value}(g:w6 σ ρ f):∀(xs:List (Nat×Operand)) (vs:List (Nat×Value)),fw ρ xs=some vs->
  (xs.map (λ(i,x)=>(i,f x))).map (·.1)=vs.map (·.1)/\aZ σ (vs.map (·.2)) ((xs.map (λ(i,x)=>(i,f x))).map (·.2))
 | [],vs,e=>by cases e;exact⟨rfl,rfl⟩
 | (i,x)::xs,vs,e=>by{unfold fw at e;split at e;{rename_i v j l o;cases e;obtain⟨a,b⟩:=zA g xs j o;exact⟨by simp only[y2,a],⟨_,_,rfl,g x v l,b⟩⟩};{cases e}}
theorem FX{σ:bG}{ρ:Operand->Option Value}{f:Operand->Value}(g:w6 σ ρ f){x:Option Operand}{v:Option Value}(e:lO ρ x=some v):Ce σ v (x.map f):=by cases x with| none=>{cases e;trivial}| some x=>{simp only[lO] at e;cases h:ρ x with| none=>{simp[h] at e}| some y=>{simp[h] at e;subst e;exact g x y h}}
theorem zL(ok:C.Ok P){σ:bG}(w:World){x x' v:Value}{t:TypeId}{b:Bool}(p:aV σ x x')(I:TypeId)(e:lG C x t b=some v) :
  ∃v',(Instr.typeAssert x' I t b).run P w=.ok v' w/\aV σ v v':=by unfold lG at e;split at e;{cases e};{rename_i d J;have hu:=aL ok J;cases hi:yw d with| true=>{simp[hi] at e}| false=>{simp only[hi,zy] at e;have zero:∀{y:Value},(C.zero t).map (λz=>Value.tuple ⟨[z,.bool false]⟩)=some y->∃z,C.zero t=some z/\y=.tuple ⟨[z,.bool false]⟩/\aV σ y (.tuple #[z,.bool false]):=by{intro y h;cases f:C.zero t with| none=>{rw[f] at h;cases h}| some z=>{rw[f] at h;simp only[Si,pr] at h;subst h;refine⟨z,rfl,rfl,[z,.bool false],rfl,z,_,rfl,gz σ z (ij ok f),?_⟩;exact⟨.bool false,[],rfl,rfl,rfl⟩}};split at e;{rename_i r u;obtain⟨j,rfl,g⟩:=p;cases i:Nat.beq r t with| true=>{obtain rfl:=R6 i;simp only[i,xf,pr] at e;subst e;cases b with| true=>{refine⟨.tuple #[j,.bool true],?_,[j,.bool true],rfl,j,_,rfl,g,.bool true,[],rfl,rfl,rfl⟩;cases d<;>first | (cases hi;done) | simp[Instr.typeAssert,run_underlying hu]}| false=>{refine⟨j,?_,g⟩;cases d<;>first | (cases hi;done) | simp[Instr.typeAssert,run_underlying hu]}}| false=>{have l:¬r=t:=λh=>by{subst h;rw[Uo] at i;cases i};simp only[i,zy] at e;cases b with| false=>{simp at e}| true=>{simp only[xf] at e;obtain⟨z,f,rfl,o⟩:=zero e;refine⟨_,?_,o⟩;cases d<;>first | (cases hi;done) | simp[Instr.typeAssert,run_underlying hu,l,eK ok f]}}};{obtain rfl:=(show x'=_ from p);cases b with| false=>{simp at e}| true=>{simp only[xf] at e;obtain⟨z,f,rfl,o⟩:=zero e;refine⟨_,?_,o⟩;cases d<;>first | (cases hi;done) | simp[Instr.typeAssert,run_underlying hu,eK ok f]}};{cases e}}}
theorem IY:∃n,P.types.size+Made.depth=n+1:=by have h:0<Made.depth:=by{decide};exact⟨P.types.size+Made.depth-1,by omega⟩
theorem oZ{t:TypeId}{v' r:Value}{name:String}{f:FuncId}{g:List Value}{w:World}
  (j:∀n,(method (n+1) t v' name).run P w=.ok (f,r) w) (i:(callFunc f ⟨r::g⟩).run P w=.ok (.enter f ⟨r::g⟩) w) :
  (callMethod (.iface t v') name ⟨g⟩).run P w=.ok (.enter f ⟨r::g⟩) w:=by obtain⟨n,l⟩:=IY (P:=P);have o:(program).run P w=.ok P w:=rfl;have hm:=j n;rw[<-l] at hm;unfold callMethod;simp only[Sem.run_bind,o,Result.andThen_ok,hm];rw[show (#[r]++⟨g⟩:Array Value)=⟨r::g⟩ by apply TI;simp];exact i
theorem yp{t:TypeId}{v' r:Value}{name:String}{f:FuncId}{l:Bool}{i:TypeInfo}{m:Method}{w:World}(g:(typeInfo t).run P w=.ok i w)(hm:i.methods.find? (·.name==name)=some m)(o:m.path.isEmpty=true)(I:m.func=some (f,l))
  (J:∀x,(receiverAt t (.val v') l (some x)).run P w=.ok r w) (n:Nat):(method (n+1) t v' name).run P w=.ok (f,r) w:=by
 have j:m.path.toList=[]:=by
  cases m with | mk a b p c=>
  cases p with | mk p=>cases p<;>first | rfl | (simp at o)
 unfold method;simp only[Sem.run_bind,g,Result.andThen_ok,hm,j,follow,Sem.run_pure,I,o,SN,J]
theorem IQ(ok:C.Ok P){σ:bG}{w:World}{h:au}(s:dT σ h.get w){x x' recv:Value}{name:String}{f:FuncId}(hx:aV σ x x')(e:gI C h x name=some (f,recv)){fn:Func}(r:C.func f=some fn)(hb:fn.body.isSome=true)(I:List Value) :
  ∃j,aV σ recv j/\(callMethod x' name ⟨I⟩).run P w=.ok (.enter f ⟨j::I⟩) w:=by unfold gI at e;split at e;{rename_i t v;obtain⟨v',rfl,U⟩:=hx;split at e;{rename_i i d hi hd;have hu:=aL ok hd;have J:(typeInfo t).run P w=.ok i w:=by{simp[typeInfo,ok.info t i hi]};split at e;{rename_i m hm;cases R:m.path.isEmpty with| false=>{simp[R] at e}| true=>{simp only[R,xf] at e;split at e;{rename_i g el o;simp only[pr,R7] at e;obtain⟨rfl,rfl⟩:=e;refine⟨v',U,oZ (yp J hm R o λx=>?_) (ok.call _ fn r hb _ w)⟩;unfold receiverAt;simp only[Sem.run_bind,run_underlying hu,Result.andThen_ok,Place.get,Sem.run_pure]};{rename_i g el o;cases p:jU C h el v with| none=>{rw[p] at e;cases e}| some y=>{rw[p] at e;simp only[Si,pr,R7] at e;obtain⟨rfl,rfl⟩:=e;obtain⟨y',q1,q2⟩:=CH (P:=P) ok s U p (λ_ _=>rfl);refine⟨y',q2,?_⟩;obtain⟨a,rfl⟩:∃a,v'=.pointer (some a):=by{unfold jU at p;split at p;{obtain⟨l,_,_,rfl⟩:=U;exact⟨_,rfl⟩};{cases p}};have aa:(loadVar el a).run P w=.ok y' w:=by{simpa [Instr.loadAt,Instr.sureAddr] using q1};refine oZ (yp J hm R o λx=>?_) (ok.call _ fn r hb _ w);have hw:(Builtin.ssaWrapNilChk_ #[t] t #[.pointer (some a),strVal "",strVal x]).run P w=.ok (.pointer (some a)) w:=rfl;unfold receiverAt;simp only[Sem.run_bind,run_underlying hu,Result.andThen_ok,Place.get,Sem.run_pure,hw,asAddr,aa]}};{cases e}}};{cases e}};{cases e}};{cases e}
theorem k4(ok:C.Ok P){ρ:Operand->Option Value}{h:au}{o:Oper}{r:qy}(hs:cd o.op=true)(e:aQ C ρ h o.op=some r) :
  ∃v,r=.val v h/\∀(p:Operand->Value) (σ:bG) (g:Nat->Option aC) (w:World),dT σ g w->w6 σ ρ p->(∀b∈bL ρ o.op,g b=h.get b)->
   ∃v',(execOp p o).run P w=.ok (.value v') w/\aV σ v v':=by
 have val:∀{x:Option Value},(x.map λv=>qy.val v h)=some r->∃v,x=some v/\r=.val v h:=by
  intro x R;cases x with
  | none=>cases R
  | some v=>exact⟨v,rfl,by simpa using R.symm⟩
 cases J:o.op with
 | move x=>
  rw[J] at e;obtain⟨v,I,rfl⟩:=val e;exact⟨v,rfl,λp σ g w s j _=>⟨p x,by simp[execOp,J],j x v I⟩⟩
 | assign x=>
  rw[J] at e;obtain⟨v,I,rfl⟩:=val e;exact⟨v,rfl,λp σ g w s j _=>⟨p x,by simp[execOp,J],j x v I⟩⟩
 | pick c a b=>
  rw[J] at e;simp only[aQ] at e;split at e
  ·rename_i hc;obtain⟨v,I,rfl⟩:=val e;refine⟨v,rfl,λp σ g w s j _=>⟨p a,?_,j a v I⟩⟩;have:=j c _ hc;simp[execOp,J,show p c=.bool true from this,asBool]
  ·rename_i hc;obtain⟨v,I,rfl⟩:=val e;refine⟨v,rfl,λp σ g w s j _=>⟨p b,?_,j b v I⟩⟩;have:=j c _ hc;simp[execOp,J,show p c=.bool false from this,asBool]
  ·cases e
 | build t ps=>
  rw[J] at e;simp only[aQ] at e;split at e
  ·rename_i a8 hp;obtain⟨v,I,rfl⟩:=val e;refine⟨v,rfl,λp σ g w s j _=>?_⟩;obtain⟨q1,q2⟩:=zA j ps.toList a8 hp;obtain⟨v',r1,r2⟩:=J2 (parts':=ps.map λ(i,x)=>(i,p x)) ok w (by simpa using q1) (by simpa using q2) I;exact⟨v',by simp[execOp,J,r1],r2⟩
  ·cases e
 | load t a=>
  rw[J] at e;simp only[aQ] at e;split at e
  ·rename_i x R;obtain⟨v,I,rfl⟩:=val e;refine⟨v,rfl,λp σ g w s j U=>?_⟩;obtain⟨v',r1,r2⟩:=CH ok s (j a x R) I (λy hy=>U _ (by simp[bL,R,hy]));exact⟨v',by simp[execOp,J,r1],r2⟩
  ·cases e
 | nilCheck x=>
  rw[J] at e;simp only[aQ] at e;split at e
  ·rename_i a R;obtain⟨v,I,rfl⟩:=val e;cases I;refine⟨_,rfl,λp σ g w s j _=>?_⟩;obtain⟨l,I,h2,h3⟩:=j x _ R;refine⟨_,?_,⟨l,I,h2,h3⟩⟩;simp[execOp,J,h3]
  ·rename_i f xs ys R;obtain⟨v,I,rfl⟩:=val e;cases I;cases xs with | mk xs=>
   cases ys with | mk ys=>
   refine⟨_,rfl,λp σ g w s j _=>?_⟩;obtain⟨a,b,I,h2⟩:=j x _ R;refine⟨_,?_,⟨a,b,I,h2⟩⟩;simp[execOp,J,I]
  ·cases e
 | binOp op t x y yt=>
  rw[J] at e;simp only[aQ] at e;split at e
  ·rename_i a b R hy;obtain⟨v,I,rfl⟩:=val e;refine⟨v,rfl,λp σ g w s j U=>?_⟩;obtain⟨r1,r2,r3⟩:=Oh ok s (j x a R) (j y b hy) (λz hz=>U _ (by simp[bL,R,hz])) (λz hz=>U _ (by simp[bL,hy,hz])) I;exact⟨v,by simp[execOp,J,r1,r2],gz σ v r3⟩
  ·cases e
 | unOp op t x=>
  rw[J] at e;simp only[aQ] at e;split at e
  ·rename_i a R;obtain⟨v,I,rfl⟩:=val e;refine⟨v,rfl,λp σ g w s j U=>?_⟩;obtain⟨r1,r3⟩:=Pl (P:=P) w (j x a R) I;exact⟨v,by simp[execOp,J,r1],gz σ v r3⟩
  ·cases e
 | convert sr d x=>
  rw[J] at e;simp only[aQ] at e;split at e
  ·rename_i a R;obtain⟨v,I,rfl⟩:=val e;refine⟨v,rfl,λp σ g w s j U=>?_⟩;unfold yX at I;split at I
   ·rename_i ds k k2 n hs hd;cases I;have:=j x _ R;refine⟨_,?_,rfl⟩;have:p x=.int k2 n:=this;simp[execOp,J,this,convert,run_underlying (aL ok hs),run_underlying (aL ok hd),Conv.intToInt]
   ·cases I
  ·cases e
 | makeInterface t x=>
  rw[J] at e;simp only[aQ] at e;split at e
  ·rename_i a d R hu;split at e
   ·cases e
   ·rename_i hd;obtain⟨v,I,rfl⟩:=val e;cases I;refine⟨_,rfl,λp σ g w s j U=>⟨.iface t (p x),?_,⟨_,rfl,j x a R⟩⟩⟩;have:(Instr.makeInterface t (p x)).run P w=.ok (.iface t (p x)) w:=by
     simp only[Instr.makeInterface,Sem.run_bind,run_underlying (aL ok hu),Result.andThen_ok]
     try cases d<;>first | rfl | exact absurd rfl (hd _)
    simp[execOp,J,this]
  ·cases e
 | makeFunc fn xs ys=>
  rw[J] at e;simp only[aQ] at e;split at e
  ·rename_i a b R hy;obtain⟨v,I,rfl⟩:=val e;cases I;refine⟨_,rfl,λp σ g w s j U=>⟨.func fn (xs.map p) (ys.map p),by simp[execOp,J,Instr.makeFunc],⟨xs.toList.map p,ys.toList.map p,?_,np j _ _ R,np j _ _ hy⟩⟩⟩;congr 1<;>(apply TI;simp)
  ·cases e
 | slice t x lo hi mx=>
  rw[J] at e;simp only[aQ] at e;split at e
  ·rename_i x' bc bd be I h2 h3 h4;obtain⟨v,h5,rfl⟩:=val e;refine⟨v,rfl,λp σ g w s j U=>?_⟩;obtain⟨v',r1,r2⟩:=Kp ok s (j x _ I) (FX j h2) (FX j h3) (FX j h4) h5 (λz hz=>U _ (by simp[bL,I,hz]));exact⟨v',by simp[execOp,J,r1],r2⟩
  ·cases e
 | fieldAddr t x f=>
  rw[J] at e;simp only[aQ] at e;split at e
  ·rename_i a R;obtain⟨v,I,rfl⟩:=val e;refine⟨v,rfl,λp σ g w s j U=>?_⟩;obtain⟨v',r1,r2⟩:=CB ok w (j x a R) I;exact⟨v',by simp[execOp,J,r1],r2⟩
  ·cases e
 | field t x f=>
  rw[J] at e;simp only[aQ] at e;split at e
  ·rename_i a R;obtain⟨v,I,rfl⟩:=val e;refine⟨v,rfl,λp σ g w s j U=>?_⟩;obtain⟨v',r1,r2⟩:=L8 ok w (j x a R) I;exact⟨v',by simp[execOp,J,r1],r2⟩
  ·cases e
 | indexAddr t x i=>
  rw[J] at e;simp only[aQ] at e;split at e
  ·rename_i a b R hy;obtain⟨v,I,rfl⟩:=val e;refine⟨v,rfl,λp σ g w s j U=>?_⟩;obtain⟨v',r1,r2⟩:=CF ok w (j x a R) (j i b hy) I;exact⟨v',by simp[execOp,J,r1],r2⟩
  ·cases e
 | index t x i=>
  rw[J] at e;simp only[aQ] at e;split at e
  ·rename_i a b R hy;obtain⟨v,I,rfl⟩:=val e;refine⟨v,rfl,λp σ g w s j U=>?_⟩;obtain⟨v',r1,r2⟩:=L9 ok w (j x a R) (j i b hy) I;exact⟨v',by simp[execOp,J,r1],r2⟩
  ·cases e
 | lookup t x k b=>
  rw[J] at e;simp only[aQ] at e;split at e
  ·rename_i m kk R hy;obtain⟨v,I,rfl⟩:=val e;refine⟨v,rfl,λp σ g w s j U=>?_⟩;obtain⟨v',r1,r2⟩:=Jr ok s (j x m R) (j k kk hy) (λz hz=>U _ (by simp[bL,R,hz])) I;exact⟨v',by simp[execOp,J,r1],r2⟩
  ·cases e
 | extract x i=>
  rw[J] at e;simp only[aQ] at e;split at e
  ·rename_i vs R;obtain⟨v,I,rfl⟩:=val e;refine⟨v,rfl,λp σ g w s j U=>?_⟩;cases vs with | mk vs=>
   obtain⟨cs,h2,h3⟩:=j x _ R;obtain⟨v',h4,h5⟩:=h3.get i v (by simpa using I);refine⟨v',?_,h5⟩;have:(⟨cs⟩:Array Value)[i]?=some v':=by simpa using h4
   simp[execOp,J,h2,Instr.extract,this]
  ·cases e
 | typeAssert x xt t b=>
  rw[J] at e;simp only[aQ] at e;split at e
  ·rename_i a R;obtain⟨v,I,rfl⟩:=val e;refine⟨v,rfl,λp σ g w s j U=>?_⟩;obtain⟨v',r1,r2⟩:=zL (P:=P) ok w (j x a R) xt I;exact⟨v',by simp[execOp,J,r1],r2⟩
  ·cases e
 | call c=>
  rw[J] at e hs;cases hc:c.callee with
  | invoke x m=>simp[cd,hc] at hs
  | value f=>simp[cd,hc] at hs
  | builtin b=>
   simp only[aQ,hc] at e;split at e
   ·rename_i as has;have af:∀(σ:bG) (p:Operand->Value),w6 σ ρ p->∃ab,(c.args.map p)=⟨ab⟩/\aZ σ as ab:=λσ p j=>
     ⟨c.args.toList.map p,by apply TI;simp,np j _ _ has⟩
    have az:∀{t:TypeId} {ts:List TypeId},c.argTypes.toList=t::ts->c.argTypes=⟨t::ts⟩:=λh=>by apply TI;simpa using h
    have hex:∃cs,∀(p:Operand->Value) (w:World),(execOp p o).run P w=(builtin b c.argTypes o.type cs (c.args.map p)).run P w:=
     ⟨_,λp w=>by simp only[execOp,J,resolve,hc,invoke,Sem.run_bind,Sem.run_pure,Result.andThen_ok];rfl⟩
    obtain⟨cs,hex⟩:=hex;simp only[cd,hc] at hs;cases b<;>first | (cases hs;done) | skip
    ·
     cases I:c.argTypes.toList with
     | nil=>simp[bD,I] at e
     | cons t ts=>
      rw[I] at e;rcases as with _ | ⟨x,_ | ⟨y,as⟩⟩
      ·cases e
      ·simp only[bD] at e;cases h2:MC C t x with
       | none=>rw[h2] at e;cases e
       | some v=>
        rw[h2] at e;simp only[Si,pr] at e;subst e;refine⟨v,rfl,λp σ g w s j U=>?_⟩;obtain⟨ab,q1,x',r,q2,q3,q4⟩:=af σ p j;have:r=[]:=q4;subst this;subst q2;obtain⟨v',r1,r2⟩:=OS ok w q3 ts o.type h2;exact⟨v',by rw[hex,az I,q1];simp[builtin,r1],r2⟩
      ·cases e
    ·
     cases I:c.argTypes.toList with
     | nil=>simp[bD,I] at e
     | cons t ts=>
      rw[I] at e;rcases as with _ | ⟨x,_ | ⟨y,as⟩⟩
      ·cases e
      ·cases ar:c.args.toList with
       | nil=>rw[ar] at has;cases has
       | cons ax bn=>
        simp only[bD] at e;cases h2:zX C h t x with
        | none=>rw[h2] at e;cases e
        | some v=>
         rw[h2] at e;simp only[Si,pr] at e;subst e;refine⟨v,rfl,λp σ g w s j U=>?_⟩;obtain⟨ab,q1,x',r,q2,q3,q4⟩:=af σ p j;have:r=[]:=q4;subst this;subst q2;have a0:ρ ax=some x:=by
          rw[ar] at has;unfold cZ at has;split at has
          ·rename_i h3 h4;simp only[pr,Te] at has;rw[h3,has.1]
          ·cases has
         obtain⟨v',r1,r2⟩:=Ou ok s q3 ts o.type h2 (λz hz=>U _ (by simp[bL,hc,ar,a0,hz]));exact⟨v',by rw[hex,az I,q1];simp[builtin,r1],r2⟩
      ·cases e
    ·
     obtain⟨k,k',a,b,rfl,rfl⟩:∃k k' a b,as=[.int k a,.int k' b]/\r=.val (.int k (if b > a then b else a)) h:=by
      unfold bD at e;split at e<;>first | contradiction | (simp only[Si,pr] at e;first | (cases e;done) | exact⟨_,_,_,_,rfl,e.symm⟩) | skip
     refine⟨_,rfl,λp σ g w s j U=>?_⟩;obtain⟨ab,q1,x',r,q2,q3,y',r2,q4,q5,q6⟩:=af σ p j;have:r2=[]:=q6;subst this;subst q4;subst q2;obtain rfl:=(show x'=_ from q3);obtain rfl:=(show y'=_ from q5);exact⟨_,by rw[hex,q1];simp[builtin,Builtin.max_,Builtin.max2],rfl⟩
    ·
     have av:(∃k k' a b,as=[.int k a,.int k' b]/\r=.val (.int k (if b<a then b else a)) h)\/
       (∃k k' a4 a b d,as=[.int k a,.int k' b,.int a4 d]/\r=.val (.int k (if d<(if b<a then b else a) then d else (if b<a then b else a))) h):=by
      unfold bD at e;split at e<;>first
       | contradiction
       | (simp only[Si,pr] at e;first | (cases e;done) | exact .inl ⟨_,_,_,_,rfl,e.symm⟩ | exact .inr ⟨_,_,_,_,_,_,rfl,e.symm⟩)
       | skip
     rcases av with ⟨k,k',a,b,rfl,rfl⟩ | ⟨k,k',a4,a,b,d,rfl,rfl⟩
     ·refine⟨_,rfl,λp σ g w s j U=>?_⟩;obtain⟨ab,q1,x',r,q2,q3,y',r2,q4,q5,q6⟩:=af σ p j;have:r2=[]:=q6;subst this;subst q4;subst q2;obtain rfl:=(show x'=_ from q3);obtain rfl:=(show y'=_ from q5);exact⟨_,by rw[hex,q1];simp[builtin,Builtin.min_,Builtin.min2],rfl⟩
     ·refine⟨_,rfl,λp σ g w s j U=>?_⟩;obtain⟨ab,q1,x',r,q2,q3,y',r2,q4,q5,z',r3,q6,q7,q8⟩:=af σ p j;have:r3=[]:=q8;subst this;subst q6;subst q4;subst q2;obtain rfl:=(show x'=_ from q3);obtain rfl:=(show y'=_ from q5);obtain rfl:=(show z'=_ from q7);exact⟨_,by rw[hex,q1];simp[builtin,Builtin.min_,Builtin.min2],rfl⟩
   ·cases e
 | _=>rw[J] at hs;cases hs
end
end Go.Abs
/-
 Soundness,fifteenth part: one operation that lays a block,stores,appends,or calls.
-/
namespace Go.Abs
open Go
section
variable {C:Ctx}{P:Program}
def J5(P:Program)(i:Operand->Value)(o:Oper)(σ:bG)(g:Nat->Option aC)(n:Nat)(w:World)(b:aC)(v:Value):Prop:=
 ∃l v' f,(execOp i o).run P w=.ok (.value v') f/\aV (db σ n (some l)) v v'/\dT (db σ n (some l)) (db g n (some b)) f/\Ev σ g n w (db σ n (some l)) (db g n (some b)) (n+1) f/\
  l.cf=w.heap.size/\f.heap.size=w.heap.size+1
theorem mh{f:Operand->Value}{o:Oper}{σ:bG}{g:Nat->Option aC}{n:Nat}{w:World}{b:aC}{v:Value}{i:Sem Value}
  (h:GO P σ g n w b v i) (he:∀v' j,i.run P w=.ok v' j->(execOp f o).run P w=.ok (.value v') j):J5 P f o σ g n w b v:=by obtain⟨l,v',j,p,q⟩:=h;exact⟨l,v',j,he v' j p,q⟩
theorem uQ(ok:C.Ok P){ρ:Operand->Option Value}{h:au}{o:Oper}{r:qy}(hs:sQ o.op=true)(e:aQ C ρ h o.op=some r) :
  ∃v b,b.ro=false/\r=.val v (h.alloc b)/\∀(j:Operand->Value) (σ:bG) (g:Nat->Option aC) (w:World),dT σ g w->σ h.next=none->w6 σ ρ j->J5 P j o σ g h.next w b v:=by cases I:o.op with| alloc t=>{rw[I] at e;simp only[aQ] at e;split at e;{rename_i z hz;cases e;exact⟨_,_,rfl,rfl,λj σ g w s R p=>mh (Kh ok s R hz) λv' w' U=>by simp[execOp,I,U]⟩};{cases e}}| box t x=>{rw[I] at e;simp only[aQ] at e;split at e;{rename_i y hy;cases e;exact⟨_,_,rfl,rfl,λj σ g w s R p=>mh (N5 s R t (p x y hy)) λv' w' U=>by simp[execOp,I,U]⟩};{cases e}}| buildSlice t n ps=>{rw[I] at e;simp only[aQ] at e;split at e;{rename_i ac hp;cases f:eI C h t n ac with| none=>{simp[f] at e}| some vh=>{obtain⟨v,h'⟩:=vh;simp[f] at e;subst e;obtain⟨b,J,hh,-⟩:∃b,b.ro=false/\h'=h.alloc b/\True:=by{unfold eI at f;split at f;{split at f;{rename_i n2 z a0 hz;cases hc:(Nat.ble (n*n2) 16777216&&Nat.blt 0 n2) with| false=>{simp only[hc,zy] at f;cases f}| true=>{simp only[hc,xf] at f;split at f;{cases f;exact⟨_,rfl,rfl,trivial⟩};{cases f}}};{cases f}};{cases f}};refine⟨v,b,J,by rw[hh],λj σ g w s R p=>?_⟩;obtain⟨q1,q2⟩:=zA p ps.toList ac hp;obtain⟨b2,ao,aa,hl⟩:=zW (parts':=ps.map λ(i,x)=>(i,j x)) (w:=w) ok s R (by simpa using q1) (by simpa using q2) f;have ab:b2=b:=by{have h1:(h.alloc b2).get h.next=(h.alloc b).get h.next:=by{rw[<-hh,<-aa]};simpa [au.dH] using h1};subst ab;exact mh hl λv' w' U=>by simp[execOp,I,U]}};{cases e}}| makeMap t x=>{rw[I] at e;cases x with| some x=>{cases e}| none=>{cases e;exact⟨_,_,rfl,rfl,λj σ g w s R p=>mh (Hm s R t) λv' w' U=>by simp[execOp,I,U]⟩}}| makeSlice t x y=>{rw[I] at e;simp only[aQ] at e;split at e;{rename_i l c hx hy;cases f:fI C h t l c with| none=>{simp[f] at e}| some vh=>{obtain⟨v,h'⟩:=vh;simp[f] at e;subst e;obtain⟨b,J,hh,-⟩:∃b,b.ro=false/\h'=h.alloc b/\True:=by{unfold fI at f;split at f;{split at f;{split at f;{cases f;exact⟨_,rfl,rfl,trivial⟩};{cases f}};{cases f}};{cases f}};refine⟨v,b,J,by rw[hh],λj σ g w s R p=>?_⟩;obtain⟨b2,ao,aa,hl⟩:=CO (w:=w) ok s R (p x l hx) (p y c hy) f;have ab:b2=b:=by{have h1:(h.alloc b2).get h.next=(h.alloc b).get h.next:=by{rw[<-hh,<-aa]};simpa [au.dH] using h1};subst ab;exact mh hl λv' w' U=>by simp[execOp,I,U]}};{cases e}}| _=>{rw[I] at hs;cases hs}
theorem gx(σ:bG):aV σ cl undef:=⟨[],rfl,rfl⟩
theorem jl(ok:C.Ok P){ρ:Operand->Option Value}{h:au}{o:Oper}{r:qy}(hs:ia o.op=true)(e:aQ C ρ h o.op=some r) :
  ∃b cs,bL ρ o.op=[b]/\r=.val cl (h.put b (some (.cells false cs)))/\(∃i,h.get b=some (.cells false i))/\
   ∀(j:Operand->Value) (σ:bG) (g:Nat->Option aC) (w:World) (n:Nat),dT σ g w->w6 σ ρ j->g b=h.get b->
   ∃l,(execOp j o).run P w=.ok .skip l/\dT σ (db g b (some (.cells false cs))) l/\Ev σ g n w σ (db g b (some (.cells false cs))) n l:=by cases R:o.op with| store t a x=>{rw[R] at e;simp only[aQ] at e;split at e;{rename_i p v hp hv;cases f:mW C h t p v with| none=>{simp[f] at e}| some h'=>{simp[f] at e;subst e;obtain⟨b,off,i,cs,rfl,U,hh⟩:∃b off i cs,p=.pointer (some ⟨b,off,none⟩)/\h.get b=some (.cells false i)/\h'=h.put b (some (.cells false cs)):=by{unfold mW at f;split at f;{rename_i b off;split at f;{rename_i cs sz hb ap;cases hc:(v.cells.toList.length==sz&&v.cells.toList.all one&&Nat.ble (off+sz) cs.length) with| false=>{simp only[hc,zy] at f;cases f}| true=>{simp only[hc,xf,pr] at f;exact⟨b,off,cs,_,rfl,hb,f.symm⟩}};{cases f}};{cases f}};refine⟨b,cs,by simp[bL,hp],by rw[hh],⟨i,U⟩,λj σ g w n s I hg=>?_⟩;obtain⟨b2,J,⟨o2,aa⟩,ab,l,q1,q2,q3⟩:=Lv (P:=P) ok s (I a _ hp) (I x _ hv) f (λz hz=>by cases hz;exact hg) n;cases aa;have ac:J=cs:=by{have h1:(h.put b (some (.cells false J))).get b=(h.put b (some (.cells false cs))).get b:=by{rw[<-hh,<-ab]};simpa [au.dL] using h1};subst ac;exact⟨l,by simp[execOp,R,q1],q2,q3⟩}};{cases e}}| _=>{rw[R] at hs;cases hs}
theorem Ak(ok:C.Ok P){ρ:Operand->Option Value}{h h':au}{o:Oper}{v:Value}(hs:fU o.op=true)(e:aQ C ρ h o.op=some (.val v h'))
  {ab:Operand->Value} {σ:bG} {w:World} (s:dT σ h.get w) (hw:∀i b,h.get i=some b->i<h.next) (l:w6 σ ρ ab) (hf:∀i,h.next<=i->i<h'.next->σ i=none) :
  ∃ac v' p,P9 ((execOp ab o).run P w) v' p/\aV ac v v'/\dT ac h'.get p/\Ev σ h.get h.next w ac h'.get h'.next p:=by
 cases I:o.op with
 | mapUpdate t m k x=>
  rw[I] at e;simp only[aQ] at e;split at e
  ·rename_i m1 k1 x1 h1 h2 h3;cases j:bW C h t m1 k1 x1 with
   | none=>simp[j] at e
   | some ap=>
    simp[j] at e;obtain⟨rfl,rfl⟩:=e;obtain⟨p,q1,q2,J,q4⟩:=rY (P:=P) ok s (l m _ h1) (l k _ h2) (l x _ h3) j;exact⟨σ,undef,p,.inr ⟨by simp[execOp,I,q1],rfl⟩,gx σ,J,q4⟩
  ·cases e
 | mapEntry t m k=>
  rw[I] at e;simp only[aQ] at e;split at e
  ·rename_i m1 k1 h1 h2;cases j:dI C h t m1 k1 with
   | none=>simp[j] at e
   | some vh=>
    obtain⟨v2,ap⟩:=vh;simp[j] at e;obtain⟨rfl,rfl⟩:=e;obtain⟨v',p,q1,q2,J,q4,q5⟩:=Dn (P:=P) ok s (l m _ h1) (l k _ h2) j;exact⟨σ,v',p,.inl (by simp[execOp,I,q1]),q2,q4,J▸q5⟩
  ·cases e
 | entryStore t m k x=>
  rw[I] at e;simp only[aQ] at e;split at e
  ·rename_i m1 k1 x1 h1 h2 h3;cases j:dg h m1 k1 x1 with
   | none=>simp[j] at e
   | some ap=>
    simp[j] at e;obtain⟨rfl,rfl⟩:=e;obtain⟨p,q1,q2,J,q4⟩:=zM (P:=P) s t (l m _ h1) (l k _ h2) (l x _ h3) j;exact⟨σ,undef,p,.inr ⟨by simp[execOp,I,q1],rfl⟩,gx σ,J,q4⟩
  ·cases e
 | insert t m k x=>
  rw[I] at e;simp only[aQ] at e;split at e
  ·rename_i m1 k1 x1 h1 h2 h3;cases j:bW C h t m1 k1 x1 with
   | none=>simp[j] at e
   | some ap=>
    simp[j] at e;obtain⟨rfl,rfl⟩:=e;obtain⟨p,q1,q2,J,q4⟩:=rY (P:=P) ok s (l m _ h1) (l k _ h2) (l x _ h3) j;exact⟨σ,undef,p,.inr ⟨by simp[execOp,I,q1],rfl⟩,gx σ,J,q4⟩
  ·cases e
 | call c=>
  rw[I] at e;cases hc:c.callee with
  | invoke x m=>
   simp only[aQ,hc] at e;split at e
   ·split at e
    ·split at e
     ·rename_i fn bc;cases hb:fn.body.isSome<;>simp[hb] at e
     ·cases e
    ·cases e
   ·cases e
  | value f=>
   simp only[aQ,hc] at e;split at e
   ·rename_i f1 as h1 h2;unfold kO at e;split at e
    ·split at e
     ·rename_i fn bc;cases hb:fn.body.isSome<;>simp[hb] at e
     ·cases e
    ·cases e
   ·cases e
  | builtin b=>
   simp only[aQ,hc] at e;split at e
   ·rename_i as has;obtain⟨ax,U,af⟩:∃ax,(c.args.map ab)=⟨ax⟩/\aZ σ as ax:=⟨c.args.toList.map ab,by apply TI;simp,np l _ _ has⟩;have be:∀{t:TypeId} {ts:List TypeId},c.argTypes.toList=t::ts->c.argTypes=⟨t::ts⟩:=λh=>by apply TI;simpa using h
    obtain⟨cs,hex⟩:∃cs,(execOp ab o).run P w=(builtin b c.argTypes o.type cs (c.args.map ab)).run P w:=
     ⟨_,by simp only[execOp,I,resolve,hc,invoke,Sem.run_bind,Sem.run_pure,Result.andThen_ok];rfl⟩
    cases g:bD C h b c.argTypes.toList as with
    | none=>simp[g] at e
    | some vh=>
     obtain⟨v2,h2⟩:=vh;simp[g] at e;obtain⟨rfl,rfl⟩:=e;rw[I] at hs;simp only[fU,sQ,cd,ia,hc,TD,Bool.true_and,Uc] at hs;cases az:c.argTypes.toList with
     | nil=>
      rw[az] at g;cases b<;>first | (cases hs;done) | (simp[bD] at g)
     | cons t ts=>
      rw[az] at g;have aa:=be az;cases b<;>first | (cases hs;done) | skip
      all_goals first | (simp[bD] at g;done) | skip
      ·
       rcases as with _ | ⟨x,_ | ⟨y,_ | ⟨z,as⟩⟩⟩
       ·cases g
       ·cases g
       ·simp only[bD] at g;obtain⟨x',r,rfl,J,y',r2,rfl,q5,q6⟩:=af;have:r2=[]:=q6;subst this;obtain⟨ac,v',p,p1,p2,p3,p4⟩:=JR (P:=P) ok s hw o.type J q5 g hf;exact⟨ac,v',p,.inl (by rw[hex,U,aa];simp[builtin,p1]),p2,p3,p4⟩
       ·cases g
      ·
       rcases as with _ | ⟨x,_ | ⟨y,as⟩⟩
       ·cases g
       ·simp only[bD] at g;cases R:kQ C h t x with
        | none=>rw[R] at g;cases g
        | some h3=>
         rw[R] at g;simp only[Si,pr,R7] at g;obtain⟨rfl,rfl⟩:=g;obtain⟨x',r,rfl,J,q4⟩:=af;have:r=[]:=q4;subst this;obtain⟨p,p1,p2,p3,p4⟩:=K8 (P:=P) (ts:=ts) ok s o.type J R;exact⟨σ,cl,p,.inl (by rw[hex,U,aa];simp[builtin,p1]),gx σ,p3,p4⟩
       ·cases g
      ·
       rcases as with _ | ⟨x,_ | ⟨y,_ | ⟨z,as⟩⟩⟩
       ·cases g
       ·cases g
       ·simp only[bD] at g;obtain⟨x',r,rfl,J,y',r2,rfl,q5,q6⟩:=af;have:r2=[]:=q6;subst this;obtain⟨v',p,p1,p2,p3,p4,p5⟩:=Nh (P:=P) (ts:=ts) ok s o.type J q5 g;exact⟨σ,v',p,.inl (by rw[hex,U,aa];simp[builtin,p1]),p3,p4,p5⟩
       ·cases g
      ·
       rcases as with _ | ⟨x,_ | ⟨y,_ | ⟨z,as⟩⟩⟩
       ·cases g
       ·cases g
       ·simp only[bD] at g;cases R:hZ C h t x y with
        | none=>rw[R] at g;cases g
        | some h3=>
         rw[R] at g;simp only[Si,pr,R7] at g;obtain⟨rfl,rfl⟩:=g;obtain⟨x',r,rfl,J,y',r2,rfl,q5,q6⟩:=af;have:r2=[]:=q6;subst this;obtain⟨p,p1,p2,p3,p4⟩:=Iw (P:=P) (ts:=ts) ok s o.type J q5 R;exact⟨σ,cl,p,.inl (by rw[hex,U,aa];simp[builtin,p1];rfl),gx σ,p3,p4⟩
       ·cases g
   ·cases e
 | alloc t=>rw[I] at hs;cases hs
 | box t x=>rw[I] at hs;cases hs
 | buildSlice t n ps=>rw[I] at hs;cases hs
 | makeMap t x=>rw[I] at hs;cases hs
 | makeSlice t x y=>rw[I] at hs;cases hs
 | store t a x=>rw[I] at hs;cases hs
 | _=>first | (rw[I] at hs;cases hs;done) | (rw[I] at e;cases e)
theorem zF(ok:C.Ok P){ρ:Operand->Option Value}{h:au}{o:Oper}{f:FuncId}{args:List Value}(e:aQ C ρ h o.op=some (.call f args))
  {j:Operand->Value} {σ:bG} {w:World} (p:w6 σ ρ j) (s:dT σ h.get w):∃args',(execOp j o).run P w=.ok (.enter f ⟨args'⟩) w/\aZ σ args args':=by
 have R:∀{x:Option Value},(x.map λv=>qy.val v h)=some (.call f args)->False:=by intro x hx;cases x<;>cases hx
 have l:∀{x:Option (Value×au)},(x.map λr=>qy.val r.1 r.2)=some (.call f args)->False:=by intro x hx;cases x<;>cases hx
 have J:∀{x:Option au},(x.map λh=>qy.val cl h)=some (.call f args)->False:=by intro x hx;cases x<;>cases hx
 cases ho:o.op with
 | call c=>
  rw[ho] at e;cases hc:c.callee with
  | invoke ro name=>
   simp only[aQ,hc] at e;split at e
   ·rename_i x as h1 h2;split at e
    ·rename_i g recv hm;split at e
     ·rename_i fn U;cases hb:fn.body.isSome with
      | false=>simp[hb] at e
      | true=>
       simp only[hb,xf,pr,qy.call.injEq] at e;obtain⟨rfl,rfl⟩:=e;have r3:=np p _ _ h2;obtain⟨t,q1,q2⟩:=IQ (P:=P) ok s (p ro _ h1) hm U hb (c.args.toList.map j);refine⟨t::c.args.toList.map j,?_,⟨t,_,rfl,q1,r3⟩⟩;have I:(#[j ro]++c.args.map j).extract 1 (#[j ro]++c.args.map j).size=⟨c.args.toList.map j⟩:=by apply TI;simp[pf]
       have h0:((#[j ro]++c.args.map j:Array Value)[0]?:Option Value)=some (j ro):=by rw[Array.getElem?_append_left (by simp)];rfl
       have an:(execOp j o).run P w=(invoke (.fn (.method name) #[]) (#[j ro]++c.args.map j)).run P w:=by
        simp only[execOp,ho,resolve,hc,Sem.run_bind,Sem.run_pure,Result.andThen_ok]
       rw[an];simp only[invoke,h0,I,q2]
     ·cases e
    ·cases e
   ·cases e
  | builtin b=>
   simp only[aQ,hc] at e;split at e
   ·exact(l e).elim
   ·cases e
  | value fo=>
   simp only[aQ,hc] at e;split at e
   ·rename_i f1 as h1 h2;unfold kO at e;split at e
    ·rename_i i first captured
     split at e
     ·rename_i fn U;cases hb:fn.body.isSome with
      | false=>simp[hb] at e
      | true=>
       simp only[hb,xf,pr,qy.call.injEq] at e;obtain⟨rfl,rfl⟩:=e;cases first with | mk first=>
       cases captured with | mk captured=>
       obtain⟨ab,ac,ao,r1,r2⟩:=p fo _ h1;have r3:=np p _ _ h2;refine⟨ab++c.args.toList.map j++ac,?_,(r1.app r3).app r2⟩;have I:(⟨ab⟩:Array Value)++c.args.map j++⟨ac⟩=⟨ab++c.args.toList.map j++ac⟩:=by apply TI;simp
       simp only[execOp,ho,resolve,hc,Sem.run_bind,ao,Deferred.ofValue,Sem.run_pure,Result.andThen_ok,invoke,I];exact ok.call i fn U hb _ w
     ·cases e
    ·cases e
   ·cases e
 | _=>
  rw[ho] at e;exfalso;clear ho p;simp only[aQ] at e
  repeat' split at e
  all_goals first
   | (cases e;done)
   | exact R e
   | exact l e
   | exact J e
   | contradiction
end
end Go.Abs