/-
  The abstract machine is sound, first part: relations between values, aggregates, loads, equality.
-/
import Derived.Test.YtmbdmfjijofmmaaGreatDoorAbs0
import Derived.Laws.Append
import Derived.Laws.CopyRow
import Derived.Laws.Rows
import Derived.Laws.StructEq
import Derived.ChangeKeysEq
/-
 Soundness,first part: what the model's operations do where the abstract ones give a result.
-/
namespace Go.Abs
open Go
structure Ctx.Ok(C:Ctx)(P:Program):Prop where
 info:∀t i,C.info t=some i->P.info? t=some i
 func:∀f fn,C.func f=some fn->P.funcs[f]?=some fn
 call:∀f fn,C.func f=some fn->fn.body.isSome=true->∀args w,(callFunc f args).run P w=.ok (.enter f args) w
 flat:∀t,C.flat t=true->P.stoodInHeld t=false/\P.eqGuardType P.depth t=false/\∀fs,C.gQ t=some (.struct fs)->∀f∈fs.toList,f.name≠ "_"
 mixed:P.follows .mixedOrders=true
section
variable {C:Ctx}{P:Program}
theorem aC(ok:C.Ok P){t:TypeId}{d:TypeDesc}(h:C.gQ t=some d):P.underlying t=some d:=by
 unfold Ctx.gQ at h;unfold Program.underlying;cases hi:C.info t with
 | none=>simp[hi] at h
 | some i=>
  simp only[hi] at h;rw[ok.info t i hi];cases i with
  | mk desc str size bytes hp al fa zero comp ms=>
   cases desc with
   | named n u=>
    simp only at h ⊢;cases hu:C.info u with
    | none=>simp[hu] at h
    | some j=>rw[ok.info u j hu];simpa [hu] using h
   | _=>simpa using h
theorem oL(ok:C.Ok P){t:TypeId}{n:Nat}(h:C.size t=some n):∃i,P.info? t=some i/\i.size=n:=by
 unfold Ctx.size at h;cases hi:C.info t with
 | none=>simp[hi] at h
 | some i=>exact⟨i,ok.info t i hi,by simpa [hi] using h⟩
theorem wq(ok:C.Ok P){t:TypeId}{n:Nat}(h:C.bytes t=some n):∃i,P.info? t=some i/\i.bytes=n:=by
 unfold Ctx.bytes at h;cases hi:C.info t with
 | none=>simp[hi] at h
 | some i=>exact⟨i,ok.info t i hi,by simpa [hi] using h⟩
theorem oB(ok:C.Ok P){t:TypeId}{z:Value}(h:C.zero t=some z):∃i,P.info? t=some i/\i.zero=some z/\plain z=true/\z.cells.size=i.size:=by
 unfold Ctx.zero at h;cases hi:C.info t with
 | none=>simp[hi] at h
 | some i=>
  simp only[hi] at h;cases hz:i.zero with
  | none=>simp[hz] at h
  | some y=>
   simp only[hz] at h;cases hp:(plain y&&y.cells.size==i.size) with
   | false=>simp[hp] at h
   | true=>
    simp only[hp,OF,IT] at h;subst h;simp only[IN,Sb] at hp;exact⟨i,ok.info t i hi,hz,hp.1,hp.2⟩
theorem bB(ok:C.Ok P){t:TypeId}{n:Nat}(h:C.size t=some n)(w:World):(sizeOf t).run P w=.ok n w:=by
 obtain⟨i,hi,rfl⟩:=oL ok h;simp[sizeOf,typeInfo,hi]
theorem uE(ok:C.Ok P){t:TypeId}{d:TypeDesc}(h:C.gQ t=some d)(w:World):(isAgg t).run P w=.ok (tt d) w:=by
 unfold isAgg;rw[Sem.run_bind,run_underlying (aC ok h) w];cases d<;>rfl
theorem dT(ok:C.Ok P){t:TypeId}{z:Value}(h:C.zero t=some z)(w:World):(zeroValue t).run P w=.ok z w:=by
 obtain⟨i,hi,hz,_,_⟩:=oB ok h;simp[zeroValue,typeInfo,hi,hz]
theorem gB(ok:C.Ok P){t:TypeId}{z:Value}(h:C.zero t=some z):plain z=true:=(oB ok h).choose_spec.2.2.1
def bY(σ:aZ):List (Value×Value)->List MapEntry->Prop
 | [],l=>l=[]
 | (k,v)::es,l=>∃e r,l=e::r/\aJ σ k e.key/\aJ σ v e.val/\bY σ es r
def kS(σ:aZ)(w:World)(l:Loc):aD->Prop
 | .cells ro cs=>∃arr ty fr,w.heap[l.bp]?=some (.cells arr ty fr)/\arr.size=l.size/\(ro=false->fr=(0,0))/\l.off+cs.length<=arr.size/\
   aH σ cs ((arr.toList.drop l.off).take cs.length)
 | .map es=>∃es',w.heap[l.bp]?=some (.map es' es.length)/\bY σ (alive es) es'.toList/\es'.toList.map (·.born)=stamps 0 es
structure cP(σ:aZ)(g:Nat->Option aD)(w:World):Prop where
 bp:∀i b,g i=some b->∃l,σ i=some l/\kS σ w l b
 inj:∀i j b c li lj,g i=some b->g j=some c->i≠j->(b.ro=false\/c.ro=false)->σ i=some li->σ j=some lj->li.bp≠lj.bp
theorem bY.mono{σ τ:aZ}(h:aZ.le σ τ):∀{es:List (Value×Value)} {l:List MapEntry},bY σ es l->bY τ es l
 | [],_,r=>r
 | (_,_)::_,_,⟨e,r,q,a,b,s⟩=>⟨e,r,q,a.mono h,b.mono h,bY.mono h s⟩
theorem kS.mono{σ τ:aZ}(h:aZ.le σ τ){w:World}{l:Loc}:∀{b:aD},kS σ w l b->kS τ w l b
 | .cells _ _,⟨a,t,f,q1,q2,q3,q4,r⟩=>⟨a,t,f,q1,q2,q3,q4,r.mono h⟩
 | .map _,⟨e,q,r,s⟩=>⟨e,q,r.mono h,s⟩
theorem kS.world{σ:aZ}{w w':World}{l:Loc}(e:w'.heap[l.bp]?=w.heap[l.bp]?):∀{b:aD},kS σ w l b->kS σ w' l b
 | .cells _ _,⟨a,t,f,q1,q⟩=>⟨a,t,f,by rw[e];exact q1,q⟩
 | .map _,⟨x,q,r⟩=>⟨x,by rw[e];exact q,r⟩
theorem kS.lt{σ:aZ}{w:World}{l:Loc}{b:aD}(h:kS σ w l b):l.bp<w.heap.size:=by
 cases b with
 | cells ro cs=>obtain⟨a,t,f,q,_⟩:=h;exact(Ro.1 q).1
 | map es=>obtain⟨e,q,_⟩:=h;exact(Ro.1 q).1
theorem cP.sub{σ:aZ}{g g':Nat->Option aD}{w:World}(h:cP σ g w)(hs:∀i b,g' i=some b->g i=some b):cP σ g' w:=
 ⟨λi b q=>h.bp i b (hs i b q),λi j b c li lj p q=>h.inj i j b c li lj (hs i b p) (hs j c q)⟩
theorem gX(b o n:Nat):(⟨b,o,none⟩:Addr).add n=⟨b,o+n,none⟩:=by
 unfold Addr.add;split
 ·rename_i h;subst h;rfl
 ·rfl
theorem eF{cs:List Value}{off n:Nat}{l:List Value}(h:bF cs off n=some l):l=(cs.drop off).take n/\l.length=n:=by
 unfold bF at h;cases hb:(((cs.drop off).take n).length==n) with
 | false=>simp only[hb,Ri] at h;cases h
 | true=>
  simp only[hb,OF,IT] at h;subst h;exact⟨rfl,by simpa using hb⟩
theorem Iu{σ:aZ}{w:World}{l:Loc}{arr:Array Value}{ty:TypeId}{fr:Nat×Nat}{cs:List Value}
  (hg:w.heap[l.bp]?=some (.cells arr ty fr)) (hv:aH σ cs ((arr.toList.drop l.off).take cs.length)) (i:Nat) (v:Value) (hi:cs[i]?=some v) :
  ∃v',w.cell? ⟨l.bp,l.off+i,none⟩=some v'/\aJ σ v v':=by
 obtain⟨v',hv',r⟩:=hv.get i v hi;have hlt:i<cs.length:=(RH.1 hi).1;refine⟨v',?_,r⟩;rw[cell_of_row w l.bp (l.off+i) arr ty fr hg];rw[RD,If hlt,RI] at hv';simpa using hv'
theorem qY{σ:aZ}{w:World}{l:Loc}{arr:Array Value}{ty:TypeId}{fr:Nat×Nat}{cs:List Value}
  (hg:w.heap[l.bp]?=some (.cells arr ty fr)) (hv:aH σ cs ((arr.toList.drop l.off).take cs.length))
  (off n:Nat) (x:List Value) (hp:bF cs off n=some x) :
  ∃x',(loadCells ⟨l.bp,l.off+off,none⟩ n).run P w=.ok ⟨x'⟩ w/\aH σ x x':=by
 obtain⟨rfl,hl⟩:=eF hp;have hr:aH σ ((cs.drop off).take n) ((((arr.toList.drop l.off).take cs.length).drop off).take n):=(hv.drop off).take n;have hlen:((((arr.toList.drop l.off).take cs.length).drop off).take n).length=n:=by rw[hr.length,hl]
 refine⟨_,?_,hr⟩
 have:=run_loadCells_list (P:=P) w ⟨l.bp,l.off+off,none⟩ ((((arr.toList.drop l.off).take cs.length).drop off).take n) (λj v hj=>by
  have hjn:j<n:=by
   have:=(RH.1 hj).1;omega
  rw[gX,cell_of_row w l.bp _ arr ty fr hg];rw[RD,If hjn,RI,RD] at hj;split at hj
  ·rw[RI] at hj;rw[<-RE,show l.off+off+j=l.off+(off+j) from by omega];exact hj
  ·cases hj)
 rw[hlen] at this;exact this
theorem GA(ok:C.Ok P){σ:aZ}{w:World}{l:Loc}{arr:Array Value}{ty:TypeId}{fr:Nat×Nat}{cs:List Value}
  (hg:w.heap[l.bp]?=some (.cells arr ty fr)) (hv:aH σ cs ((arr.toList.drop l.off).take cs.length))
  {t:TypeId} {off:Nat} {v:Value} (h:eI C cs t off=some v) :
  ∃v',(loadVar t ⟨l.bp,l.off+off,none⟩).run P w=.ok v' w/\aJ σ v v':=by
 unfold eI at h;cases hd:C.gQ t with
 | none=>simp[hd] at h
 | some d=>
  simp only[hd] at h;cases ha:tt d with
  | true=>
   simp only[ha,OF] at h;cases hs:C.size t with
   | none=>simp[hs] at h
   | some n=>
    simp only[hs] at h;cases hp:bF cs off n with
    | none=>simp[hp] at h
    | some x=>
     simp only[hp,RU,IT] at h;subst h;obtain⟨x',hx,hr⟩:=qY (P:=P) hg hv off n x hp;refine⟨.agg ⟨x'⟩,?_,⟨x',rfl,hr⟩⟩;simp[loadVar,uE ok hd,ha,bB ok hs,hx]
  | false=>
   simp only[ha,Ri] at h;obtain⟨v',hc,r⟩:=Iu hg hv off v h;refine⟨v',?_,r⟩;simp[loadVar,uE ok hd,ha,hc]
theorem fB(ok:C.Ok P){σ:aZ}{w:World}{cs cs':List Value}(hv:aH σ cs cs'){t:TypeId}{off:Nat}{v:Value}(h:eI C cs t off=some v) :
  ∃v',(part t ⟨cs'⟩ off).run P w=.ok v' w/\aJ σ v v':=by
 unfold eI at h;cases hd:C.gQ t with
 | none=>simp[hd] at h
 | some d=>
  simp only[hd] at h;cases ha:tt d with
  | true=>
   simp only[ha,OF] at h;cases hs:C.size t with
   | none=>simp[hs] at h
   | some n=>
    simp only[hs] at h;cases hp:bF cs off n with
    | none=>simp[hp] at h
    | some x=>
     simp only[hp,RU,IT] at h;subst h;obtain⟨rfl,hl⟩:=eF hp;refine⟨.agg ⟨(cs'.drop off).take n⟩,?_,⟨_,rfl,(hv.drop off).take n⟩⟩;simp only[part,Sem.run_bind,uE ok hd,ha,Result.andThen_ok,Sv,bB ok hs,Sem.run_pure];congr 2;apply Ts;simp
  | false=>
   simp only[ha,Ri] at h;obtain⟨v',hc,r⟩:=hv.get off v h;refine⟨v',?_,r⟩;simp[part,uE ok hd,ha,hc]
end
end Go.Abs
/-
 Soundness,second part: memory written,blocks laid.
-/
namespace Go.Abs
open Go
def dh{α:Type}(f:Nat->Option α)(i:Nat)(x:Option α):Nat->Option α:=λj=>if j=i then x else f j
theorem bE{α:Type}(f:Nat->Option α)(i:Nat)(x:Option α):dh f i x i=x:=by simp[dh]
theorem cb{α:Type}(f:Nat->Option α){i j:Nat}(x:Option α)(h:j≠i):dh f i x j=f j:=by simp[dh,h]
theorem aZ.lV{σ:aZ}{n:Nat}{l:Option Loc}(h:σ n=none):aZ.le σ (dh σ n l):=λi m e=>by
 by_cases hi:i=n
 ·subst hi;rw[h] at e;cases e
 ·rw[cb _ _ hi];exact e
theorem aq.dK(h:aq)(i:Nat)(b:Option aD):(h.put i b).get=dh h.get i b:=by
 funext j;rw[aq.dt];rfl
theorem aq.gC(h:aq)(b:aD):(h.alloc b).get=dh h.get h.next (some b):=by
 funext j;rw[aq.dI];rfl
structure Ev(σ:aZ)(g:Nat->Option aD)(n:Nat)(w:World)(σ':aZ)(g':Nat->Option aD)(n':Nat)(w':World):Prop where
 size:w.heap.size<=w'.heap.size
 os:w'.os=w.os
 out:w'.output=w.output
 tape:w'.tape=w.tape
 kx:∀b,b<w.heap.size->(∀i B l,g i=some B->B.ro=false->σ i=some l->l.bp≠b)->w'.heap[b]?=w.heap[b]?
 own:∀i B l,g' i=some B->B.ro=false->σ' i=some l->w.heap.size<=l.bp\/∃j D m,g j=some D/\D.ro=false/\σ j=some m/\m.bp=l.bp
 sig:∀i,i<n\/n'<=i->σ' i=σ i
theorem Ev.refl(σ:aZ)(g:Nat->Option aD)(n:Nat)(w:World):Ev σ g n w σ g n w:=
 ⟨AS _,rfl,rfl,rfl,λ_ _ _=>rfl,λi B l h r s=>.inr ⟨i,B,l,h,r,s,rfl⟩,λ_ _=>rfl⟩
theorem Ev.trans{σ:aZ}{g:Nat->Option aD}{n:Nat}{w:World}{σ1:aZ}{g1:Nat->Option aD}{n1:Nat}{w1:World}{σ2:aZ}{g2:Nat->Option aD}{n2:Nat}{w2:World}
  (a:Ev σ g n w σ1 g1 n1 w1) (b:Ev σ1 g1 n1 w1 σ2 g2 n2 w2) (h:n<=n1) (h':n1<=n2):Ev σ g n w σ2 g2 n2 w2 where
 size:=AI a.size b.size
 os:=b.os.trans a.os
 out:=b.out.trans a.out
 tape:=b.tape.trans a.tape
 kx:=λk hk hn=>by
  rw[b.kx k (Sc hk a.size) (λi B l hg hr hs hb=>?_),a.kx k hk hn];rcases a.own i B l hg hr hs with h1 | ⟨j,D,m,h1,h2,h3,h4⟩
  ·omega
  ·exact hn j D m h1 h2 h3 (h4.trans hb)
 own:=λi B l hg hr hs=>by
  rcases b.own i B l hg hr hs with h1 | ⟨j,D,m,h1,h2,h3,h4⟩
  ·exact .inl (AI a.size h1)
  ·rcases a.own j D m h1 h2 h3 with h5 | ⟨k,E,q,h5,h6,h7,h8⟩
   ·exact .inl (by omega)
   ·exact .inr ⟨k,E,q,h5,h6,h7,h8.trans h4⟩
 sig:=λi hi=>by
  rw[b.sig i (by omega),a.sig i (by omega)]
theorem Ev.le{σ:aZ}{g:Nat->Option aD}{n:Nat}{w:World}{σ1:aZ}{g1:Nat->Option aD}{n1:Nat}{w1:World}
  (a:Ev σ g n w σ1 g1 n1 w1) (hf:∀i,n<=i->i<n1->σ i=none):aZ.le σ σ1:=λi l e=>by
 by_cases h:n<=i/\i<n1
 ·rw[hf i h.1 h.2] at e;cases e
 ·rw[a.sig i (by omega)];exact e
theorem DG(A vs cs:List Value)(lo off:Nat)(h:off+vs.length<=cs.length)(hA:lo+cs.length<=A.length) :
  ((A.take (lo+off)++vs++A.drop (lo+off+vs.length)).drop lo).take cs.length=aV ((A.drop lo).take cs.length) off vs:=by
 unfold aV;apply R5;intro i;have h1:(A.take (lo+off)).length=lo+off:=by rw[RK];omega
 have h2:(((A.drop lo).take cs.length).take off).length=off:=by simp;omega
 by_cases hi:i<cs.length
 ·rw[RD,If hi,RI,RY];by_cases hio:i<off
  ·rw[Rj (l₁:=A.take (lo+off)) (by omega),Rj (l₁:=((A.drop lo).take cs.length).take off) (by omega)];simp only[RD,RI];rw[If (by omega),If hio,If hi]
  ·rw[Rs (l₁:=A.take (lo+off)) (by omega),Rs (l₁:=((A.drop lo).take cs.length).take off) (by omega),h1,h2];have e:lo+i-(lo+off)=i-off:=by omega
   rw[e];by_cases hiv:i-off<vs.length
   ·rw[Rj hiv,Rj hiv]
   ·rw[Rs (by omega),Rs (by omega)];simp only[RD,RI];rw[If (by omega)];congr 1;omega
 ·rw[Ry (by rw[RK];omega)];symm;apply Ry;simp only[Rf,RK,List.length_drop];omega
theorem jV(cs vs:List Value)(off:Nat)(h:off+vs.length<=cs.length):(aV cs off vs).length=cs.length:=by
 unfold aV;simp;omega
theorem aH.Ir{σ:aZ}{cs cs' vs vs':List Value}(off:Nat)(h:aH σ cs cs')(hv:aH σ vs vs'):aH σ (aV cs off vs) (aV cs' off vs'):=by
 unfold aV;rw[hv.length];exact(h.take off).app (hv.app (h.drop _))
theorem cP.write{σ:aZ}{g:Nat->Option aD}{w:World}(s:cP σ g w){i:Nat}{cs cs':List Value}{l:Loc}(hg:g i=some (.cells false cs))(hl:σ i=some l)
  {arr:Array Value} {ty:TypeId} (hw:w.heap[l.bp]?=some (.cells arr ty (0,0))) (arr':Array Value) (ha:arr'.size=l.size) (hle:l.off+cs'.length<=arr'.size)
  (hv:aH σ cs' ((arr'.toList.drop l.off).take cs'.length)):cP σ (dh g i (some (.cells false cs'))) (w.setRow l.bp arr') where
 bp:=λj b hb=>by
  by_cases hj:j=i
  ·subst hj;rw[bE] at hb;cases hb;exact⟨l,hl,arr',ty,(0,0),setRow_heap w l.bp arr arr' ty (0,0) hw,ha,λ_=>rfl,hle,hv⟩
  ·rw[cb _ _ hj] at hb;obtain⟨m,hm,r⟩:=s.bp j b hb;refine⟨m,hm,r.world (setRow_other w l.bp m.bp arr' ?_)⟩;exact s.inj j i b _ m l hb hg hj (.inr rfl) hm hl
 inj:=λj k b c lj lk hb hc hjk hr hlj hlk=>by
  have key:∀j b,dh g i (some (.cells false cs')) j=some b->∃b0,g j=some b0/\b0.ro=b.ro:=by
   intro j b hb;by_cases hj:j=i
   ·subst hj;rw[bE] at hb;cases hb;exact⟨_,hg,rfl⟩
   ·rw[cb _ _ hj] at hb;exact⟨b,hb,rfl⟩
  obtain⟨b0,h1,h2⟩:=key j b hb;obtain⟨c0,h3,h4⟩:=key k c hc;exact s.inj j k b0 c0 lj lk h1 h3 hjk (by rw[h2,h4];exact hr) hlj hlk
theorem Ev.write{σ:aZ}{g:Nat->Option aD}{w:World}{i:Nat}{cs cs':List Value}{l:Loc}(n:Nat)(hg:g i=some (.cells false cs))(hl:σ i=some l)(arr':Array Value) :
  Ev σ g n w σ (dh g i (some (.cells false cs'))) n (w.setRow l.bp arr') where
 size:=by simp
 os:=rfl
 out:=rfl
 tape:=rfl
 kx:=λb _ hn=>setRow_other w l.bp b arr' (Ne.symm (hn i _ l hg rfl hl))
 own:=λj B m hb hr hs=>by
  by_cases hj:j=i
  ·subst hj;exact .inr ⟨j,_,m,hg,rfl,hs,rfl⟩
  ·rw[cb _ _ hj] at hb;exact .inr ⟨j,B,m,hb,hr,hs,rfl⟩
 sig:=λ_ _=>rfl
theorem cP.alloc{σ:aZ}{g:Nat->Option aD}{w w':World}(s:cP σ g w){n:Nat}(hn:σ n=none){l:Loc}(hl:l.bp=w.heap.size)
  (hold:∀b,b<w.heap.size->w'.heap[b]?=w.heap[b]?) {b:aD} (hb:kS (dh σ n (some l)) w' l b):cP (dh σ n (some l)) (dh g n (some b)) w' where
 bp:=λj c hc=>by
  by_cases hj:j=n
  ·subst hj;rw[bE] at hc;cases hc;exact⟨l,bE _ _ _,hb⟩
  ·rw[cb _ _ hj] at hc;obtain⟨m,hm,r⟩:=s.bp j c hc;exact⟨m,by rw[cb _ _ hj];exact hm,(r.mono (aZ.lV hn)).world (hold _ r.lt)⟩
 inj:=λj k b1 c lj lk hb1 hc hjk hr hlj hlk=>by
  have key:∀j b1 lj,dh g n (some b) j=some b1->dh σ n (some l) j=some lj->j≠n->lj.bp<w.heap.size:=by
   intro j b1 lj h1 h2 hj;rw[cb _ _ hj] at h1 h2;obtain⟨m,hm,r⟩:=s.bp j b1 h1;rw[h2] at hm;cases hm;exact r.lt
  by_cases hj:j=n
  ·subst hj;rw[bE] at hlj;cases hlj;have:=key k c lk hc hlk (Ne.symm hjk);omega
  ·by_cases hk:k=n
   ·subst hk;rw[bE] at hlk;cases hlk;have:=key j b1 lj hb1 hlj hj;omega
   ·rw[cb _ _ hj] at hb1 hlj;rw[cb _ _ hk] at hc hlk;exact s.inj j k b1 c lj lk hb1 hc hjk hr hlj hlk
theorem Ev.alloc{σ:aZ}{g:Nat->Option aD}{w w':World}{n:Nat}{l:Loc}(hl:l.bp=w.heap.size)
  (hsz:w.heap.size<=w'.heap.size) (hold:∀b,b<w.heap.size->w'.heap[b]?=w.heap[b]?) (hos:w'.os=w.os) (hout:w'.output=w.output) (htape:w'.tape=w.tape) (b:aD) :
  Ev σ g n w (dh σ n (some l)) (dh g n (some b)) (n+1) w' where
 size:=hsz
 os:=hos
 out:=hout
 tape:=htape
 kx:=λk hk _=>hold k hk
 own:=λj B m hb hr hs=>by
  by_cases hj:j=n
  ·subst hj;rw[bE] at hs;cases hs;exact .inl (Nat.le_of_eq hl.symm)
  ·rw[cb _ _ hj] at hb hs;exact .inr ⟨j,B,m,hb,hr,hs,rfl⟩
 sig:=λi hi=>cb _ _ (by omega)
theorem A5{σ:aZ}{g:Nat->Option aD}{w:World}(s:cP σ g w){n:Nat}(hn:σ n=none)(elem:TypeId){cs cs':List Value}(hv:aH σ cs cs') :
  let l:Loc:=⟨w.heap.size,0,cs'.length⟩;let w':=w.alloc (.cells ⟨cs'⟩ elem)
  cP (dh σ n (some l)) (dh g n (some (.cells false cs))) w'/\Ev σ g n w (dh σ n (some l)) (dh g n (some (.cells false cs))) (n+1) w':=by
 have hold:∀b,b<w.heap.size->(w.alloc (.cells ⟨cs'⟩ elem)).heap[b]?=w.heap[b]?:=λb hb=>heap_alloc_old w _ b hb;refine⟨s.alloc hn rfl hold ?_,Ev.alloc rfl (by simp) hold rfl rfl rfl _⟩;refine⟨⟨cs'⟩,elem,(0,0),heap_alloc_new w _,rfl,λ_=>rfl,?_,?_⟩
 ·simp[hv.length]
 ·have:=hv.mono (aZ.lV (l:=some ⟨w.heap.size,0,cs'.length⟩) hn);rw[<-hv.length];simpa using this
theorem Ez(σ:aZ)(n:Nat)(l:Loc)(h:l.off=0):aJ (dh σ n (some l)) (.pointer (some ⟨n,0,none⟩)) (.pointer (some ⟨l.bp,0,none⟩)):=
 ⟨l,bE _ _ _,rfl,by simp[h]⟩
end Go.Abs
/-
 Soundness,third part: operations that leave memory as it is.
-/
namespace Go.Abs
open Go
section
variable {C:Ctx}{P:Program}
theorem lX{h:aq}{b:Nat}{cs:List Value}(e:iv h b=some cs):∃ro,h.get b=some (.cells ro cs):=by
 unfold iv at e;cases hb:h.get b with
 | none=>simp[hb] at e
 | some x=>cases x with
  | cells ro l=>simp[hb] at e;subst e;exact⟨ro,rfl⟩
  | map m=>simp[hb] at e
theorem cP.cells{σ:aZ}{g:Nat->Option aD}{w:World}(s:cP σ g w){b:Nat}{ro:Bool}{cs:List Value}(hg:g b=some (.cells ro cs)){l:Loc}(hl:σ b=some l) :
  ∃arr ty fr,w.heap[l.bp]?=some (.cells arr ty fr)/\arr.size=l.size/\(ro=false->fr=(0,0))/\l.off+cs.length<=arr.size/\
   aH σ cs ((arr.toList.drop l.off).take cs.length):=by
 obtain⟨m,hm,r⟩:=s.bp b _ hg;rw[hl] at hm;cases hm;exact r
theorem cP.px{σ:aZ}{g:Nat->Option aD}{w:World}(s:cP σ g w){b:Nat}{es:List (Value×Value)}(hg:g b=some (.map es)){l:Loc}(hl:σ b=some l) :
  ∃es',w.heap[l.bp]?=some (.map es' es.length)/\bY σ (alive es) es'.toList/\es'.toList.map (·.born)=stamps 0 es:=by
 obtain⟨m,hm,r⟩:=s.bp b _ hg;rw[hl] at hm;cases hm;exact r
theorem zX(ok:C.Ok P){σ:aZ}{g:Nat->Option aD}{w:World}(s:cP σ g w){h:aq}{t:TypeId}{x x' v:Value}(hx:aJ σ x x')
  (e:mU C h t x=some v) (hg:∀a,x=.pointer (some a)->g a.block=h.get a.block) :
  ∃v',(Instr.loadAt t x').run P w=.ok v' w/\aJ σ v v':=by
 unfold mU at e;split at e
 ·rename_i b off;split at e
  ·rename_i cs hc;obtain⟨ro,hb⟩:=lX hc;obtain⟨l,hl,_,rfl⟩:=hx;obtain⟨arr,ty,fr,h1,h2,h3,h4,h5⟩:=s.cells ((hg _ rfl).trans hb) hl;obtain⟨v',hr,hv⟩:=GA ok h1 h5 e;exact⟨v',by simpa [Instr.loadAt,Instr.sureAddr] using hr,hv⟩
  ·cases e
 ·cases e
theorem zU(ok:C.Ok P){σ:aZ}(w:World){t:TypeId}{x x' i i' v:Value}(hx:aJ σ x x')(hi:aJ σ i i')(e:iJ C t x i=some v) :
  ∃v',(Instr.indexAt t x' i').run P w=.ok v' w/\aJ σ v v':=by
 unfold iJ at e;split at e
 ·rename_i el b off len cp k n hu;split at e
  ·rename_i sz hs;split at e
   ·rename_i hn;cases e;obtain⟨l,a',cap,hl,_,rfl,hle,h0,hne⟩:=hx;obtain rfl:i'=.int k n:=hi;have hcap:cap≠0:=by omega
    obtain⟨rfl,_⟩:=hne hcap;refine⟨_,?_,⟨l,hl,rfl,rfl⟩⟩;have hn1:0<=n:=hn.1;have hn2:n<(len:Int):=hn.2;simp[Instr.indexAt,asIntOf,run_underlying (aC ok hu),bB ok hs,hn1,hn2,gX,TA]
   ·cases e
  ·cases e
 ·rename_i len el b off k n hu;split at e
  ·rename_i sz hs;split at e
   ·rename_i hn;cases e;obtain⟨l,hl,_,rfl⟩:=hx;obtain rfl:i'=.int k n:=hi;refine⟨_,?_,⟨l,hl,rfl,rfl⟩⟩;have hn1:0<=n:=hn.1;have hn2:n<(len:Int):=hn.2;simp[Instr.indexAt,Instr.sureAddr,asIntOf,run_underlying (aC ok hu),bB ok hs,hn1,hn2,gX,TA]
   ·cases e
  ·cases e
 ·cases e
theorem zT(ok:C.Ok P){σ:aZ}(w:World){t:TypeId}{x x' v:Value}{f:Nat}(hx:aJ σ x x')(e:jX C t x f=some v) :
  ∃v',(Instr.fieldAt t x' f).run P w=.ok v' w/\aJ σ v v':=by
 unfold jX at e;split at e
 ·rename_i fs b off hu;split at e
  ·rename_i fd hf;split at e
   ·rename_i n hs;cases hn:(n==0) with
    | true=>simp[hn] at e
    | false=>
     simp only[hn,Ri,IT] at e;subst e;obtain⟨l,hl,_,rfl⟩:=hx;refine⟨_,?_,⟨l,hl,rfl,rfl⟩⟩;have hf':fs[f]?=some fd:=by simpa using hf
     have hn':n≠0:=by simpa using hn
     simp[Instr.fieldAt,Instr.sureAddr,run_underlying (aC ok hu),hf',fieldPlace,bB ok hs,hn',gX,TA]
   ·cases e
  ·cases e
 ·cases e
theorem Jv(ok:C.Ok P){σ:aZ}(w:World){t:TypeId}{x x' v:Value}{f:Nat}(hx:aJ σ x x')(e:vb C t x f=some v) :
  ∃v',(Instr.field t x' f).run P w=.ok v' w/\aJ σ v v':=by
 unfold vb at e;split at e
 ·rename_i fs cs hu;split at e
  ·rename_i fd hf;cases cs with | mk cs=>
   obtain⟨cs',rfl,hr⟩:=hx;obtain⟨v',h1,h2⟩:=fB (P:=P) (w:=w) ok hr e;have hf':fs[f]?=some fd:=by simpa using hf
   exact⟨v',by simp[Instr.field,run_underlying (aC ok hu),hf',asAgg,h1],h2⟩
  ·cases e
 ·cases e
theorem Jw(ok:C.Ok P){σ:aZ}(w:World){t:TypeId}{x x' i i' v:Value}(hx:aJ σ x x')(hi:aJ σ i i')(e:zh C t x i=some v) :
  ∃v',(Instr.index t x' i').run P w=.ok v' w/\aJ σ v v':=by
 unfold zh at e;split at e
 ·rename_i len el cs k n hu;split at e
  ·rename_i sz hs;split at e
   ·rename_i hn;cases cs with | mk cs=>
    obtain⟨cs',rfl,hr⟩:=hx;obtain rfl:i'=.int k n:=hi;obtain⟨v',h1,h2⟩:=fB (P:=P) (w:=w) ok hr e;have hn1:0<=n:=hn.1;have hn2:n<(len:Int):=hn.2;exact⟨v',by simp[Instr.index,asIntOf,run_underlying (aC ok hu),bB ok hs,hn1,hn2,h1],h2⟩
   ·cases e
  ·cases e
 ·rename_i s k n hu;obtain rfl:x'=.string s:=hx;obtain rfl:i'=.int k n:=hi;split at e
  ·rename_i hn;cases hb:s.data.toList[n.toNat]? with
   | none=>simp[hb] at e
   | some b=>
    simp only[hb,RU,IT] at e;subst e;refine⟨_,?_,rfl⟩;have hs:s[n.toNat]?=some b:=by
     have:=hb;simp only[RE] at this;rw[Ro] at this;obtain⟨hlt,hbe⟩:=this;have hlt':n.toNat<s.size:=hlt;rw[getElem?_pos s n.toNat hlt'];exact congrArg some hbe
    simp[Instr.index,asIntOf,run_underlying (aC ok hu),hn,hs]
  ·cases e
 ·cases e
theorem np{σ:aZ}{v:Option Value}{v':Option Value}{d m:Nat}(hv:match v,v' with | none,none=>True | some a,some b=>aJ σ a b | _,_=>False)
  (e:cZ v d=some m):(v=none/\v'=none/\m=d)\/∃k n,v=some (.int k n)/\v'=some (.int k n)/\0<=n/\n.toNat=m:=by
 unfold cZ at e;cases v with
 | none=>cases v' with
  | none=>simp at e;exact .inl ⟨rfl,rfl,e.symm⟩
  | some b=>cases hv
 | some a=>cases v' with
  | none=>cases hv
  | some b=>
   right;cases a with
   | int k n=>
    obtain rfl:b=.int k n:=hv;simp only at e;split at e
    ·rename_i h;cases e;exact⟨k,n,rfl,rfl,h,rfl⟩
    ·cases e
   | _=>simp at e
theorem run_sliceBound(P:Program)(w:World)(k:IntKind)(n:Int)(y:Nat)(code:BoundsCode)(h0:0<=n)(h1:n.toNat<=y) :
  (Instr.sliceBound (.int k n) y code).run P w=.ok n.toNat w:=by
 have:n<=(y:Int):=by omega
 simp[Instr.sliceBound,asIntOf,h0,this]
abbrev zC(σ:aZ)(v v':Option Value):Prop:=match v,v' with | none,none=>True | some a,some b=>aJ σ a b | _,_=>False
theorem fM{σ:aZ}(P:Program)(w:World)(isS:Bool)(len cap:Nat){lo lo' hi hi':Option Value}{l h:Nat}(hlo:zC σ lo lo')(hhi:zC σ hi hi')
  (el:cZ lo 0=some l) (eh:cZ hi len=some h) (h1:l<=h) (h2:h<=cap) :
  (Instr.sliceBounds isS len cap lo' hi' none).run P w=.ok (l,h,cap) w:=by
 rcases np hlo el with ⟨rfl,rfl,rfl⟩ | ⟨k,n,rfl,rfl,hn,rfl⟩<;>rcases np hhi eh with ⟨rfl,rfl,rfl⟩ | ⟨k2,m,rfl,rfl,hm,rfl⟩
 ·simp[Instr.sliceBounds]
 ·simp[Instr.sliceBounds,run_sliceBound P w k2 m cap _ hm h2]
 ·simp[Instr.sliceBounds,run_sliceBound P w k n _ _ hn h1]
 ·simp[Instr.sliceBounds,run_sliceBound P w k2 m cap _ hm h2,run_sliceBound P w k n _ _ hn h1]
theorem lK{σ:aZ}(P:Program)(w:World)(isS:Bool)(len cap:Nat){lo lo' hi hi' mx mx':Option Value}{l h m:Nat}(hlo:zC σ lo lo')(hhi:zC σ hi hi')
  (hmx:zC σ mx mx') (el:cZ lo 0=some l) (eh:cZ hi len=some h) (em:cZ mx 0=some m) (hsh:hi.isSome=true) (hsm:mx.isSome=true)
  (h1:l<=h) (h2:h<=m) (h3:m<=cap) :
  (Instr.sliceBounds isS len cap lo' hi' mx').run P w=.ok (l,h,m) w:=by
 rcases np hmx em with ⟨rfl,rfl,rfl⟩ | ⟨k3,q,rfl,rfl,hq,rfl⟩
 ·cases hsm
 rcases np hhi eh with ⟨rfl,rfl,rfl⟩ | ⟨k2,p,rfl,rfl,hp,rfl⟩
 ·cases hsh
 rcases np hlo el with ⟨rfl,rfl,rfl⟩ | ⟨k,n,rfl,rfl,hn,rfl⟩
 ·simp[Instr.sliceBounds,run_sliceBound P w k3 q _ _ hq h3,run_sliceBound P w k2 p _ _ hp h2]
 ·simp[Instr.sliceBounds,run_sliceBound P w k3 q _ _ hq h3,run_sliceBound P w k2 p _ _ hp h2,run_sliceBound P w k n _ _ hn h1]
end
end Go.Abs
/-
 Soundness,fourth part: slice expressions,len,cap,operators.
-/
namespace Go.Abs
open Go
section
variable {C:Ctx}{P:Program}
theorem Hu(ok:C.Ok P){σ:aZ}{g:Nat->Option aD}{w:World}(s:cP σ g w){h:aq}{t:TypeId}{x x' v:Value}{lo lo' hi hi' mx mx':Option Value}(hx:aJ σ x x')
  (hlo:zC σ lo lo') (hhi:zC σ hi hi') (hmx:zC σ mx mx') (e:kM C h t x lo hi mx=some v) (hg:∀a,x=.pointer (some a)->g a.block=h.get a.block) :
  ∃v',(Instr.sliceAt t x' lo' hi' mx').run P w=.ok v' w/\aJ σ v v':=by
 unfold kM at e;split at e
 ·
  rename_i el a b hu;obtain⟨rfl,rfl,rfl⟩:=hx;split at e
  ·rename_i sz hs e1 e2 e3;cases hb:(mx.isSome&&hi.isNone) with
   | true=>simp[hb] at e
   | false=>
    simp only[hb,Ri,IT] at e;subst e;refine⟨.slice none 0 0,?_,⟨rfl,rfl,rfl⟩⟩;by_cases hm:mx.isSome=true
    ·have hh:hi.isSome=true:=by
      cases hi with
      | none=>simp[hm] at hb
      | some _=>rfl
     simp[Instr.sliceAt,Instr.slice,run_underlying (aC ok hu),bB ok hs,
      lK P w true 0 0 hlo hhi hmx e1 e2 e3 hh hm (AS _) (AS _) (AS _)]
    ·cases mx with
     | some _=>simp at hm
     | none=>cases mx' with
      | some _=>cases hmx
      | none=>
       simp[Instr.sliceAt,Instr.slice,run_underlying (aC ok hu),bB ok hs,
        fM P w true 0 0 hlo hhi e1 e2 (AS _) (AS _)]
  ·cases e
 ·
  rename_i el b off len c hu;obtain⟨l,a',cap,hl,_,rfl,hle,h0,hne⟩:=hx;split at e
  ·rename_i sz lo_ hi_ hs e1 e2;cases hb:(Nat.ble lo_ hi_&&Nat.ble hi_ len&&(c==0||c==sz)) with
   | false=>simp[hb] at e
   | true=>
    simp only[hb,OF,IT] at e;subst e;simp only[IN,SQ,Sr,Sb] at hb;obtain⟨⟨hb1,hb2⟩,hb3⟩:=hb;cases mx' with
    | some _=>cases hmx
    | none=>
     refine⟨.slice (if cap=lo_ then some a' else some (a'.add (lo_*sz))) (hi_-lo_) (cap-lo_),?_,?_⟩
     ·simp[Instr.sliceAt,Instr.slice,run_underlying (aC ok hu),bB ok hs,
       fM P w true len cap hlo hhi e1 e2 hb1 (AI hb2 hle)]
     ·refine⟨l,if cap=lo_ then a' else a'.add (lo_*sz),cap-lo_,hl,rfl,?_,by omega,λhc=>by have:=h0 hc;omega,λhc=>?_⟩
      ·split<;>rfl
      ·have hcl:cap≠lo_:=by omega
       obtain⟨rfl,hroom⟩:=hne (by omega);rw[By hcl];have hcs:c=sz:=by
        rcases hb3 with h | h
        ·have:=h0 h;omega
        ·exact h
       subst hcs;refine⟨by rw[gX,TA],?_⟩;dsimp only at hroom ⊢;have:(cap-lo_)*c+lo_*c=cap*c:=by rw[<-R3];congr 1;omega
       omega
  ·rename_i sz lo_ hi_ mv hs e1 e2;split at e
   ·rename_i m_ e3;cases hb:(hi.isSome&&Nat.ble lo_ hi_&&Nat.ble hi_ m_&&Nat.ble m_ len&&(c==0||c==sz)) with
    | false=>simp only[hb,Ri] at e;cases e
    | true=>
     simp only[hb,OF,IT] at e;subst e;simp only[IN,SQ,Sr,Sb] at hb;obtain⟨⟨⟨⟨hb0,hb1⟩,hb2⟩,hb4⟩,hb3⟩:=hb;refine⟨.slice (if m_=lo_ then some a' else some (a'.add (lo_*sz))) (hi_-lo_) (m_-lo_),?_,?_⟩
     ·simp[Instr.sliceAt,Instr.slice,run_underlying (aC ok hu),bB ok hs,
       lK P w true len cap hlo hhi hmx e1 e2 e3 hb0 rfl hb1 hb2 (AI hb4 hle)]
     ·refine⟨l,if m_=lo_ then a' else a'.add (lo_*sz),m_-lo_,hl,rfl,?_,by omega,λhc=>?_,λhc=>?_⟩
      ·split<;>rfl
      ·cases hml:(m_==lo_) with
       | true=>simp at hml;omega
       | false=>simp only[hml,Ri] at hc;have:=h0 hc;omega
      ·have hcl:m_≠lo_:=by omega
       obtain⟨rfl,hroom⟩:=hne (by omega);rw[By hcl];have hml:(m_==lo_)=false:=by simpa using hcl
       have hcs:c=sz:=by
        rcases hb3 with h | h
        ·have:=h0 h;omega
        ·exact h
       subst hcs;refine⟨by rw[gX,TA],?_⟩;dsimp only at hroom ⊢;have:(m_-lo_)*c+lo_*c=m_*c:=by rw[<-R3];congr 1;omega
       have:m_*c<=cap*c:=Rb _ (by omega);simp only[hml,Ri];omega
   ·cases e
  ·cases e
 ·
  rename_i n el b off hu;obtain⟨l,hl,_,rfl⟩:=hx;split at e
  ·rename_i sz lo_ hi_ cs hs e1 e2 ec;cases hb:(Nat.ble lo_ hi_&&Nat.ble hi_ n&&Nat.blt 0 sz&&Nat.ble (off+n*sz) cs.length) with
   | false=>simp only[hb,Ri] at e;cases e
   | true=>
    simp only[hb,OF,IT] at e;subst e;simp only[IN,SQ,Nat.blt_eq] at hb;obtain⟨⟨⟨hb1,hb2⟩,hb3⟩,hb4⟩:=hb;obtain⟨ro,hblk⟩:=lX ec;obtain⟨arr,ty,fr,q1,q2,q3,q4,q5⟩:=s.cells ((hg _ rfl).trans hblk) hl;cases mx' with
    | some _=>cases hmx
    | none=>
     refine⟨.slice (some (if n=lo_ then ⟨l.bp,l.off+off,none⟩ else (⟨l.bp,l.off+off,none⟩:Addr).add (lo_*sz))) (hi_-lo_) (n-lo_),?_,?_⟩
     ·simp[Instr.sliceAt,Instr.sureAddr,run_underlying (aC ok hu),bB ok hs,fM P w false n n hlo hhi e1 e2 hb1 hb2]
     ·refine⟨l,_,n-lo_,hl,rfl,rfl,by omega,λhc=>?_,λhc=>?_⟩
      ·cases hml:(n==lo_) with
       | true=>simp at hml;omega
       | false=>simp only[hml,Ri] at hc;omega
      ·have hcl:n≠lo_:=by omega
       have hml:(n==lo_)=false:=by simpa using hcl
       rw[By hcl];refine⟨by rw[gX,TA],?_⟩;have:(n-lo_)*sz+lo_*sz=n*sz:=by rw[<-R3];congr 1;omega
       simp only[hml,Ri];omega
  ·cases e
 ·rename_i str hu;obtain rfl:x'=.string str:=hx;split at e
  ·rename_i lo_ hi_ e1 e2;cases hb:(Nat.ble lo_ hi_&&Nat.ble hi_ str.size) with
   | false=>simp[hb] at e
   | true=>
    simp only[hb,OF,IT] at e;subst e;simp only[IN,SQ] at hb;cases mx' with
    | some _=>cases hmx
    | none=>
     refine⟨.string (str.extract lo_ hi_),?_,rfl⟩;simp[Instr.sliceAt,Instr.slice,run_underlying (aC ok hu),fM P w false str.size str.size hlo hhi e1 e2 hb.1 hb.2]
  ·cases e
 ·cases e
end
end Go.Abs
namespace Go.Abs
open Go
section
variable {C:Ctx}{P:Program}
theorem Mc(ok:C.Ok P){σ:aZ}{g:Nat->Option aD}{w:World}(s:cP σ g w){h:aq}{t:TypeId}{x x' v:Value}(hx:aJ σ x x')(ts:List TypeId)(ty:TypeId)
  (e:CZ C h t x=some v) (hg:∀r,x=.map (some r)->g r=h.get r) :
  ∃v',(Builtin.len_ ⟨t::ts⟩ ty ⟨[x']⟩).run P w=.ok v' w/\aJ σ v v':=by
 unfold CZ at e;split at e
 ·rename_i str hu;obtain rfl:x'=.string str:=hx;cases e;exact⟨_,by simp[Builtin.len_,run_underlying (aC ok hu),goInt],rfl⟩
 ·rename_i y n el hu;cases e;exact⟨.int .i64 n,by simp[Builtin.len_,run_underlying (aC ok hu),goInt],rfl⟩
 ·rename_i el a n c hu;cases e;cases a with
  | none=>
   obtain⟨rfl,rfl,rfl⟩:=hx;exact⟨.int .i64 (0:Nat),by simp[Builtin.len_,run_underlying (aC ok hu),goInt],rfl⟩
  | some a=>
   obtain⟨l,a',cap,_,_,rfl,_⟩:=hx;exact⟨.int .i64 n,by simp[Builtin.len_,run_underlying (aC ok hu),goInt],rfl⟩
 ·rename_i hu;obtain rfl:x'=.map none:=hx;cases e;exact⟨_,by simp[Builtin.len_,run_underlying (aC ok hu),goInt],rfl⟩
 ·rename_i r hu;obtain⟨l,hl,rfl⟩:=hx;split at e
  ·rename_i es he;cases e;obtain⟨es',h1,h2,_⟩:=s.px ((hg _ rfl).trans he) hl;have hlen:es'.size=(alive es).length:=by
    have:∀{es:List (Value×Value)} {l:List MapEntry},bY σ es l->l.length=es.length:=by
     intro es
     induction es with
     | nil=>intro l h;rw[show l=[] from h];rfl
     | cons x xs ih=>intro l h;obtain⟨k,v⟩:=x;obtain⟨e,r,rfl,_,_,h⟩:=h;simp[ih h]
    simpa using this h2
   refine⟨.int .i64 (alive es).length,?_,rfl⟩;simp[Builtin.len_,run_underlying (aC ok hu),goInt,getObj,Sem.run,h1,hlen]
  ·cases e
 ·cases e
theorem MC(ok:C.Ok P){σ:aZ}(w:World){t:TypeId}{x x' v:Value}(hx:aJ σ x x')(ts:List TypeId)(ty:TypeId)
  (e:J2 C t x=some v):∃v',(Builtin.cap_ ⟨t::ts⟩ ty ⟨[x']⟩).run P w=.ok v' w/\aJ σ v v':=by
 unfold J2 at e;split at e
 ·rename_i y n el hu;cases e;exact⟨.int .i64 n,by simp[Builtin.cap_,run_underlying (aC ok hu),goInt],rfl⟩
 ·rename_i el n c hu;cases e;obtain⟨rfl,rfl,rfl⟩:=hx;exact⟨.int .i64 (0:Nat),by simp[Builtin.cap_,run_underlying (aC ok hu),goInt],rfl⟩
 ·rename_i el a n hu;cases e;obtain⟨l,a',cap,_,_,rfl,_,h0,_⟩:=hx;obtain rfl:=h0 rfl;exact⟨.int .i64 (0:Nat),by simp[Builtin.cap_,run_underlying (aC ok hu),goInt],rfl⟩
 ·cases e
theorem E9(w:World){op:BinOp}{k:IntKind}{a b:Int}{v:Value}(h1:op≠.shl)(h2:op≠.shr)(t:TypeId)(e:b9 op k a b=some v) :
  (binOp op t (.int k a) (.int k b)).run P w=.ok v w/\plain v=true:=by
 cases op<;>simp only[b9] at e<;>first
  | exact absurd rfl h1
  | exact absurd rfl h2
  | (split at e
     · cases e
     · rename_i hb;cases e;exact⟨by simp[binOp,Op.intDiv,hb],rfl⟩)
  | (cases e;exact⟨by simp[binOp,Op.intArith,Op.intBits,Op.intCmp],rfl⟩)
theorem Bl(w:World){op:BinOp}{k kb:IntKind}{a b:Int}{v:Value}(t:TypeId)(e:iU op k a b=some v) :
  (binOp op t (.int k a) (.int kb b)).run P w=.ok v w/\plain v=true:=by
 unfold iU at e;split at e
 ·cases e
 ·rename_i hb
  cases op<;>simp only at e<;>first
   | (cases e;done)
   | (cases e;exact⟨by simp[binOp,Op.shift,hb],rfl⟩)
theorem Ak(w:World){op:BinOp}{a b:ByteArray}{v:Value}(t:TypeId)(e:lT op a b=some v) :
  (binOp op t (.string a) (.string b)).run P w=.ok v w/\plain v=true:=by
 cases op<;>simp only[lT] at e<;>first
  | (cases e;done)
  | (cases e;exact⟨by simp[binOp,Op.stringOp],rfl⟩)
  | skip
 cases hb:Nat.ble (a.size+b.size) 9223372036854775807 with
 | false=>simp only[hb,Ri] at e;cases e
 | true=>
  simp only[hb,OF,IT] at e;subst e;have h1:=Sw hb;have hm:IntKind.i64.max=9223372036854775807:=by decide
  have:¬(((a.size+b.size:Nat):Int) > IntKind.i64.max):=by rw[hm];omega
  refine⟨?_,rfl⟩;simp only[binOp,Op.stringOp,By this,Sem.run_pure]
theorem Nn{σ:aZ}(w:World){op:UnOp}{x x' v:Value}(hx:aJ σ x x')(e:OM op x=some v):(Op.unary op x').run P w=.ok v w/\plain v=true:=by
 unfold OM at e;split at e
 ·obtain rfl:=(show x'=_ from hx);cases e;exact⟨by simp[Op.unary,Op.intArith],rfl⟩
 ·obtain rfl:=(show x'=_ from hx);cases e;exact⟨by simp[Op.unary,Op.intBits],rfl⟩
 ·obtain rfl:=(show x'=_ from hx);cases e;exact⟨by simp[Op.unary],rfl⟩
 ·cases e
end
end Go.Abs
/-
 Soundness,fifth part: equality,maps,struct literals.
-/
namespace Go.Abs
open Go
section
variable {C:Ctx}{P:Program}
theorem CU(ok:C.Ok P){σ:aZ}(w:World){t:TypeId}{d:TypeDesc}{x x' y y':Value}{b:Bool}(hu:C.gQ t=some d)(hx:aJ σ x x')(hy:aJ σ y y')
  (e:fU d x y=some b) (n:Nat):(Op.equalIn (n+1) t x' y').run P w=.ok b w:=by
 unfold fU at e;split at e
 ·obtain rfl:=(show x'=_ from hx);obtain rfl:=(show y'=_ from hy);cases e;simp[Op.equalIn,run_underlying (aC ok hu)]
 ·obtain rfl:=(show x'=_ from hx);obtain rfl:=(show y'=_ from hy);split at e
  ·rename_i hk;cases e;subst hk;simp[Op.equalIn,run_underlying (aC ok hu)]
  ·cases e
 ·obtain rfl:=(show x'=_ from hx);obtain rfl:=(show y'=_ from hy);cases e;simp[Op.equalIn,run_underlying (aC ok hu)]
 ·obtain rfl:=(show x'=_ from hx);obtain rfl:=(show y'=_ from hy);cases e;simp[Op.equalIn,run_underlying (aC ok hu)]
 ·cases e
theorem wJ(ok:C.Ok P){σ:aZ}(w:World){d e s:Nat}{eq:Value->Value->Option Bool}
  (ih:∀x y x' y' b,aJ σ x x'->aJ σ y y'->eq x y=some b->(Op.equalIn d e x' y').run P w=.ok b w) {xs ys xs' ys':List Value} (hx:aH σ xs xs') (hy:aH σ ys ys') :
  ∀(is:List Nat) (b:Bool),qS C eq e s xs ys is=some b->(Op.eqItems d e s ⟨xs'⟩ ⟨ys'⟩ is).run P w=.ok b w
 | [],b,h=>by simp[qS] at h;subst h;simp[Op.eqItems]
 | i::is,b,h=>by
  unfold qS at h;split at h
  ·rename_i a a2 h1 h2;obtain⟨u,hu1,hu2⟩:=fB (P:=P) (w:=w) ok hx h1;obtain⟨v,hv1,hv2⟩:=fB (P:=P) (w:=w) ok hy h2;cases hq:eq a a2 with
   | none=>simp[hq] at h
   | some r=>
    have h3:=ih a a2 u v r hu2 hv2 hq;cases r with
    | false=>
     simp[hq] at h;subst h;simp[Op.eqItems,hu1,hv1,h3]
    | true=>
     simp[hq] at h;have h4:=wJ ok w ih hx hy is b h;simp[Op.eqItems,hu1,hv1,h3,h4]
  ·cases h
theorem tO(ok:C.Ok P){σ:aZ}(w:World){d:Nat}{eq:TypeId->Value->Value->Option Bool}
  (ih:∀t x y x' y' b,aJ σ x x'->aJ σ y y'->eq t x y=some b->(Op.equalIn d t x' y').run P w=.ok b w) {xs ys xs' ys':List Value} (hx:aH σ xs xs') (hy:aH σ ys ys') :
  ∀(fs:List Field) (b:Bool),(∀f∈fs,f.name≠ "_")->eqFields C eq fs xs ys=some b->(Op.eqFields d ⟨xs'⟩ ⟨ys'⟩ fs).run P w=.ok b w
 | [],b,_,e=>by simp[eqFields] at e;subst e;simp[Op.eqFields]
 | f::fs,b,hn,e=>by
  unfold eqFields at e;split at e
  ·rename_i a a2 h1 h2;obtain⟨u,hu1,hu2⟩:=fB (P:=P) (w:=w) ok hx h1;obtain⟨v,hv1,hv2⟩:=fB (P:=P) (w:=w) ok hy h2;have hname:f.name≠ "_":=hn f (by simp)
   cases hq:eq f.type a a2 with
   | none=>simp[hq] at e
   | some r=>
    have h3:=ih f.type a a2 u v r hu2 hv2 hq;cases r with
    | false=>
     simp[hq] at e;subst e;simp[Op.eqFields,hname,hu1,hv1,h3]
    | true=>
     simp[hq] at e;have h4:=tO ok w ih hx hy fs b (λg hg=>hn g (by simp[hg])) e;simp[Op.eqFields,hname,hu1,hv1,h3,h4]
  ·cases e
theorem vt(ok:C.Ok P){σ:aZ}(w:World):∀(n d:Nat) (t:TypeId) (x y x' y':Value) (b:Bool),n<=d->aJ σ x x'->aJ σ y y'->tK C n t x y=some b->
  (Op.equalIn d t x' y').run P w=.ok b w
 | 0,_,_,_,_,_,_,_,_,_,_,e=>by cases e
 | n+1,0,_,_,_,_,_,_,h,_,_,_=>by omega
 | n+1,d+1,t,x,y,x',y',b,h,hx,hy,e=>by
  unfold tK at e;split at e
  ·rename_i fs xs ys hu;cases hf:C.flat t with
   | false=>simp[hf] at e
   | true=>
    simp only[hf,OF] at e;obtain⟨h1,_,h3⟩:=ok.flat t hf;cases xs with | mk xs=>
    cases ys with | mk ys=>
    obtain⟨xs',rfl,hxs⟩:=hx;obtain⟨ys',rfl,hys⟩:=hy;have hu':=aC ok hu;have hfo:P.fieldsOf t=fs:=by simp[Program.fieldsOf,hu']
    rw[run_equalIn_struct w d t ⟨xs'⟩ ⟨ys'⟩ (by rw[hfo];exact hu') h1,hfo];exact tO ok w (λt x y x' y' b hx hy e=>vt ok w n d t x y x' y' b (by omega) hx hy e) hxs hys fs.toList b (h3 fs hu) e
  ·rename_i len el xs ys hu;split at e
   ·rename_i s hs;cases xs with | mk xs=>
    cases ys with | mk ys=>
    obtain⟨xs',rfl,hxs⟩:=hx;obtain⟨ys',rfl,hys⟩:=hy;obtain⟨i,hi,hsz⟩:=oL ok hs;have hc:P.cellsOf el=s:=by simp[Program.cellsOf,hi,hsz]
    rw[run_equalIn_array w d ⟨xs'⟩ ⟨ys'⟩ (aC ok hu) hi,hc];exact wJ ok w (λx y x' y' b hx hy e=>vt ok w n d el x y x' y' b (by omega) hx hy e) hxs hys _ b e
   ·cases e
  ·rename_i dd hu _ _;exact CU ok w hu hx hy e d
  ·cases e
theorem yv{h:aq}{i:Nat}(e:live h i=true):∃cs,h.get i=some (.cells false cs):=by
 unfold live at e;split at e
 ·rename_i cs hc;exact⟨cs,hc⟩
 ·cases e
theorem cP.frozen{σ:aZ}{g:Nat->Option aD}{w:World}(s:cP σ g w){i:Nat}{cs:List Value}(hg:g i=some (.cells false cs)){l:Loc}(hl:σ i=some l) :
  (∀o sp,w.frozen? ⟨l.bp,o,sp⟩=false)/\∃t n,w.shape? l.bp=some (t,n):=by
 obtain⟨arr,ty,fr,h1,h2,h3,_⟩:=s.cells hg hl;obtain rfl:=h3 rfl;exact⟨λo sp=>by simp[World.frozen?,h1],ty,arr.size,by simp[World.shape?,h1]⟩
theorem BE{σ:aZ}{g:Nat->Option aD}{w:World}(s:cP σ g w){h:aq}{a b i j:Nat}{la lb:Loc}(ha:σ a=some la)(hb:σ b=some lb)
  (hga:g a=h.get a) (hgb:g b=h.get b) {r:Bool}
  (e:(bif a==b then some (i==j) else bif live h a&&live h b then some false else none)=some r) :
  (sameAddr ⟨la.bp,la.off+i,none⟩ ⟨lb.bp,lb.off+j,none⟩).run P w=.ok r w:=by
 cases hab:(a==b) with
 | true=>
  obtain rfl:a=b:=by simpa using hab
  rw[ha] at hb;cases hb;simp only[hab,OF,IT] at e;subst e;have:((⟨la.bp,la.off+i,none⟩:Addr)==⟨la.bp,la.off+j,none⟩)=(i==j):=by
   rw[SH];simp
  simp[sameAddr,this]
 | false=>
  simp only[hab,Ri] at e;cases hlv:(live h a&&live h b) with
  | false=>simp[hlv] at e
  | true=>
   simp only[hlv,OF,IT] at e;subst e;simp only[IN] at hlv;obtain⟨cs,hca⟩:=yv hlv.1;obtain⟨ds,hcb⟩:=yv hlv.2;have hne:a≠b:=by simpa using hab
   have hblk:=s.inj a b _ _ la lb (hga.trans hca) (hgb.trans hcb) hne (.inl rfl) ha hb;obtain⟨fa,ta,na,sa⟩:=s.frozen (hga.trans hca) ha;obtain⟨fb,tb,nb,sb⟩:=s.frozen (hgb.trans hcb) hb;have hbe:(la.bp==lb.bp)=false:=by simpa using hblk
   simp[sameAddr,hbe,fa,fb,noView,viewAt,sa,sb,mayBeOne,stringish]
theorem DU(ok:C.Ok P){σ:aZ}{g:Nat->Option aD}{w:World}(s:cP σ g w){h:aq}{t:TypeId}{x x' y y':Value}{b:Bool}(hx:aJ σ x x')(hy:aJ σ y y')
  (hgx:∀a,x=.pointer (some a)->g a.block=h.get a.block) (hgy:∀a,y=.pointer (some a)->g a.block=h.get a.block)
  (e:equalA C h t x y=some b) (d:Nat) (hd:8<=d):(Op.equalIn (d+1) t x' y').run P w=.ok b w:=by
 unfold equalA at e;split at e
 ·rename_i el p hu;cases e;obtain rfl:=(show x'=_ from hx);cases p with
  | none=>obtain rfl:=(show y'=_ from hy);simp[Op.equalIn,run_underlying (aC ok hu)]
  | some a=>obtain⟨l,_,_,rfl⟩:=hy;simp[Op.equalIn,run_underlying (aC ok hu)]
 ·rename_i el p hu;cases e;obtain⟨l,_,_,rfl⟩:=hx;obtain rfl:=(show y'=_ from hy);simp[Op.equalIn,run_underlying (aC ok hu)]
 ·rename_i el a i b2 j hu;split at e
  ·rename_i n hs;cases hn:(n==0) with
   | true=>simp[hn] at e
   | false=>
    simp only[hn,Ri] at e;obtain⟨la,hla,_,rfl⟩:=hx;obtain⟨lb,hlb,_,rfl⟩:=hy;have:=BE (P:=P) s hla hlb (hgx _ rfl) (hgy _ rfl) e;have hn':n≠0:=by simpa using hn
    simp[Op.equalIn,run_underlying (aC ok hu),bB ok hs,hn',this]
  ·cases e
 ·rename_i ms hu;cases e;obtain rfl:=(show x'=_ from hx);obtain rfl:=(show y'=_ from hy);simp[Op.equalIn,run_underlying (aC ok hu)]
 ·rename_i ms t' v hu;cases e;obtain rfl:=(show x'=_ from hx);obtain⟨u,rfl,_⟩:=hy;simp[Op.equalIn,run_underlying (aC ok hu)]
 ·rename_i ms t' v hu;cases e;obtain⟨u,rfl,_⟩:=hx;obtain rfl:=(show y'=_ from hy);simp[Op.equalIn,run_underlying (aC ok hu)]
 ·rename_i el n c a n' c' hu;cases e;obtain⟨rfl,rfl,rfl⟩:=hx;cases a with
  | none=>obtain⟨rfl,rfl,rfl⟩:=hy;simp[Op.equalIn,run_underlying (aC ok hu)]
  | some a=>obtain⟨l,a',cap,_,_,rfl,_⟩:=hy;simp[Op.equalIn,run_underlying (aC ok hu)]
 ·rename_i el a n c n' c' hu;cases e;obtain⟨l,a',cap,_,_,rfl,_⟩:=hx;obtain⟨rfl,rfl,rfl⟩:=hy;simp[Op.equalIn,run_underlying (aC ok hu)]
 ·rename_i kt et r hu;cases e;obtain rfl:=(show x'=_ from hx);cases r with
  | none=>obtain rfl:=(show y'=_ from hy);simp[Op.equalIn,run_underlying (aC ok hu)]
  | some a=>obtain⟨l,_,rfl⟩:=hy;simp[Op.equalIn,run_underlying (aC ok hu)]
 ·rename_i kt et r hu;cases e;obtain⟨l,_,rfl⟩:=hx;obtain rfl:=(show y'=_ from hy);simp[Op.equalIn,run_underlying (aC ok hu)]
 ·rename_i hu;cases e;obtain rfl:=(show x'=_ from hx);obtain rfl:=(show y'=_ from hy);simp[Op.equalIn,run_underlying (aC ok hu)]
 ·rename_i fn xs ys hu;cases e;obtain rfl:=(show x'=_ from hx);cases xs with | mk xs=>
  cases ys with | mk ys=>
  obtain⟨_,_,rfl,_⟩:=hy;simp[Op.equalIn,run_underlying (aC ok hu)]
 ·rename_i fn xs ys hu;cases e;cases xs with | mk xs=>
  cases ys with | mk ys=>
  obtain⟨_,_,rfl,_⟩:=hx;obtain rfl:=(show y'=_ from hy);simp[Op.equalIn,run_underlying (aC ok hu)]
 ·exact vt ok w 8 (d+1) t _ _ x' y' b (by omega) hx hy e
theorem BH(ok:C.Ok P){σ:aZ}{g:Nat->Option aD}{w:World}(s:cP σ g w){h:aq}{t:TypeId}{x x' y y':Value}{b:Bool}(hx:aJ σ x x')(hy:aJ σ y y')
  (hgx:∀a,x=.pointer (some a)->g a.block=h.get a.block) (hgy:∀a,y=.pointer (some a)->g a.block=h.get a.block)
  (e:equalA C h t x y=some b):(Op.equal t x' y').run P w=.ok b w:=
 DU ok s hx hy hgx hgy e 9999 (by omega)
end
end Go.Abs