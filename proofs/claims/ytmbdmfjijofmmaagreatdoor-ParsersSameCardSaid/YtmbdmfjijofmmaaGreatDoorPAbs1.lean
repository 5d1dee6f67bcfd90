/-
  The abstract machine is sound, first part: relations between values, aggregates, loads, equality.
-/
import Derived.Test.YtmbdmfjijofmmaaGreatDoorPAbs0
import Derived.Laws.Append
import Derived.Laws.CopyRow
import Derived.Laws.Rows
import Derived.Laws.StructEq
import Derived.ChangeKeysEq
/-
 Soundness,first part: what the model's operations do where the abstract ones give a result.
-/
namespace Go.Abs
open Go
structure Ctx.Ok(C:Ctx)(P:Program):Prop where
 info:∀t i,C.info t=some i->P.info? t=some i
 func:∀f fn,C.func f=some fn->P.funcs[f]?=some fn
 call:∀f fn,C.func f=some fn->fn.body.isSome=true->∀args w,(callFunc f args).run P w=.ok (.enter f args) w
 flat:∀t,C.flat t=true->P.stoodInHeld t=false/\P.eqGuardType P.depth t=false/\∀fs,C.gZ t=some (.struct fs)->∀f∈fs.toList,f.name≠ "_"
 mixed:P.follows .mixedOrders=true
section
variable {C:Ctx}{P:Program}
theorem aD(ok:C.Ok P){t:TypeId}{d:TypeDesc}(h:C.gZ t=some d):P.underlying t=some d:=by
 unfold Ctx.gZ at h;unfold Program.underlying;cases hi:C.info t with
 | none=>simp[hi] at h
 | some i=>
  simp only[hi] at h;rw[ok.info t i hi];cases i with
  | mk desc str size bytes hp al fa zero comp ms=>
   cases desc with
   | named n u=>
    simp only at h ⊢;cases hu:C.info u with
    | none=>simp[hu] at h
    | some j=>rw[ok.info u j hu];simpa [hu] using h
   | _=>simpa using h
theorem o9(ok:C.Ok P){t:TypeId}{n:Nat}(h:C.size t=some n):∃i,P.info? t=some i/\i.size=n:=by
 unfold Ctx.size at h;cases hi:C.info t with
 | none=>simp[hi] at h
 | some i=>exact⟨i,ok.info t i hi,by simpa [hi] using h⟩
theorem xi(ok:C.Ok P){t:TypeId}{n:Nat}(h:C.bytes t=some n):∃i,P.info? t=some i/\i.bytes=n:=by
 unfold Ctx.bytes at h;cases hi:C.info t with
 | none=>simp[hi] at h
 | some i=>exact⟨i,ok.info t i hi,by simpa [hi] using h⟩
theorem oT(ok:C.Ok P){t:TypeId}{z:Value}(h:C.zero t=some z):∃i,P.info? t=some i/\i.zero=some z/\plain z=true/\z.cells.size=i.size:=by
 unfold Ctx.zero at h;cases hi:C.info t with
 | none=>simp[hi] at h
 | some i=>
  simp only[hi] at h;cases hz:i.zero with
  | none=>simp[hz] at h
  | some y=>
   simp only[hz] at h;cases hp:(plain y&&y.cells.size==i.size) with
   | false=>simp[hp] at h
   | true=>
    simp only[hp,RH,IT] at h;subst h;simp only[IN,SK] at hp;exact⟨i,ok.info t i hi,hz,hp.1,hp.2⟩
theorem bF(ok:C.Ok P){t:TypeId}{n:Nat}(h:C.size t=some n)(w:World):(sizeOf t).run P w=.ok n w:=by
 obtain⟨i,hi,rfl⟩:=o9 ok h;simp[sizeOf,typeInfo,hi]
theorem vi(ok:C.Ok P){t:TypeId}{d:TypeDesc}(h:C.gZ t=some d)(w:World):(isAgg t).run P w=.ok (ue d) w:=by
 unfold isAgg;rw[Sem.run_bind,run_underlying (aD ok h) w];cases d<;>rfl
theorem eg(ok:C.Ok P){t:TypeId}{z:Value}(h:C.zero t=some z)(w:World):(zeroValue t).run P w=.ok z w:=by
 obtain⟨i,hi,hz,_,_⟩:=oT ok h;simp[zeroValue,typeInfo,hi,hz]
theorem gK(ok:C.Ok P){t:TypeId}{z:Value}(h:C.zero t=some z):plain z=true:=(oT ok h).choose_spec.2.2.1
def cj(σ:aY):List (Value×Value)->List MapEntry->Prop
 | [],l=>l=[]
 | (k,v)::es,l=>∃e r,l=e::r/\aL σ k e.key/\aL σ v e.val/\cj σ es r
def kX(σ:aY)(w:World)(l:Loc):aE->Prop
 | .cells ro cs=>∃arr ty fr,w.heap[l.bu]?=some (.cells arr ty fr)/\arr.size=l.size/\(ro=false->fr=(0,0))/\l.off+cs.length<=arr.size/\
   aJ σ cs ((arr.toList.drop l.off).take cs.length)
 | .map es=>∃es',w.heap[l.bu]?=some (.map es' es.length)/\cj σ (alive es) es'.toList/\es'.toList.map (·.born)=stamps 0 es
structure cU(σ:aY)(g:Nat->Option aE)(w:World):Prop where
 bu:∀i b,g i=some b->∃l,σ i=some l/\kX σ w l b
 inj:∀i j b c li lj,g i=some b->g j=some c->i≠j->(b.ro=false\/c.ro=false)->σ i=some li->σ j=some lj->li.bu≠lj.bu
theorem cj.mono{σ τ:aY}(h:aY.le σ τ):∀{es:List (Value×Value)} {l:List MapEntry},cj σ es l->cj τ es l
 | [],_,r=>r
 | (_,_)::_,_,⟨e,r,q,a,b,s⟩=>⟨e,r,q,a.mono h,b.mono h,cj.mono h s⟩
theorem kX.mono{σ τ:aY}(h:aY.le σ τ){w:World}{l:Loc}:∀{b:aE},kX σ w l b->kX τ w l b
 | .cells _ _,⟨a,t,f,q1,q2,q3,q4,r⟩=>⟨a,t,f,q1,q2,q3,q4,r.mono h⟩
 | .map _,⟨e,q,r,s⟩=>⟨e,q,r.mono h,s⟩
theorem kX.world{σ:aY}{w w':World}{l:Loc}(e:w'.heap[l.bu]?=w.heap[l.bu]?):∀{b:aE},kX σ w l b->kX σ w' l b
 | .cells _ _,⟨a,t,f,q1,q⟩=>⟨a,t,f,by rw[e];exact q1,q⟩
 | .map _,⟨x,q,r⟩=>⟨x,by rw[e];exact q,r⟩
theorem kX.lt{σ:aY}{w:World}{l:Loc}{b:aE}(h:kX σ w l b):l.bu<w.heap.size:=by
 cases b with
 | cells ro cs=>obtain⟨a,t,f,q,_⟩:=h;exact(RV.1 q).1
 | map es=>obtain⟨e,q,_⟩:=h;exact(RV.1 q).1
theorem cU.sub{σ:aY}{g g':Nat->Option aE}{w:World}(h:cU σ g w)(hs:∀i b,g' i=some b->g i=some b):cU σ g' w:=
 ⟨λi b q=>h.bu i b (hs i b q),λi j b c li lj p q=>h.inj i j b c li lj (hs i b p) (hs j c q)⟩
theorem ik(b o n:Nat):(⟨b,o,none⟩:Addr).add n=⟨b,o+n,none⟩:=by
 unfold Addr.add;split
 ·rename_i h;subst h;rfl
 ·rfl
theorem eV{cs:List Value}{off n:Nat}{l:List Value}(h:cf cs off n=some l):l=(cs.drop off).take n/\l.length=n:=by
 unfold cf at h;cases hb:(((cs.drop off).take n).length==n) with
 | false=>simp only[hb,RO] at h;cases h
 | true=>
  simp only[hb,RH,IT] at h;subst h;exact⟨rfl,by simpa using hb⟩
theorem Jg{σ:aY}{w:World}{l:Loc}{arr:Array Value}{ty:TypeId}{fr:Nat×Nat}{cs:List Value}
  (hg:w.heap[l.bu]?=some (.cells arr ty fr)) (hv:aJ σ cs ((arr.toList.drop l.off).take cs.length)) (i:Nat) (v:Value) (hi:cs[i]?=some v) :
  ∃v',w.cell? ⟨l.bu,l.off+i,none⟩=some v'/\aL σ v v':=by
 obtain⟨v',hv',r⟩:=hv.get i v hi;have hlt:i<cs.length:=(R9.1 hi).1;refine⟨v',?_,r⟩;rw[cell_of_row w l.bu (l.off+i) arr ty fr hg];rw[Sg,By hlt,Se] at hv';simpa using hv'
theorem rI{σ:aY}{w:World}{l:Loc}{arr:Array Value}{ty:TypeId}{fr:Nat×Nat}{cs:List Value}
  (hg:w.heap[l.bu]?=some (.cells arr ty fr)) (hv:aJ σ cs ((arr.toList.drop l.off).take cs.length))
  (off n:Nat) (x:List Value) (hp:cf cs off n=some x) :
  ∃x',(loadCells ⟨l.bu,l.off+off,none⟩ n).run P w=.ok ⟨x'⟩ w/\aJ σ x x':=by
 obtain⟨rfl,hl⟩:=eV hp;have hr:aJ σ ((cs.drop off).take n) ((((arr.toList.drop l.off).take cs.length).drop off).take n):=(hv.drop off).take n;have hlen:((((arr.toList.drop l.off).take cs.length).drop off).take n).length=n:=by rw[hr.length,hl]
 refine⟨_,?_,hr⟩
 have:=run_loadCells_list (P:=P) w ⟨l.bu,l.off+off,none⟩ ((((arr.toList.drop l.off).take cs.length).drop off).take n) (λj v hj=>by
  have hjn:j<n:=by
   have:=(R9.1 hj).1;omega
  rw[ik,cell_of_row w l.bu _ arr ty fr hg];rw[Sg,By hjn,Se,Sg] at hj;split at hj
  ·rw[Se] at hj;rw[<-R7,show l.off+off+j=l.off+(off+j) from by omega];exact hj
  ·cases hj)
 rw[hlen] at this;exact this
theorem Hn(ok:C.Ok P){σ:aY}{w:World}{l:Loc}{arr:Array Value}{ty:TypeId}{fr:Nat×Nat}{cs:List Value}
  (hg:w.heap[l.bu]?=some (.cells arr ty fr)) (hv:aJ σ cs ((arr.toList.drop l.off).take cs.length))
  {t:TypeId} {off:Nat} {v:Value} (h:eX C cs t off=some v) :
  ∃v',(loadVar t ⟨l.bu,l.off+off,none⟩).run P w=.ok v' w/\aL σ v v':=by
 unfold eX at h;cases hd:C.gZ t with
 | none=>simp[hd] at h
 | some d=>
  simp only[hd] at h;cases ha:ue d with
  | true=>
   simp only[ha,RH] at h;cases hs:C.size t with
   | none=>simp[hs] at h
   | some n=>
    simp only[hs] at h;cases hp:cf cs off n with
    | none=>simp[hp] at h
    | some x=>
     simp only[hp,Sp,IT] at h;subst h;obtain⟨x',hx,hr⟩:=rI (P:=P) hg hv off n x hp;refine⟨.agg ⟨x'⟩,?_,⟨x',rfl,hr⟩⟩;simp[loadVar,vi ok hd,ha,bF ok hs,hx]
  | false=>
   simp only[ha,RO] at h;obtain⟨v',hc,r⟩:=Jg hg hv off v h;refine⟨v',?_,r⟩;simp[loadVar,vi ok hd,ha,hc]
theorem fN(ok:C.Ok P){σ:aY}{w:World}{cs cs':List Value}(hv:aJ σ cs cs'){t:TypeId}{off:Nat}{v:Value}(h:eX C cs t off=some v) :
  ∃v',(part t ⟨cs'⟩ off).run P w=.ok v' w/\aL σ v v':=by
 unfold eX at h;cases hd:C.gZ t with
 | none=>simp[hd] at h
 | some d=>
  simp only[hd] at h;cases ha:ue d with
  | true=>
   simp only[ha,RH] at h;cases hs:C.size t with
   | none=>simp[hs] at h
   | some n=>
    simp only[hs] at h;cases hp:cf cs off n with
    | none=>simp[hp] at h
    | some x=>
     simp only[hp,Sp,IT] at h;subst h;obtain⟨rfl,hl⟩:=eV hp;refine⟨.agg ⟨(cs'.drop off).take n⟩,?_,⟨_,rfl,(hv.drop off).take n⟩⟩;simp only[part,Sem.run_bind,vi ok hd,ha,Result.andThen_ok,SU,bF ok hs,Sem.run_pure];congr 2;apply TT;simp
  | false=>
   simp only[ha,RO] at h;obtain⟨v',hc,r⟩:=hv.get off v h;refine⟨v',?_,r⟩;simp[part,vi ok hd,ha,hc]
end
end Go.Abs
/-
 Soundness,second part: memory written,blocks laid.
-/
namespace Go.Abs
open Go
def dg{α:Type}(f:Nat->Option α)(i:Nat)(x:Option α):Nat->Option α:=λj=>if j=i then x else f j
theorem bL{α:Type}(f:Nat->Option α)(i:Nat)(x:Option α):dg f i x i=x:=by simp[dg]
theorem cl{α:Type}(f:Nat->Option α){i j:Nat}(x:Option α)(h:j≠i):dg f i x j=f j:=by simp[dg,h]
theorem aY.lW{σ:aY}{n:Nat}{l:Option Loc}(h:σ n=none):aY.le σ (dg σ n l):=λi m e=>by
 by_cases hi:i=n
 ·subst hi;rw[h] at e;cases e
 ·rw[cl _ _ hi];exact e
theorem aq.dQ(h:aq)(i:Nat)(b:Option aE):(h.put i b).get=dg h.get i b:=by
 funext j;rw[aq.dy];rfl
theorem aq.gL(h:aq)(b:aE):(h.alloc b).get=dg h.get h.next (some b):=by
 funext j;rw[aq.dP];rfl
structure Ev(σ:aY)(g:Nat->Option aE)(n:Nat)(w:World)(σ':aY)(g':Nat->Option aE)(n':Nat)(w':World):Prop where
 size:w.heap.size<=w'.heap.size
 os:w'.os=w.os
 out:w'.output=w.output
 tape:w'.tape=w.tape
 mg:∀b,b<w.heap.size->(∀i B l,g i=some B->B.ro=false->σ i=some l->l.bu≠b)->w'.heap[b]?=w.heap[b]?
 own:∀i B l,g' i=some B->B.ro=false->σ' i=some l->w.heap.size<=l.bu\/∃j D m,g j=some D/\D.ro=false/\σ j=some m/\m.bu=l.bu
 sig:∀i,i<n\/n'<=i->σ' i=σ i
theorem Ev.refl(σ:aY)(g:Nat->Option aE)(n:Nat)(w:World):Ev σ g n w σ g n w:=
 ⟨AS _,rfl,rfl,rfl,λ_ _ _=>rfl,λi B l h r s=>.inr ⟨i,B,l,h,r,s,rfl⟩,λ_ _=>rfl⟩
theorem Ev.trans{σ:aY}{g:Nat->Option aE}{n:Nat}{w:World}{σ1:aY}{g1:Nat->Option aE}{n1:Nat}{w1:World}{σ2:aY}{g2:Nat->Option aE}{n2:Nat}{w2:World}
  (a:Ev σ g n w σ1 g1 n1 w1) (b:Ev σ1 g1 n1 w1 σ2 g2 n2 w2) (h:n<=n1) (h':n1<=n2):Ev σ g n w σ2 g2 n2 w2 where
 size:=AI a.size b.size
 os:=b.os.trans a.os
 out:=b.out.trans a.out
 tape:=b.tape.trans a.tape
 mg:=λk hk hn=>by
  rw[b.mg k (SH hk a.size) (λi B l hg hr hs hb=>?_),a.mg k hk hn];rcases a.own i B l hg hr hs with h1 | ⟨j,D,m,h1,h2,h3,h4⟩
  ·omega
  ·exact hn j D m h1 h2 h3 (h4.trans hb)
 own:=λi B l hg hr hs=>by
  rcases b.own i B l hg hr hs with h1 | ⟨j,D,m,h1,h2,h3,h4⟩
  ·exact .inl (AI a.size h1)
  ·rcases a.own j D m h1 h2 h3 with h5 | ⟨k,E,q,h5,h6,h7,h8⟩
   ·exact .inl (by omega)
   ·exact .inr ⟨k,E,q,h5,h6,h7,h8.trans h4⟩
 sig:=λi hi=>by
  rw[b.sig i (by omega),a.sig i (by omega)]
theorem Ev.le{σ:aY}{g:Nat->Option aE}{n:Nat}{w:World}{σ1:aY}{g1:Nat->Option aE}{n1:Nat}{w1:World}
  (a:Ev σ g n w σ1 g1 n1 w1) (hf:∀i,n<=i->i<n1->σ i=none):aY.le σ σ1:=λi l e=>by
 by_cases h:n<=i/\i<n1
 ·rw[hf i h.1 h.2] at e;cases e
 ·rw[a.sig i (by omega)];exact e
theorem EE(A vs cs:List Value)(lo off:Nat)(h:off+vs.length<=cs.length)(hA:lo+cs.length<=A.length) :
  ((A.take (lo+off)++vs++A.drop (lo+off+vs.length)).drop lo).take cs.length=bk ((A.drop lo).take cs.length) off vs:=by
 unfold bk;apply SA;intro i;have h1:(A.take (lo+off)).length=lo+off:=by rw[Sm];omega
 have h2:(((A.drop lo).take cs.length).take off).length=off:=by simp;omega
 by_cases hi:i<cs.length
 ·rw[Sg,By hi,Se,SL];by_cases hio:i<off
  ·rw[RW (l₁:=A.take (lo+off)) (by omega),RW (l₁:=((A.drop lo).take cs.length).take off) (by omega)];simp only[Sg,Se];rw[By (by omega),By hio,By hi]
  ·rw[Sj (l₁:=A.take (lo+off)) (by omega),Sj (l₁:=((A.drop lo).take cs.length).take off) (by omega),h1,h2];have e:lo+i-(lo+off)=i-off:=by omega
   rw[e];by_cases hiv:i-off<vs.length
   ·rw[RW hiv,RW hiv]
   ·rw[Sj (by omega),Sj (by omega)];simp only[Sg,Se];rw[By (by omega)];congr 1;omega
 ·rw[R3 (by rw[Sm];omega)];symm;apply R3;simp only[RP,Sm,List.length_drop];omega
theorem j5(cs vs:List Value)(off:Nat)(h:off+vs.length<=cs.length):(bk cs off vs).length=cs.length:=by
 unfold bk;simp;omega
theorem aJ.Je{σ:aY}{cs cs' vs vs':List Value}(off:Nat)(h:aJ σ cs cs')(hv:aJ σ vs vs'):aJ σ (bk cs off vs) (bk cs' off vs'):=by
 unfold bk;rw[hv.length];exact(h.take off).app (hv.app (h.drop _))
theorem cU.write{σ:aY}{g:Nat->Option aE}{w:World}(s:cU σ g w){i:Nat}{cs cs':List Value}{l:Loc}(hg:g i=some (.cells false cs))(hl:σ i=some l)
  {arr:Array Value} {ty:TypeId} (hw:w.heap[l.bu]?=some (.cells arr ty (0,0))) (arr':Array Value) (ha:arr'.size=l.size) (hle:l.off+cs'.length<=arr'.size)
  (hv:aJ σ cs' ((arr'.toList.drop l.off).take cs'.length)):cU σ (dg g i (some (.cells false cs'))) (w.setRow l.bu arr') where
 bu:=λj b hb=>by
  by_cases hj:j=i
  ·subst hj;rw[bL] at hb;cases hb;exact⟨l,hl,arr',ty,(0,0),setRow_heap w l.bu arr arr' ty (0,0) hw,ha,λ_=>rfl,hle,hv⟩
  ·rw[cl _ _ hj] at hb;obtain⟨m,hm,r⟩:=s.bu j b hb;refine⟨m,hm,r.world (setRow_other w l.bu m.bu arr' ?_)⟩;exact s.inj j i b _ m l hb hg hj (.inr rfl) hm hl
 inj:=λj k b c lj lk hb hc hjk hr hlj hlk=>by
  have key:∀j b,dg g i (some (.cells false cs')) j=some b->∃b0,g j=some b0/\b0.ro=b.ro:=by
   intro j b hb;by_cases hj:j=i
   ·subst hj;rw[bL] at hb;cases hb;exact⟨_,hg,rfl⟩
   ·rw[cl _ _ hj] at hb;exact⟨b,hb,rfl⟩
  obtain⟨b0,h1,h2⟩:=key j b hb;obtain⟨c0,h3,h4⟩:=key k c hc;exact s.inj j k b0 c0 lj lk h1 h3 hjk (by rw[h2,h4];exact hr) hlj hlk
theorem Ev.write{σ:aY}{g:Nat->Option aE}{w:World}{i:Nat}{cs cs':List Value}{l:Loc}(n:Nat)(hg:g i=some (.cells false cs))(hl:σ i=some l)(arr':Array Value) :
  Ev σ g n w σ (dg g i (some (.cells false cs'))) n (w.setRow l.bu arr') where
 size:=by simp
 os:=rfl
 out:=rfl
 tape:=rfl
 mg:=λb _ hn=>setRow_other w l.bu b arr' (Ne.symm (hn i _ l hg rfl hl))
 own:=λj B m hb hr hs=>by
  by_cases hj:j=i
  ·subst hj;exact .inr ⟨j,_,m,hg,rfl,hs,rfl⟩
  ·rw[cl _ _ hj] at hb;exact .inr ⟨j,B,m,hb,hr,hs,rfl⟩
 sig:=λ_ _=>rfl
theorem cU.alloc{σ:aY}{g:Nat->Option aE}{w w':World}(s:cU σ g w){n:Nat}(hn:σ n=none){l:Loc}(hl:l.bu=w.heap.size)
  (hold:∀b,b<w.heap.size->w'.heap[b]?=w.heap[b]?) {b:aE} (hb:kX (dg σ n (some l)) w' l b):cU (dg σ n (some l)) (dg g n (some b)) w' where
 bu:=λj c hc=>by
  by_cases hj:j=n
  ·subst hj;rw[bL] at hc;cases hc;exact⟨l,bL _ _ _,hb⟩
  ·rw[cl _ _ hj] at hc;obtain⟨m,hm,r⟩:=s.bu j c hc;exact⟨m,by rw[cl _ _ hj];exact hm,(r.mono (aY.lW hn)).world (hold _ r.lt)⟩
 inj:=λj k b1 c lj lk hb1 hc hjk hr hlj hlk=>by
  have key:∀j b1 lj,dg g n (some b) j=some b1->dg σ n (some l) j=some lj->j≠n->lj.bu<w.heap.size:=by
   intro j b1 lj h1 h2 hj;rw[cl _ _ hj] at h1 h2;obtain⟨m,hm,r⟩:=s.bu j b1 h1;rw[h2] at hm;cases hm;exact r.lt
  by_cases hj:j=n
  ·subst hj;rw[bL] at hlj;cases hlj;have:=key k c lk hc hlk (Ne.symm hjk);omega
  ·by_cases hk:k=n
   ·subst hk;rw[bL] at hlk;cases hlk;have:=key j b1 lj hb1 hlj hj;omega
   ·rw[cl _ _ hj] at hb1 hlj;rw[cl _ _ hk] at hc hlk;exact s.inj j k b1 c lj lk hb1 hc hjk hr hlj hlk
theorem Ev.alloc{σ:aY}{g:Nat->Option aE}{w w':World}{n:Nat}{l:Loc}(hl:l.bu=w.heap.size)
  (hsz:w.heap.size<=w'.heap.size) (hold:∀b,b<w.heap.size->w'.heap[b]?=w.heap[b]?) (hos:w'.os=w.os) (hout:w'.output=w.output) (htape:w'.tape=w.tape) (b:aE) :
  Ev σ g n w (dg σ n (some l)) (dg g n (some b)) (n+1) w' where
 size:=hsz
 os:=hos
 out:=hout
 tape:=htape
 mg:=λk hk _=>hold k hk
 own:=λj B m hb hr hs=>by
  by_cases hj:j=n
  ·subst hj;rw[bL] at hs;cases hs;exact .inl (Nat.le_of_eq hl.symm)
  ·rw[cl _ _ hj] at hb hs;exact .inr ⟨j,B,m,hb,hr,hs,rfl⟩
 sig:=λi hi=>cl _ _ (by omega)
theorem BU{σ:aY}{g:Nat->Option aE}{w:World}(s:cU σ g w){n:Nat}(hn:σ n=none)(elem:TypeId){cs cs':List Value}(hv:aJ σ cs cs') :
  let l:Loc:=⟨w.heap.size,0,cs'.length⟩;let w':=w.alloc (.cells ⟨cs'⟩ elem)
  cU (dg σ n (some l)) (dg g n (some (.cells false cs))) w'/\Ev σ g n w (dg σ n (some l)) (dg g n (some (.cells false cs))) (n+1) w':=by
 have hold:∀b,b<w.heap.size->(w.alloc (.cells ⟨cs'⟩ elem)).heap[b]?=w.heap[b]?:=λb hb=>heap_alloc_old w _ b hb;refine⟨s.alloc hn rfl hold ?_,Ev.alloc rfl (by simp) hold rfl rfl rfl _⟩;refine⟨⟨cs'⟩,elem,(0,0),heap_alloc_new w _,rfl,λ_=>rfl,?_,?_⟩
 ·simp[hv.length]
 ·have:=hv.mono (aY.lW (l:=some ⟨w.heap.size,0,cs'.length⟩) hn);rw[<-hv.length];simpa using this
theorem Fl(σ:aY)(n:Nat)(l:Loc)(h:l.off=0):aL (dg σ n (some l)) (.pointer (some ⟨n,0,none⟩)) (.pointer (some ⟨l.bu,0,none⟩)):=
 ⟨l,bL _ _ _,rfl,by simp[h]⟩
end Go.Abs
/-
 Soundness,third part: operations that leave memory as it is.
-/
namespace Go.Abs
open Go
section
variable {C:Ctx}{P:Program}
theorem lY{h:aq}{b:Nat}{cs:List Value}(e:jS h b=some cs):∃ro,h.get b=some (.cells ro cs):=by
 unfold jS at e;cases hb:h.get b with
 | none=>simp[hb] at e
 | some x=>cases x with
  | cells ro l=>simp[hb] at e;subst e;exact⟨ro,rfl⟩
  | map m=>simp[hb] at e
theorem cU.cells{σ:aY}{g:Nat->Option aE}{w:World}(s:cU σ g w){b:Nat}{ro:Bool}{cs:List Value}(hg:g b=some (.cells ro cs)){l:Loc}(hl:σ b=some l) :
  ∃arr ty fr,w.heap[l.bu]?=some (.cells arr ty fr)/\arr.size=l.size/\(ro=false->fr=(0,0))/\l.off+cs.length<=arr.size/\
   aJ σ cs ((arr.toList.drop l.off).take cs.length):=by
 obtain⟨m,hm,r⟩:=s.bu b _ hg;rw[hl] at hm;cases hm;exact r
theorem cU.pQ{σ:aY}{g:Nat->Option aE}{w:World}(s:cU σ g w){b:Nat}{es:List (Value×Value)}(hg:g b=some (.map es)){l:Loc}(hl:σ b=some l) :
  ∃es',w.heap[l.bu]?=some (.map es' es.length)/\cj σ (alive es) es'.toList/\es'.toList.map (·.born)=stamps 0 es:=by
 obtain⟨m,hm,r⟩:=s.bu b _ hg;rw[hl] at hm;cases hm;exact r
theorem AN(ok:C.Ok P){σ:aY}{g:Nat->Option aE}{w:World}(s:cU σ g w){h:aq}{t:TypeId}{x x' v:Value}(hx:aL σ x x')
  (e:m5 C h t x=some v) (hg:∀a,x=.pointer (some a)->g a.block=h.get a.block) :
  ∃v',(Instr.loadAt t x').run P w=.ok v' w/\aL σ v v':=by
 unfold m5 at e;split at e
 ·rename_i b off;split at e
  ·rename_i cs hc;obtain⟨ro,hb⟩:=lY hc;obtain⟨l,hl,_,rfl⟩:=hx;obtain⟨arr,ty,fr,h1,h2,h3,h4,h5⟩:=s.cells ((hg _ rfl).trans hb) hl;obtain⟨v',hr,hv⟩:=Hn ok h1 h5 e;exact⟨v',by simpa [Instr.loadAt,Instr.sureAddr] using hr,hv⟩
  ·cases e
 ·cases e
theorem AK(ok:C.Ok P){σ:aY}(w:World){t:TypeId}{x x' i i' v:Value}(hx:aL σ x x')(hi:aL σ i i')(e:iU C t x i=some v) :
  ∃v',(Instr.indexAt t x' i').run P w=.ok v' w/\aL σ v v':=by
 unfold iU at e;split at e
 ·rename_i el b off len cp k n hu;split at e
  ·rename_i sz hs;split at e
   ·rename_i hn;cases e;obtain⟨l,a',cap,hl,_,rfl,hle,h0,hne⟩:=hx;obtain rfl:i'=.int k n:=hi;have hcap:cap≠0:=by omega
    obtain⟨rfl,_⟩:=hne hcap;refine⟨_,?_,⟨l,hl,rfl,rfl⟩⟩;have hn1:0<=n:=hn.1;have hn2:n<(len:Int):=hn.2;simp[Instr.indexAt,asIntOf,run_underlying (aD ok hu),bF ok hs,hn1,hn2,ik,T1]
   ·cases e
  ·cases e
 ·rename_i len el b off k n hu;split at e
  ·rename_i sz hs;split at e
   ·rename_i hn;cases e;obtain⟨l,hl,_,rfl⟩:=hx;obtain rfl:i'=.int k n:=hi;refine⟨_,?_,⟨l,hl,rfl,rfl⟩⟩;have hn1:0<=n:=hn.1;have hn2:n<(len:Int):=hn.2;simp[Instr.indexAt,Instr.sureAddr,asIntOf,run_underlying (aD ok hu),bF ok hs,hn1,hn2,ik,T1]
   ·cases e
  ·cases e
 ·cases e
theorem AH(ok:C.Ok P){σ:aY}(w:World){t:TypeId}{x x' v:Value}{f:Nat}(hx:aL σ x x')(e:j7 C t x f=some v) :
  ∃v',(Instr.fieldAt t x' f).run P w=.ok v' w/\aL σ v v':=by
 unfold j7 at e;split at e
 ·rename_i fs b off hu;split at e
  ·rename_i fd hf;split at e
   ·rename_i n hs;cases hn:(n==0) with
    | true=>simp[hn] at e
    | false=>
     simp only[hn,RO,IT] at e;subst e;obtain⟨l,hl,_,rfl⟩:=hx;refine⟨_,?_,⟨l,hl,rfl,rfl⟩⟩;have hf':fs[f]?=some fd:=by simpa using hf
     have hn':n≠0:=by simpa using hn
     simp[Instr.fieldAt,Instr.sureAddr,run_underlying (aD ok hu),hf',fieldPlace,bF ok hs,hn',ik,T1]
   ·cases e
  ·cases e
 ·cases e
theorem J9(ok:C.Ok P){σ:aY}(w:World){t:TypeId}{x x' v:Value}{f:Nat}(hx:aL σ x x')(e:vL C t x f=some v) :
  ∃v',(Instr.field t x' f).run P w=.ok v' w/\aL σ v v':=by
 unfold vL at e;split at e
 ·rename_i fs cs hu;split at e
  ·rename_i fd hf;cases cs with | mk cs=>
   obtain⟨cs',rfl,hr⟩:=hx;obtain⟨v',h1,h2⟩:=fN (P:=P) (w:=w) ok hr e;have hf':fs[f]?=some fd:=by simpa using hf
   exact⟨v',by simp[Instr.field,run_underlying (aD ok hu),hf',asAgg,h1],h2⟩
  ·cases e
 ·cases e
theorem Ka(ok:C.Ok P){σ:aY}(w:World){t:TypeId}{x x' i i' v:Value}(hx:aL σ x x')(hi:aL σ i i')(e:Aj C t x i=some v) :
  ∃v',(Instr.index t x' i').run P w=.ok v' w/\aL σ v v':=by
 unfold Aj at e;split at e
 ·rename_i len el cs k n hu;split at e
  ·rename_i sz hs;split at e
   ·rename_i hn;cases cs with | mk cs=>
    obtain⟨cs',rfl,hr⟩:=hx;obtain rfl:i'=.int k n:=hi;obtain⟨v',h1,h2⟩:=fN (P:=P) (w:=w) ok hr e;have hn1:0<=n:=hn.1;have hn2:n<(len:Int):=hn.2;exact⟨v',by simp[Instr.index,asIntOf,run_underlying (aD ok hu),bF ok hs,hn1,hn2,h1],h2⟩
   ·cases e
  ·cases e
 ·rename_i s k n hu;obtain rfl:x'=.string s:=hx;obtain rfl:i'=.int k n:=hi;split at e
  ·rename_i hn;cases hb:s.data.toList[n.toNat]? with
   | none=>simp[hb] at e
   | some b=>
    simp only[hb,Sp,IT] at e;subst e;refine⟨_,?_,rfl⟩;have hs:s[n.toNat]?=some b:=by
     have:=hb;simp only[R7] at this;rw[RV] at this;obtain⟨hlt,hbe⟩:=this;have hlt':n.toNat<s.size:=hlt;rw[getElem?_pos s n.toNat hlt'];exact congrArg some hbe
    simp[Instr.index,asIntOf,run_underlying (aD ok hu),hn,hs]
  ·cases e
 ·cases e
theorem nz{σ:aY}{v:Option Value}{v':Option Value}{d m:Nat}(hv:match v,v' with | none,none=>True | some a,some b=>aL σ a b | _,_=>False)
  (e:db v d=some m):(v=none/\v'=none/\m=d)\/∃k n,v=some (.int k n)/\v'=some (.int k n)/\0<=n/\n.toNat=m:=by
 unfold db at e;cases v with
 | none=>cases v' with
  | none=>simp at e;exact .inl ⟨rfl,rfl,e.symm⟩
  | some b=>cases hv
 | some a=>cases v' with
  | none=>cases hv
  | some b=>
   right;cases a with
   | int k n=>
    obtain rfl:b=.int k n:=hv;simp only at e;split at e
    ·rename_i h;cases e;exact⟨k,n,rfl,rfl,h,rfl⟩
    ·cases e
   | _=>simp at e
theorem run_sliceBound(P:Program)(w:World)(k:IntKind)(n:Int)(y:Nat)(code:BoundsCode)(h0:0<=n)(h1:n.toNat<=y) :
  (Instr.sliceBound (.int k n) y code).run P w=.ok n.toNat w:=by
 have:n<=(y:Int):=by omega
 simp[Instr.sliceBound,asIntOf,h0,this]
abbrev Am(σ:aY)(v v':Option Value):Prop:=match v,v' with | none,none=>True | some a,some b=>aL σ a b | _,_=>False
theorem gk{σ:aY}(P:Program)(w:World)(isS:Bool)(len cap:Nat){lo lo' hi hi':Option Value}{l h:Nat}(hlo:Am σ lo lo')(hhi:Am σ hi hi')
  (el:db lo 0=some l) (eh:db hi len=some h) (h1:l<=h) (h2:h<=cap) :
  (Instr.sliceBounds isS len cap lo' hi' none).run P w=.ok (l,h,cap) w:=by
 rcases nz hlo el with ⟨rfl,rfl,rfl⟩ | ⟨k,n,rfl,rfl,hn,rfl⟩<;>rcases nz hhi eh with ⟨rfl,rfl,rfl⟩ | ⟨k2,m,rfl,rfl,hm,rfl⟩
 ·simp[Instr.sliceBounds]
 ·simp[Instr.sliceBounds,run_sliceBound P w k2 m cap _ hm h2]
 ·simp[Instr.sliceBounds,run_sliceBound P w k n _ _ hn h1]
 ·simp[Instr.sliceBounds,run_sliceBound P w k2 m cap _ hm h2,run_sliceBound P w k n _ _ hn h1]
theorem lO{σ:aY}(P:Program)(w:World)(isS:Bool)(len cap:Nat){lo lo' hi hi' mx mx':Option Value}{l h m:Nat}(hlo:Am σ lo lo')(hhi:Am σ hi hi')
  (hmx:Am σ mx mx') (el:db lo 0=some l) (eh:db hi len=some h) (em:db mx 0=some m) (hsh:hi.isSome=true) (hsm:mx.isSome=true)
  (h1:l<=h) (h2:h<=m) (h3:m<=cap) :
  (Instr.sliceBounds isS len cap lo' hi' mx').run P w=.ok (l,h,m) w:=by
 rcases nz hmx em with ⟨rfl,rfl,rfl⟩ | ⟨k3,q,rfl,rfl,hq,rfl⟩
 ·cases hsm
 rcases nz hhi eh with ⟨rfl,rfl,rfl⟩ | ⟨k2,p,rfl,rfl,hp,rfl⟩
 ·cases hsh
 rcases nz hlo el with ⟨rfl,rfl,rfl⟩ | ⟨k,n,rfl,rfl,hn,rfl⟩
 ·simp[Instr.sliceBounds,run_sliceBound P w k3 q _ _ hq h3,run_sliceBound P w k2 p _ _ hp h2]
 ·simp[Instr.sliceBounds,run_sliceBound P w k3 q _ _ hq h3,run_sliceBound P w k2 p _ _ hp h2,run_sliceBound P w k n _ _ hn h1]
end
end Go.Abs
/-
 Soundness,fourth part: slice expressions,len,cap,operators.
-/
namespace Go.Abs
open Go
section
variable {C:Ctx}{P:Program}
theorem H9(ok:C.Ok P){σ:aY}{g:Nat->Option aE}{w:World}(s:cU σ g w){h:aq}{t:TypeId}{x x' v:Value}{lo lo' hi hi' mx mx':Option Value}(hx:aL σ x x')
  (hlo:Am σ lo lo') (hhi:Am σ hi hi') (hmx:Am σ mx mx') (e:kT C h t x lo hi mx=some v) (hg:∀a,x=.pointer (some a)->g a.block=h.get a.block) :
  ∃v',(Instr.sliceAt t x' lo' hi' mx').run P w=.ok v' w/\aL σ v v':=by
 unfold kT at e;split at e
 ·
  rename_i el a b hu;obtain⟨rfl,rfl,rfl⟩:=hx;split at e
  ·rename_i sz hs e1 e2 e3;cases hb:(mx.isSome&&hi.isNone) with
   | true=>simp[hb] at e
   | false=>
    simp only[hb,RO,IT] at e;subst e;refine⟨.slice none 0 0,?_,⟨rfl,rfl,rfl⟩⟩;by_cases hm:mx.isSome=true
    ·have hh:hi.isSome=true:=by
      cases hi with
      | none=>simp[hm] at hb
      | some _=>rfl
     simp[Instr.sliceAt,Instr.slice,run_underlying (aD ok hu),bF ok hs,
      lO P w true 0 0 hlo hhi hmx e1 e2 e3 hh hm (AS _) (AS _) (AS _)]
    ·cases mx with
     | some _=>simp at hm
     | none=>cases mx' with
      | some _=>cases hmx
      | none=>
       simp[Instr.sliceAt,Instr.slice,run_underlying (aD ok hu),bF ok hs,
        gk P w true 0 0 hlo hhi e1 e2 (AS _) (AS _)]
  ·cases e
 ·
  rename_i el b off len c hu;obtain⟨l,a',cap,hl,_,rfl,hle,h0,hne⟩:=hx;split at e
  ·rename_i sz lo_ hi_ hs e1 e2;cases hb:(Nat.ble lo_ hi_&&Nat.ble hi_ len&&(c==0||c==sz)) with
   | false=>simp[hb] at e
   | true=>
    simp only[hb,RH,IT] at e;subst e;simp only[IN,Th,SZ,SK] at hb;obtain⟨⟨hb1,hb2⟩,hb3⟩:=hb;cases mx' with
    | some _=>cases hmx
    | none=>
     refine⟨.slice (if cap=lo_ then some a' else some (a'.add (lo_*sz))) (hi_-lo_) (cap-lo_),?_,?_⟩
     ·simp[Instr.sliceAt,Instr.slice,run_underlying (aD ok hu),bF ok hs,
       gk P w true len cap hlo hhi e1 e2 hb1 (AI hb2 hle)]
     ·refine⟨l,if cap=lo_ then a' else a'.add (lo_*sz),cap-lo_,hl,rfl,?_,by omega,λhc=>by have:=h0 hc;omega,λhc=>?_⟩
      ·split<;>rfl
      ·have hcl:cap≠lo_:=by omega
       obtain⟨rfl,hroom⟩:=hne (by omega);rw[AT hcl];have hcs:c=sz:=by
        rcases hb3 with h | h
        ·have:=h0 h;omega
        ·exact h
       subst hcs;refine⟨by rw[ik,T1],?_⟩;dsimp only at hroom ⊢;have:(cap-lo_)*c+lo_*c=cap*c:=by rw[<-Ss];congr 1;omega
       omega
  ·rename_i sz lo_ hi_ mv hs e1 e2;split at e
   ·rename_i m_ e3;cases hb:(hi.isSome&&Nat.ble lo_ hi_&&Nat.ble hi_ m_&&Nat.ble m_ len&&(c==0||c==sz)) with
    | false=>simp only[hb,RO] at e;cases e
    | true=>
     simp only[hb,RH,IT] at e;subst e;simp only[IN,Th,SZ,SK] at hb;obtain⟨⟨⟨⟨hb0,hb1⟩,hb2⟩,hb4⟩,hb3⟩:=hb;refine⟨.slice (if m_=lo_ then some a' else some (a'.add (lo_*sz))) (hi_-lo_) (m_-lo_),?_,?_⟩
     ·simp[Instr.sliceAt,Instr.slice,run_underlying (aD ok hu),bF ok hs,
       lO P w true len cap hlo hhi hmx e1 e2 e3 hb0 rfl hb1 hb2 (AI hb4 hle)]
     ·refine⟨l,if m_=lo_ then a' else a'.add (lo_*sz),m_-lo_,hl,rfl,?_,by omega,λhc=>?_,λhc=>?_⟩
      ·split<;>rfl
      ·cases hml:(m_==lo_) with
       | true=>simp at hml;omega
       | false=>simp only[hml,RO] at hc;have:=h0 hc;omega
      ·have hcl:m_≠lo_:=by omega
       obtain⟨rfl,hroom⟩:=hne (by omega);rw[AT hcl];have hml:(m_==lo_)=false:=by simpa using hcl
       have hcs:c=sz:=by
        rcases hb3 with h | h
        ·have:=h0 h;omega
        ·exact h
       subst hcs;refine⟨by rw[ik,T1],?_⟩;dsimp only at hroom ⊢;have:(m_-lo_)*c+lo_*c=m_*c:=by rw[<-Ss];congr 1;omega
       have:m_*c<=cap*c:=OF _ (by omega);simp only[hml,RO];omega
   ·cases e
  ·cases e
 ·
  rename_i n el b off hu;obtain⟨l,hl,_,rfl⟩:=hx;split at e
  ·rename_i sz lo_ hi_ cs hs e1 e2 ec;cases hb:(Nat.ble lo_ hi_&&Nat.ble hi_ n&&Nat.blt 0 sz&&Nat.ble (off+n*sz) cs.length) with
   | false=>simp only[hb,RO] at e;cases e
   | true=>
    simp only[hb,RH,IT] at e;subst e;simp only[IN,Th,Nat.blt_eq] at hb;obtain⟨⟨⟨hb1,hb2⟩,hb3⟩,hb4⟩:=hb;obtain⟨ro,hblk⟩:=lY ec;obtain⟨arr,ty,fr,q1,q2,q3,q4,q5⟩:=s.cells ((hg _ rfl).trans hblk) hl;cases mx' with
    | some _=>cases hmx
    | none=>
     refine⟨.slice (some (if n=lo_ then ⟨l.bu,l.off+off,none⟩ else (⟨l.bu,l.off+off,none⟩:Addr).add (lo_*sz))) (hi_-lo_) (n-lo_),?_,?_⟩
     ·simp[Instr.sliceAt,Instr.sureAddr,run_underlying (aD ok hu),bF ok hs,gk P w false n n hlo hhi e1 e2 hb1 hb2]
     ·refine⟨l,_,n-lo_,hl,rfl,rfl,by omega,λhc=>?_,λhc=>?_⟩
      ·cases hml:(n==lo_) with
       | true=>simp at hml;omega
       | false=>simp only[hml,RO] at hc;omega
      ·have hcl:n≠lo_:=by omega
       have hml:(n==lo_)=false:=by simpa using hcl
       rw[AT hcl];refine⟨by rw[ik,T1],?_⟩;have:(n-lo_)*sz+lo_*sz=n*sz:=by rw[<-Ss];congr 1;omega
       simp only[hml,RO];omega
  ·cases e
 ·rename_i str hu;obtain rfl:x'=.string str:=hx;split at e
  ·rename_i lo_ hi_ e1 e2;cases hb:(Nat.ble lo_ hi_&&Nat.ble hi_ str.size) with
   | false=>simp[hb] at e
   | true=>
    simp only[hb,RH,IT] at e;subst e;simp only[IN,Th] at hb;cases mx' with
    | some _=>cases hmx
    | none=>
     refine⟨.string (str.extract lo_ hi_),?_,rfl⟩;simp[Instr.sliceAt,Instr.slice,run_underlying (aD ok hu),gk P w false str.size str.size hlo hhi e1 e2 hb.1 hb.2]
  ·cases e
 ·cases e
end
end Go.Abs
namespace Go.Abs
open Go
section
variable {C:Ctx}{P:Program}
theorem MI(ok:C.Ok P){σ:aY}{g:Nat->Option aE}{w:World}(s:cU σ g w){h:aq}{t:TypeId}{x x' v:Value}(hx:aL σ x x')(ts:List TypeId)(ty:TypeId)
  (e:DP C h t x=some v) (hg:∀r,x=.map (some r)->g r=h.get r) :
  ∃v',(Builtin.len_ ⟨t::ts⟩ ty ⟨[x']⟩).run P w=.ok v' w/\aL σ v v':=by
 unfold DP at e;split at e
 ·rename_i str hu;obtain rfl:x'=.string str:=hx;cases e;exact⟨_,by simp[Builtin.len_,run_underlying (aD ok hu),goInt],rfl⟩
 ·rename_i y n el hu;cases e;exact⟨.int .i64 n,by simp[Builtin.len_,run_underlying (aD ok hu),goInt],rfl⟩
 ·rename_i el a n c hu;cases e;cases a with
  | none=>
   obtain⟨rfl,rfl,rfl⟩:=hx;exact⟨.int .i64 (0:Nat),by simp[Builtin.len_,run_underlying (aD ok hu),goInt],rfl⟩
  | some a=>
   obtain⟨l,a',cap,_,_,rfl,_⟩:=hx;exact⟨.int .i64 n,by simp[Builtin.len_,run_underlying (aD ok hu),goInt],rfl⟩
 ·rename_i hu;obtain rfl:x'=.map none:=hx;cases e;exact⟨_,by simp[Builtin.len_,run_underlying (aD ok hu),goInt],rfl⟩
 ·rename_i r hu;obtain⟨l,hl,rfl⟩:=hx;split at e
  ·rename_i es he;cases e;obtain⟨es',h1,h2,_⟩:=s.pQ ((hg _ rfl).trans he) hl;have hlen:es'.size=(alive es).length:=by
    have:∀{es:List (Value×Value)} {l:List MapEntry},cj σ es l->l.length=es.length:=by
     intro es
     induction es with
     | nil=>intro l h;rw[show l=[] from h];rfl
     | cons x xs ih=>intro l h;obtain⟨k,v⟩:=x;obtain⟨e,r,rfl,_,_,h⟩:=h;simp[ih h]
    simpa using this h2
   refine⟨.int .i64 (alive es).length,?_,rfl⟩;simp[Builtin.len_,run_underlying (aD ok hu),goInt,getObj,Sem.run,h1,hlen]
  ·cases e
 ·cases e
theorem Na(ok:C.Ok P){σ:aY}(w:World){t:TypeId}{x x' v:Value}(hx:aL σ x x')(ts:List TypeId)(ty:TypeId)
  (e:KF C t x=some v):∃v',(Builtin.cap_ ⟨t::ts⟩ ty ⟨[x']⟩).run P w=.ok v' w/\aL σ v v':=by
 unfold KF at e;split at e
 ·rename_i y n el hu;cases e;exact⟨.int .i64 n,by simp[Builtin.cap_,run_underlying (aD ok hu),goInt],rfl⟩
 ·rename_i el n c hu;cases e;obtain⟨rfl,rfl,rfl⟩:=hx;exact⟨.int .i64 (0:Nat),by simp[Builtin.cap_,run_underlying (aD ok hu),goInt],rfl⟩
 ·rename_i el a n hu;cases e;obtain⟨l,a',cap,_,_,rfl,_,h0,_⟩:=hx;obtain rfl:=h0 rfl;exact⟨.int .i64 (0:Nat),by simp[Builtin.cap_,run_underlying (aD ok hu),goInt],rfl⟩
 ·cases e
theorem FY(w:World){op:BinOp}{k:IntKind}{a b:Int}{v:Value}(h1:op≠.shl)(h2:op≠.shr)(t:TypeId)(e:dj op k a b=some v) :
  (binOp op t (.int k a) (.int k b)).run P w=.ok v w/\plain v=true:=by
 cases op<;>simp only[dj] at e<;>first
  | exact absurd rfl h1
  | exact absurd rfl h2
  | (split at e
     · cases e
     · rename_i hb;cases e;exact⟨by simp[binOp,Op.intDiv,hb],rfl⟩)
  | (cases e;exact⟨by simp[binOp,Op.intArith,Op.intBits,Op.intCmp],rfl⟩)
theorem Cn(w:World){op:BinOp}{k kb:IntKind}{a b:Int}{v:Value}(t:TypeId)(e:jH op k a b=some v) :
  (binOp op t (.int k a) (.int kb b)).run P w=.ok v w/\plain v=true:=by
 unfold jH at e;split at e
 ·cases e
 ·rename_i hb
  cases op<;>simp only at e<;>first
   | (cases e;done)
   | (cases e;exact⟨by simp[binOp,Op.shift,hb],rfl⟩)
theorem A9(w:World){op:BinOp}{a b:ByteArray}{v:Value}(t:TypeId)(e:lV op a b=some v) :
  (binOp op t (.string a) (.string b)).run P w=.ok v w/\plain v=true:=by
 cases op<;>simp only[lV] at e<;>first
  | (cases e;done)
  | (cases e;exact⟨by simp[binOp,Op.stringOp],rfl⟩)
  | skip
 cases hb:Nat.ble (a.size+b.size) 9223372036854775807 with
 | false=>simp only[hb,RO] at e;cases e
 | true=>
  simp only[hb,RH,IT] at e;subst e;have h1:=S1 hb;have hm:IntKind.i64.max=9223372036854775807:=by decide
  have:¬(((a.size+b.size:Nat):Int) > IntKind.i64.max):=by rw[hm];omega
  refine⟨?_,rfl⟩;simp only[binOp,Op.stringOp,AT this,Sem.run_pure]
theorem N0{σ:aY}(w:World){op:UnOp}{x x' v:Value}(hx:aL σ x x')(e:Pm op x=some v):(Op.unary op x').run P w=.ok v w/\plain v=true:=by
 unfold Pm at e;split at e
 ·obtain rfl:=(show x'=_ from hx);cases e;exact⟨by simp[Op.unary,Op.intArith],rfl⟩
 ·obtain rfl:=(show x'=_ from hx);cases e;exact⟨by simp[Op.unary,Op.intBits],rfl⟩
 ·obtain rfl:=(show x'=_ from hx);cases e;exact⟨by simp[Op.unary],rfl⟩
 ·cases e
end
end Go.Abs
/-
 Soundness,fifth part: equality,maps,struct literals.
-/
namespace Go.Abs
open Go
section
variable {C:Ctx}{P:Program}
theorem DM(ok:C.Ok P){σ:aY}(w:World){t:TypeId}{d:TypeDesc}{x x' y y':Value}{b:Bool}(hu:C.gZ t=some d)(hx:aL σ x x')(hy:aL σ y y')
  (e:gr d x y=some b) (n:Nat):(Op.equalIn (n+1) t x' y').run P w=.ok b w:=by
 unfold gr at e;split at e
 ·obtain rfl:=(show x'=_ from hx);obtain rfl:=(show y'=_ from hy);cases e;simp[Op.equalIn,run_underlying (aD ok hu)]
 ·obtain rfl:=(show x'=_ from hx);obtain rfl:=(show y'=_ from hy);split at e
  ·rename_i hk;cases e;subst hk;simp[Op.equalIn,run_underlying (aD ok hu)]
  ·cases e
 ·obtain rfl:=(show x'=_ from hx);obtain rfl:=(show y'=_ from hy);cases e;simp[Op.equalIn,run_underlying (aD ok hu)]
 ·obtain rfl:=(show x'=_ from hx);obtain rfl:=(show y'=_ from hy);cases e;simp[Op.equalIn,run_underlying (aD ok hu)]
 ·cases e
theorem xD(ok:C.Ok P){σ:aY}(w:World){d e s:Nat}{eq:Value->Value->Option Bool}
  (ih:∀x y x' y' b,aL σ x x'->aL σ y y'->eq x y=some b->(Op.equalIn d e x' y').run P w=.ok b w) {xs ys xs' ys':List Value} (hx:aJ σ xs xs') (hy:aJ σ ys ys') :
  ∀(is:List Nat) (b:Bool),rC C eq e s xs ys is=some b->(Op.eqItems d e s ⟨xs'⟩ ⟨ys'⟩ is).run P w=.ok b w
 | [],b,h=>by simp[rC] at h;subst h;simp[Op.eqItems]
 | i::is,b,h=>by
  unfold rC at h;split at h
  ·rename_i a a2 h1 h2;obtain⟨u,hu1,hu2⟩:=fN (P:=P) (w:=w) ok hx h1;obtain⟨v,hv1,hv2⟩:=fN (P:=P) (w:=w) ok hy h2;cases hq:eq a a2 with
   | none=>simp[hq] at h
   | some r=>
    have h3:=ih a a2 u v r hu2 hv2 hq;cases r with
    | false=>
     simp[hq] at h;subst h;simp[Op.eqItems,hu1,hv1,h3]
    | true=>
     simp[hq] at h;have h4:=xD ok w ih hx hy is b h;simp[Op.eqItems,hu1,hv1,h3,h4]
  ·cases h
theorem uD(ok:C.Ok P){σ:aY}(w:World){d:Nat}{eq:TypeId->Value->Value->Option Bool}
  (ih:∀t x y x' y' b,aL σ x x'->aL σ y y'->eq t x y=some b->(Op.equalIn d t x' y').run P w=.ok b w) {xs ys xs' ys':List Value} (hx:aJ σ xs xs') (hy:aJ σ ys ys') :
  ∀(fs:List Field) (b:Bool),(∀f∈fs,f.name≠ "_")->eqFields C eq fs xs ys=some b->(Op.eqFields d ⟨xs'⟩ ⟨ys'⟩ fs).run P w=.ok b w
 | [],b,_,e=>by simp[eqFields] at e;subst e;simp[Op.eqFields]
 | f::fs,b,hn,e=>by
  unfold eqFields at e;split at e
  ·rename_i a a2 h1 h2;obtain⟨u,hu1,hu2⟩:=fN (P:=P) (w:=w) ok hx h1;obtain⟨v,hv1,hv2⟩:=fN (P:=P) (w:=w) ok hy h2;have hname:f.name≠ "_":=hn f (by simp)
   cases hq:eq f.type a a2 with
   | none=>simp[hq] at e
   | some r=>
    have h3:=ih f.type a a2 u v r hu2 hv2 hq;cases r with
    | false=>
     simp[hq] at e;subst e;simp[Op.eqFields,hname,hu1,hv1,h3]
    | true=>
     simp[hq] at e;have h4:=uD ok w ih hx hy fs b (λg hg=>hn g (by simp[hg])) e;simp[Op.eqFields,hname,hu1,hv1,h3,h4]
  ·cases e
theorem wh(ok:C.Ok P){σ:aY}(w:World):∀(n d:Nat) (t:TypeId) (x y x' y':Value) (b:Bool),n<=d->aL σ x x'->aL σ y y'->uA C n t x y=some b->
  (Op.equalIn d t x' y').run P w=.ok b w
 | 0,_,_,_,_,_,_,_,_,_,_,e=>by cases e
 | n+1,0,_,_,_,_,_,_,h,_,_,_=>by omega
 | n+1,d+1,t,x,y,x',y',b,h,hx,hy,e=>by
  unfold uA at e;split at e
  ·rename_i fs xs ys hu;cases hf:C.flat t with
   | false=>simp[hf] at e
   | true=>
    simp only[hf,RH] at e;obtain⟨h1,_,h3⟩:=ok.flat t hf;cases xs with | mk xs=>
    cases ys with | mk ys=>
    obtain⟨xs',rfl,hxs⟩:=hx;obtain⟨ys',rfl,hys⟩:=hy;have hu':=aD ok hu;have hfo:P.fieldsOf t=fs:=by simp[Program.fieldsOf,hu']
    rw[run_equalIn_struct w d t ⟨xs'⟩ ⟨ys'⟩ (by rw[hfo];exact hu') h1,hfo];exact uD ok w (λt x y x' y' b hx hy e=>wh ok w n d t x y x' y' b (by omega) hx hy e) hxs hys fs.toList b (h3 fs hu) e
  ·rename_i len el xs ys hu;split at e
   ·rename_i s hs;cases xs with | mk xs=>
    cases ys with | mk ys=>
    obtain⟨xs',rfl,hxs⟩:=hx;obtain⟨ys',rfl,hys⟩:=hy;obtain⟨i,hi,hsz⟩:=o9 ok hs;have hc:P.cellsOf el=s:=by simp[Program.cellsOf,hi,hsz]
    rw[run_equalIn_array w d ⟨xs'⟩ ⟨ys'⟩ (aD ok hu) hi,hc];exact xD ok w (λx y x' y' b hx hy e=>wh ok w n d el x y x' y' b (by omega) hx hy e) hxs hys _ b e
   ·cases e
  ·rename_i dd hu _ _;exact DM ok w hu hx hy e d
  ·cases e
theorem zm{h:aq}{i:Nat}(e:live h i=true):∃cs,h.get i=some (.cells false cs):=by
 unfold live at e;split at e
 ·rename_i cs hc;exact⟨cs,hc⟩
 ·cases e
theorem cU.frozen{σ:aY}{g:Nat->Option aE}{w:World}(s:cU σ g w){i:Nat}{cs:List Value}(hg:g i=some (.cells false cs)){l:Loc}(hl:σ i=some l) :
  (∀o sp,w.frozen? ⟨l.bu,o,sp⟩=false)/\∃t n,w.shape? l.bu=some (t,n):=by
 obtain⟨arr,ty,fr,h1,h2,h3,_⟩:=s.cells hg hl;obtain rfl:=h3 rfl;exact⟨λo sp=>by simp[World.frozen?,h1],ty,arr.size,by simp[World.shape?,h1]⟩
theorem CH{σ:aY}{g:Nat->Option aE}{w:World}(s:cU σ g w){h:aq}{a b i j:Nat}{la lb:Loc}(ha:σ a=some la)(hb:σ b=some lb)
  (hga:g a=h.get a) (hgb:g b=h.get b) {r:Bool}
  (e:(bif a==b then some (i==j) else bif live h a&&live h b then some false else none)=some r) :
  (sameAddr ⟨la.bu,la.off+i,none⟩ ⟨lb.bu,lb.off+j,none⟩).run P w=.ok r w:=by
 cases hab:(a==b) with
 | true=>
  obtain rfl:a=b:=by simpa using hab
  rw[ha] at hb;cases hb;simp only[hab,RH,IT] at e;subst e;have:((⟨la.bu,la.off+i,none⟩:Addr)==⟨la.bu,la.off+j,none⟩)=(i==j):=by
   rw[Ta];simp
  simp[sameAddr,this]
 | false=>
  simp only[hab,RO] at e;cases hlv:(live h a&&live h b) with
  | false=>simp[hlv] at e
  | true=>
   simp only[hlv,RH,IT] at e;subst e;simp only[IN] at hlv;obtain⟨cs,hca⟩:=zm hlv.1;obtain⟨ds,hcb⟩:=zm hlv.2;have hne:a≠b:=by simpa using hab
   have hblk:=s.inj a b _ _ la lb (hga.trans hca) (hgb.trans hcb) hne (.inl rfl) ha hb;obtain⟨fa,ta,na,sa⟩:=s.frozen (hga.trans hca) ha;obtain⟨fb,tb,nb,sb⟩:=s.frozen (hgb.trans hcb) hb;have hbe:(la.bu==lb.bu)=false:=by simpa using hblk
   simp[sameAddr,hbe,fa,fb,noView,viewAt,sa,sb,mayBeOne,stringish]
theorem EN(ok:C.Ok P){σ:aY}{g:Nat->Option aE}{w:World}(s:cU σ g w){h:aq}{t:TypeId}{x x' y y':Value}{b:Bool}(hx:aL σ x x')(hy:aL σ y y')
  (hgx:∀a,x=.pointer (some a)->g a.block=h.get a.block) (hgy:∀a,y=.pointer (some a)->g a.block=h.get a.block)
  (e:equalA C h t x y=some b) (d:Nat) (hd:8<=d):(Op.equalIn (d+1) t x' y').run P w=.ok b w:=by
 unfold equalA at e;split at e
 ·rename_i el p hu;cases e;obtain rfl:=(show x'=_ from hx);cases p with
  | none=>obtain rfl:=(show y'=_ from hy);simp[Op.equalIn,run_underlying (aD ok hu)]
  | some a=>obtain⟨l,_,_,rfl⟩:=hy;simp[Op.equalIn,run_underlying (aD ok hu)]
 ·rename_i el p hu;cases e;obtain⟨l,_,_,rfl⟩:=hx;obtain rfl:=(show y'=_ from hy);simp[Op.equalIn,run_underlying (aD ok hu)]
 ·rename_i el a i b2 j hu;split at e
  ·rename_i n hs;cases hn:(n==0) with
   | true=>simp[hn] at e
   | false=>
    simp only[hn,RO] at e;obtain⟨la,hla,_,rfl⟩:=hx;obtain⟨lb,hlb,_,rfl⟩:=hy;have:=CH (P:=P) s hla hlb (hgx _ rfl) (hgy _ rfl) e;have hn':n≠0:=by simpa using hn
    simp[Op.equalIn,run_underlying (aD ok hu),bF ok hs,hn',this]
  ·cases e
 ·rename_i ms hu;cases e;obtain rfl:=(show x'=_ from hx);obtain rfl:=(show y'=_ from hy);simp[Op.equalIn,run_underlying (aD ok hu)]
 ·rename_i ms t' v hu;cases e;obtain rfl:=(show x'=_ from hx);obtain⟨u,rfl,_⟩:=hy;simp[Op.equalIn,run_underlying (aD ok hu)]
 ·rename_i ms t' v hu;cases e;obtain⟨u,rfl,_⟩:=hx;obtain rfl:=(show y'=_ from hy);simp[Op.equalIn,run_underlying (aD ok hu)]
 ·rename_i el n c a n' c' hu;cases e;obtain⟨rfl,rfl,rfl⟩:=hx;cases a with
  | none=>obtain⟨rfl,rfl,rfl⟩:=hy;simp[Op.equalIn,run_underlying (aD ok hu)]
  | some a=>obtain⟨l,a',cap,_,_,rfl,_⟩:=hy;simp[Op.equalIn,run_underlying (aD ok hu)]
 ·rename_i el a n c n' c' hu;cases e;obtain⟨l,a',cap,_,_,rfl,_⟩:=hx;obtain⟨rfl,rfl,rfl⟩:=hy;simp[Op.equalIn,run_underlying (aD ok hu)]
 ·rename_i kt et r hu;cases e;obtain rfl:=(show x'=_ from hx);cases r with
  | none=>obtain rfl:=(show y'=_ from hy);simp[Op.equalIn,run_underlying (aD ok hu)]
  | some a=>obtain⟨l,_,rfl⟩:=hy;simp[Op.equalIn,run_underlying (aD ok hu)]
 ·rename_i kt et r hu;cases e;obtain⟨l,_,rfl⟩:=hx;obtain rfl:=(show y'=_ from hy);simp[Op.equalIn,run_underlying (aD ok hu)]
 ·rename_i hu;cases e;obtain rfl:=(show x'=_ from hx);obtain rfl:=(show y'=_ from hy);simp[Op.equalIn,run_underlying (aD ok hu)]
 ·rename_i fn xs ys hu;cases e;obtain rfl:=(show x'=_ from hx);cases xs with | mk xs=>
  cases ys with | mk ys=>
  obtain⟨_,_,rfl,_⟩:=hy;simp[Op.equalIn,run_underlying (aD ok hu)]
 ·rename_i fn xs ys hu;cases e;cases xs with | mk xs=>
  cases ys with | mk ys=>
  obtain⟨_,_,rfl,_⟩:=hx;obtain rfl:=(show y'=_ from hy);simp[Op.equalIn,run_underlying (aD ok hu)]
 ·exact wh ok w 8 (d+1) t _ _ x' y' b (by omega) hx hy e
theorem CP(ok:C.Ok P){σ:aY}{g:Nat->Option aE}{w:World}(s:cU σ g w){h:aq}{t:TypeId}{x x' y y':Value}{b:Bool}(hx:aL σ x x')(hy:aL σ y y')
  (hgx:∀a,x=.pointer (some a)->g a.block=h.get a.block) (hgy:∀a,y=.pointer (some a)->g a.block=h.get a.block)
  (e:equalA C h t x y=some b):(Op.equal t x' y').run P w=.ok b w:=
 EN ok s hx hy hgx hgy e 9999 (by omega)
end
end Go.Abs