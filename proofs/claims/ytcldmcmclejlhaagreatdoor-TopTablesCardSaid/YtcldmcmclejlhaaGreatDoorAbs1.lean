/-
  The abstract machine is sound, first part: relations between values, aggregates, loads, equality.
-/
import Derived.Test.YtcldmcmclejlhaaGreatDoorAbs0
import Derived.Laws.Append
import Derived.Laws.CopyRow
import Derived.Laws.Rows
import Derived.Laws.StructEq
import Derived.ChangeKeysEq
/-
 Soundness,first part: what the model's operations do where the abstract ones give a result.
-/
namespace Go.Abs
open Go
structure Ctx.Ok(C:Ctx)(P:Program):Prop where
 info:∀t i,C.info t=some i->P.info? t=some i
 func:∀f fn,C.func f=some fn->P.funcs[f]?=some fn
 call:∀f fn,C.func f=some fn->fn.body.isSome=true->∀args w,(callFunc f args).run P w=.ok (.enter f args) w
 flat:∀t,C.flat t=true->P.stoodInHeld t=false/\P.eqGuardType P.depth t=false/\∀fs,C.iL t=some (.struct fs)->∀f∈fs.toList,f.name≠ "_"
 mixed:P.follows .mixedOrders=true
section
variable {C:Ctx}{P:Program}
theorem aQ(ok:C.Ok P){t:TypeId}{d:TypeDesc}(h:C.iL t=some d):P.underlying t=some d:=by
 unfold Ctx.iL at h;unfold Program.underlying;cases hi:C.info t with| none=>{simp[hi] at h}| some i=>{simp only[hi] at h;rw[ok.info t i hi];cases i with| mk desc str size bytes hp g l zero comp ms=>{cases desc with| named n u=>{simp only at h ⊢;cases hu:C.info u with| none=>{simp[hu] at h}| some j=>{rw[ok.info u j hu];simpa [hu] using h}}| _=>{simpa using h}}}
theorem qN(ok:C.Ok P){t:TypeId}{n:Nat}(h:C.size t=some n):∃i,P.info? t=some i/\i.size=n:=by
 unfold Ctx.size at h;cases hi:C.info t with| none=>{simp[hi] at h}| some i=>{exact⟨i,ok.info t i hi,by simpa [hi] using h⟩}
theorem AA(ok:C.Ok P){t:TypeId}{n:Nat}(h:C.bytes t=some n):∃i,P.info? t=some i/\i.bytes=n:=by
 unfold Ctx.bytes at h;cases hi:C.info t with| none=>{simp[hi] at h}| some i=>{exact⟨i,ok.info t i hi,by simpa [hi] using h⟩}
theorem qz(ok:C.Ok P){t:TypeId}{z:Value}(h:C.zero t=some z):∃i,P.info? t=some i/\i.zero=some z/\plain z=true/\z.cells.size=i.size:=by
 unfold Ctx.zero at h;cases hi:C.info t with| none=>{simp[hi] at h}| some i=>{simp only[hi] at h;cases g:i.zero with| none=>{simp[g] at h}| some y=>{simp only[g] at h;cases hp:(plain y&&y.cells.size==i.size) with| false=>{simp[hp] at h}| true=>{simp only[hp,xf,sw] at h;subst h;simp only[tx,T5] at hp;exact⟨i,ok.info t i hi,g,hp.1,hp.2⟩}}}
theorem bV(ok:C.Ok P){t:TypeId}{n:Nat}(h:C.size t=some n)(w:World):(sizeOf t).run P w=.ok n w:=by
 obtain⟨i,hi,rfl⟩:=qN ok h;simp[sizeOf,typeInfo,hi]
theorem x9(ok:C.Ok P){t:TypeId}{d:TypeDesc}(h:C.iL t=some d)(w:World):(isAgg t).run P w=.ok (v8 d) w:=by
 unfold isAgg;rw[Sem.run_bind,run_underlying (aQ ok h) w];cases d<;>rfl
theorem eN(ok:C.Ok P){t:TypeId}{z:Value}(h:C.zero t=some z)(w:World):(zeroValue t).run P w=.ok z w:=by
 obtain⟨i,hi,g,_,_⟩:=qz ok h;simp[zeroValue,typeInfo,hi,g]
theorem ij(ok:C.Ok P){t:TypeId}{z:Value}(h:C.zero t=some z):plain z=true:=(qz ok h).choose_spec.2.2.1
def cW(σ:bD):List (Value×Value)->List MapEntry->Prop
 | [],l=>l=[]
 | (k,v)::es,l=>∃e r,l=e::r/\aX σ k e.key/\aX σ v e.val/\cW σ es r
def om(σ:bD)(w:World)(l:Loc):aJ->Prop
 | .cells ro cs=>∃arr ty fr,w.heap[l.bQ]?=some (.cells arr ty fr)/\arr.size=l.size/\(ro=false->fr=(0,0))/\l.off+cs.length<=arr.size/\
   aV σ cs ((arr.toList.drop l.off).take cs.length)
 | .map es=>∃g,w.heap[l.bQ]?=some (.map g es.length)/\cW σ (alive es) g.toList/\g.toList.map (·.born)=stamps 0 es
structure cM(σ:bD)(g:Nat->Option aJ)(w:World):Prop where
 bQ:∀i b,g i=some b->∃l,σ i=some l/\om σ w l b
 inj:∀i j b c li lj,g i=some b->g j=some c->i≠j->(b.ro=false\/c.ro=false)->σ i=some li->σ j=some lj->li.bQ≠lj.bQ
theorem cW.mono{σ τ:bD}(h:bD.le σ τ):∀{es:List (Value×Value)} {l:List MapEntry},cW σ es l->cW τ es l
 | [],_,r=>r
 | (_,_)::_,_,⟨e,r,q,a,b,s⟩=>⟨e,r,q,a.mono h,b.mono h,cW.mono h s⟩
theorem om.mono{σ τ:bD}(h:bD.le σ τ){w:World}{l:Loc}:∀{b:aJ},om σ w l b->om τ w l b
 | .cells _ _,⟨a,t,f,g,i,j,q4,r⟩=>⟨a,t,f,g,i,j,q4,r.mono h⟩
 | .map _,⟨e,q,r,s⟩=>⟨e,q,r.mono h,s⟩
theorem om.world{σ:bD}{w g:World}{l:Loc}(e:g.heap[l.bQ]?=w.heap[l.bQ]?):∀{b:aJ},om σ w l b->om σ g l b
 | .cells _ _,⟨a,t,f,i,q⟩=>⟨a,t,f,by rw[e];exact i,q⟩
 | .map _,⟨x,q,r⟩=>⟨x,by rw[e];exact q,r⟩
theorem om.lt{σ:bD}{w:World}{l:Loc}{b:aJ}(h:om σ w l b):l.bQ<w.heap.size:=by
 cases b with| cells ro cs=>{obtain⟨a,t,f,q,_⟩:=h;exact(Tr.1 q).1}| map es=>{obtain⟨e,q,_⟩:=h;exact(Tr.1 q).1}
theorem cM.sub{σ:bD}{g l:Nat->Option aJ}{w:World}(h:cM σ g w)(hs:∀i b,l i=some b->g i=some b):cM σ l w:=
 ⟨λi b q=>h.bQ i b (hs i b q),λi j b c li o p q=>h.inj i j b c li o (hs i b p) (hs j c q)⟩
theorem iQ(b o n:Nat):(⟨b,o,none⟩:Addr).add n=⟨b,o+n,none⟩:=by
 unfold Addr.add;split;{rename_i h;subst h;rfl};{rfl}
theorem fH{cs:List Value}{off n:Nat}{l:List Value}(h:bO cs off n=some l):l=(cs.drop off).take n/\l.length=n:=by
 unfold bO at h;cases g:(((cs.drop off).take n).length==n) with| false=>{simp only[g,zm] at h;cases h}| true=>{simp only[g,xf,sw] at h;subst h;exact⟨rfl,by simpa using g⟩}
theorem L6{σ:bD}{w:World}{l:Loc}{arr:Array Value}{ty:TypeId}{fr:Nat×Nat}{cs:List Value}
  (o:w.heap[l.bQ]?=some (.cells arr ty fr)) (p:aV σ cs ((arr.toList.drop l.off).take cs.length)) (i:Nat) (v:Value) (hi:cs[i]?=some v) :
  ∃v',w.cell? ⟨l.bQ,l.off+i,none⟩=some v'/\aX σ v v':=by
 obtain⟨v',g,r⟩:=p.get i v hi;have j:i<cs.length:=(No.1 hi).1;refine⟨v',?_,r⟩;rw[cell_of_row w l.bQ (l.off+i) arr ty fr o];rw[Tv,n0 j,Tu] at g;simpa using g
theorem tU{σ:bD}{w:World}{l:Loc}{arr:Array Value}{ty:TypeId}{fr:Nat×Nat}{cs:List Value}
  (p:w.heap[l.bQ]?=some (.cells arr ty fr)) (r:aV σ cs ((arr.toList.drop l.off).take cs.length))
  (off n:Nat) (x:List Value) (hp:bO cs off n=some x) :
  ∃x',(loadCells ⟨l.bQ,l.off+off,none⟩ n).run P w=.ok ⟨x'⟩ w/\aV σ x x':=by
 obtain⟨rfl,t⟩:=fH hp;have o:aV σ ((cs.drop off).take n) ((((arr.toList.drop l.off).take cs.length).drop off).take n):=(r.drop off).take n;have hlen:((((arr.toList.drop l.off).take cs.length).drop off).take n).length=n:=by{rw[o.length,t]};refine⟨_,?_,o⟩;have:=run_loadCells_list (P:=P) w ⟨l.bQ,l.off+off,none⟩ ((((arr.toList.drop l.off).take cs.length).drop off).take n) (λj v g=>by{have i:j<n:=by{have:=(No.1 g).1;omega};rw[iQ,cell_of_row w l.bQ _ arr ty fr p];rw[Tv,n0 i,Tu,Tv] at g;split at g;{rw[Tu] at g;rw[<-TK,show l.off+off+j=l.off+(off+j) from by omega];exact g};{cases g}});rw[hlen] at this;exact this
theorem Ku(ok:C.Ok P){σ:bD}{w:World}{l:Loc}{arr:Array Value}{ty:TypeId}{fr:Nat×Nat}{cs:List Value}
  (j:w.heap[l.bQ]?=some (.cells arr ty fr)) (o:aV σ cs ((arr.toList.drop l.off).take cs.length))
  {t:TypeId} {off:Nat} {v:Value} (h:fN C cs t off=some v) :
  ∃v',(loadVar t ⟨l.bQ,l.off+off,none⟩).run P w=.ok v' w/\aX σ v v':=by
 unfold fN at h;cases g:C.iL t with| none=>{simp[g] at h}| some d=>{simp only[g] at h;cases i:v8 d with| true=>{simp only[i,xf] at h;cases hs:C.size t with| none=>{simp[hs] at h}| some n=>{simp only[hs] at h;cases hp:bO cs off n with| none=>{simp[hp] at h}| some x=>{simp only[hp,Tq,sw] at h;subst h;obtain⟨x',p,I⟩:=tU (P:=P) j o off n x hp;refine⟨.agg ⟨x'⟩,?_,⟨x',rfl,I⟩⟩;simp[loadVar,x9 ok g,i,bV ok hs,p]}}}| false=>{simp only[i,zm] at h;obtain⟨v',J,r⟩:=L6 j o off v h;refine⟨v',?_,r⟩;simp[loadVar,x9 ok g,i,J]}}
theorem gr(ok:C.Ok P){σ:bD}{w:World}{cs cs':List Value}(j:aV σ cs cs'){t:TypeId}{off:Nat}{v:Value}(h:fN C cs t off=some v) :
  ∃v',(part t ⟨cs'⟩ off).run P w=.ok v' w/\aX σ v v':=by
 unfold fN at h;cases g:C.iL t with| none=>{simp[g] at h}| some d=>{simp only[g] at h;cases i:v8 d with| true=>{simp only[i,xf] at h;cases hs:C.size t with| none=>{simp[hs] at h}| some n=>{simp only[hs] at h;cases hp:bO cs off n with| none=>{simp[hp] at h}| some x=>{simp only[hp,Tq,sw] at h;subst h;obtain⟨rfl,o⟩:=fH hp;refine⟨.agg ⟨(cs'.drop off).take n⟩,?_,⟨_,rfl,(j.drop off).take n⟩⟩;simp only[part,Sem.run_bind,x9 ok g,i,Result.andThen_ok,TY,bV ok hs,Sem.run_pure];congr 2;apply UW;simp}}}| false=>{simp only[i,zm] at h;obtain⟨v',l,r⟩:=j.get off v h;refine⟨v',?_,r⟩;simp[part,x9 ok g,i,l]}}
end
end Go.Abs
/-
 Soundness,second part: memory written,blocks laid.
-/
namespace Go.Abs
open Go
def dx{α:Type}(f:Nat->Option α)(i:Nat)(x:Option α):Nat->Option α:=λj=>if j=i then x else f j
theorem cu{α:Type}(f:Nat->Option α)(i:Nat)(x:Option α):dx f i x i=x:=by simp[dx]
theorem dB{α:Type}(f:Nat->Option α){i j:Nat}(x:Option α)(h:j≠i):dx f i x j=f j:=by simp[dx,h]
theorem bD.u5{σ:bD}{n:Nat}{l:Option Loc}(h:σ n=none):bD.le σ (dx σ n l):=λi m e=>by
 by_cases hi:i=n;{subst hi;rw[h] at e;cases e};{rw[dB _ _ hi];exact e}
theorem au.eF(h:au)(i:Nat)(b:Option aJ):(h.put i b).get=dx h.get i b:=by
 funext j;rw[au.dX];rfl
theorem au.iu(h:au)(b:aJ):(h.alloc b).get=dx h.get h.next (some b):=by
 funext j;rw[au.eB];rfl
structure jF(w w':World):Prop where
 same:w'.tape=w.tape
 more:w.drawn<=w'.drawn
theorem jF.rfl{w g:World}(h:g.tape=w.tape:=by rfl)(i:w.drawn<=g.drawn:=by exact mc _):jF w g:=⟨h,i⟩
theorem jF.trans{a b c:World}(h:jF a b)(g:jF b c):jF a c:=⟨g.same.trans h.same,AS h.more g.more⟩
structure Ev(σ:bD)(g:Nat->Option aJ)(n:Nat)(w:World)(σ':bD)(g':Nat->Option aJ)(n':Nat)(w':World):Prop where
 size:w.heap.size<=w'.heap.size
 os:w'.os=w.os
 out:w'.output=w.output
 tape:jF w w'
 oL:∀b,b<w.heap.size->(∀i B l,g i=some B->B.ro=false->σ i=some l->l.bQ≠b)->w'.heap[b]?=w.heap[b]?
 own:∀i B l,g' i=some B->B.ro=false->σ' i=some l->w.heap.size<=l.bQ\/∃j D m,g j=some D/\D.ro=false/\σ j=some m/\m.bQ=l.bQ
 sig:∀i,i<n\/n'<=i->σ' i=σ i
theorem Ev.refl(σ:bD)(g:Nat->Option aJ)(n:Nat)(w:World):Ev σ g n w σ g n w:=
 ⟨mc _,rfl,rfl,.rfl,λ_ _ _=>rfl,λi B l h r s=>.inr ⟨i,B,l,h,r,s,rfl⟩,λ_ _=>rfl⟩
theorem Ev.trans{σ:bD}{g:Nat->Option aJ}{n:Nat}{w:World}{o:bD}{g1:Nat->Option aJ}{r:Nat}{R:World}{p:bD}{g2:Nat->Option aJ}{n2:Nat}{U:World}
  (a:Ev σ g n w o g1 r R) (b:Ev o g1 r R p g2 n2 U) (h:n<=r) (h':r<=n2):Ev σ g n w p g2 n2 U where
 size:=AS a.size b.size
 os:=b.os.trans a.os
 out:=b.out.trans a.out
 tape:=a.tape.trans b.tape
 oL:=λk hk hn=>by
  rw[b.oL k (Ti hk a.size) (λi B l t C hs hb=>?_),a.oL k hk hn];rcases a.own i B l t C hs with h1 | ⟨j,D,m,h1,I,J,P⟩
  ·omega
  ·exact hn j D m h1 I J (P.trans hb)
 own:=λi B l t C hs=>by
  rcases b.own i B l t C hs with h1 | ⟨j,D,m,h1,I,J,P⟩
  ·exact .inl (AS a.size h1)
  ·rcases a.own j D m h1 I J with h5 | ⟨k,E,q,h5,h6,h7,h8⟩
   ·exact .inl (by omega)
   ·exact .inr ⟨k,E,q,h5,h6,h7,h8.trans P⟩
 sig:=λi hi=>by
  rw[b.sig i (by omega),a.sig i (by omega)]
theorem Ev.le{σ:bD}{g:Nat->Option aJ}{n:Nat}{w:World}{j:bD}{g1:Nat->Option aJ}{o:Nat}{p:World}
  (a:Ev σ g n w j g1 o p) (r:∀i,n<=i->i<o->σ i=none):bD.le σ j:=λi l e=>by
 by_cases h:n<=i/\i<o;{rw[r i h.1 h.2] at e;cases e};{rw[a.sig i (by omega)];exact e}
theorem HR(A vs cs:List Value)(lo off:Nat)(h:off+vs.length<=cs.length)(o:lo+cs.length<=A.length) :
  ((A.take (lo+off)++vs++A.drop (lo+off+vs.length)).drop lo).take cs.length=bp ((A.drop lo).take cs.length) off vs:=by
 unfold bp;apply Tn;intro i;have h1:(A.take (lo+off)).length=lo+off:=by{rw[Tg];omega};have l:(((A.drop lo).take cs.length).take off).length=off:=by{simp;omega};by_cases hi:i<cs.length;{rw[Tv,n0 hi,Tu,By];by_cases j:i<off;{rw[AT (l₁:=A.take (lo+off)) (by omega),AT (l₁:=((A.drop lo).take cs.length).take off) (by omega)];simp only[Tv,Tu];rw[n0 (by omega),n0 j,n0 hi]};{rw[OF (l₁:=A.take (lo+off)) (by omega),OF (l₁:=((A.drop lo).take cs.length).take off) (by omega),h1,l];have e:lo+i-(lo+off)=i-off:=by{omega};rw[e];by_cases g:i-off<vs.length;{rw[AT g,AT g]};{rw[OF (by omega),OF (by omega)];simp only[Tv,Tu];rw[n0 (by omega)];congr 1;omega}}};{rw[zE (by rw[Tg];omega)];symm;apply zE;simp only[sj,Tg,Vh];omega}
theorem lf(cs vs:List Value)(off:Nat)(h:off+vs.length<=cs.length):(bp cs off vs).length=cs.length:=by
 unfold bp;simp;omega
theorem aV.L4{σ:bD}{cs cs' vs g:List Value}(off:Nat)(h:aV σ cs cs')(i:aV σ vs g):aV σ (bp cs off vs) (bp cs' off g):=by
 unfold bp;rw[i.length];exact(h.take off).app (i.app (h.drop _))
theorem cM.write{σ:bD}{g:Nat->Option aJ}{w:World}(s:cM σ g w){i:Nat}{cs cs':List Value}{l:Loc}(R:g i=some (.cells false cs))(U:σ i=some l)
  {arr:Array Value} {ty:TypeId} (hw:w.heap[l.bQ]?=some (.cells arr ty (0,0))) (o:Array Value) (ha:o.size=l.size) (hle:l.off+cs'.length<=o.size)
  (hv:aV σ cs' ((o.toList.drop l.off).take cs'.length)):cM σ (dx g i (some (.cells false cs'))) (w.setRow l.bQ o) where
 bQ:=λj b p=>by
  by_cases t:j=i
  ·subst t;rw[cu] at p;cases p;exact⟨l,U,o,ty,(0,0),setRow_heap w l.bQ arr o ty (0,0) hw,ha,λ_=>rfl,hle,hv⟩
  ·rw[dB _ _ t] at p;obtain⟨m,hm,r⟩:=s.bQ j b p;refine⟨m,hm,r.world (setRow_other w l.bQ m.bQ o ?_)⟩;exact s.inj j i b _ m l p R t (.inr rfl) hm U
 inj:=λj k b c lj lk p hc I hr J P=>by
  have key:∀j b,dx g i (some (.cells false cs')) j=some b->∃C,g j=some C/\C.ro=b.ro:=by
   intro j b p;by_cases t:j=i
   ·subst t;rw[cu] at p;cases p;exact⟨_,R,rfl⟩
   ·rw[dB _ _ t] at p;exact⟨b,p,rfl⟩
  obtain⟨C,h1,h2⟩:=key j b p;obtain⟨c0,h3,h4⟩:=key k c hc;exact s.inj j k C c0 lj lk h1 h3 I (by rw[h2,h4];exact hr) J P
theorem Ev.write{σ:bD}{g:Nat->Option aJ}{w:World}{i:Nat}{cs cs':List Value}{l:Loc}(n:Nat)(p:g i=some (.cells false cs))(C:σ i=some l)(o:Array Value) :
  Ev σ g n w σ (dx g i (some (.cells false cs'))) n (w.setRow l.bQ o) where
 size:=by simp
 os:=rfl
 out:=rfl
 tape:=.rfl
 oL:=λb _ I=>setRow_other w l.bQ b o (Ne.symm (I i _ l p rfl C))
 own:=λj B m r J hs=>by
  by_cases t:j=i
  ·subst t;exact .inr ⟨j,_,m,p,rfl,hs,rfl⟩
  ·rw[dB _ _ t] at r;exact .inr ⟨j,B,m,r,J,hs,rfl⟩
 sig:=λ_ _=>rfl
theorem cM.alloc{σ:bD}{g:Nat->Option aJ}{w R:World}(s:cM σ g w){n:Nat}(hn:σ n=none){l:Loc}(hl:l.bQ=w.heap.size)
  (hold:∀b,b<w.heap.size->R.heap[b]?=w.heap[b]?) {b:aJ} (hb:om (dx σ n (some l)) R l b):cM (dx σ n (some l)) (dx g n (some b)) R where
 bQ:=λj c t=>by
  by_cases p:j=n
  ·subst p;rw[cu] at t;cases t;exact⟨l,cu _ _ _,hb⟩
  ·rw[dB _ _ p] at t;obtain⟨m,hm,r⟩:=s.bQ j c t;exact⟨m,by rw[dB _ _ p];exact hm,(r.mono (bD.u5 hn)).world (hold _ r.lt)⟩
 inj:=λj k I c J lk C t P hr i o=>by
  have key:∀j I J,dx g n (some b) j=some I->dx σ n (some l) j=some J->j≠n->J.bQ<w.heap.size:=by
   intro j I J h1 U p;rw[dB _ _ p] at h1 U;obtain⟨m,hm,r⟩:=s.bQ j I h1;rw[U] at hm;cases hm;exact r.lt
  by_cases p:j=n
  ·subst p;rw[cu] at i;cases i;have:=key k c lk t o (Ne.symm P);omega
  ·by_cases hk:k=n
   ·subst hk;rw[cu] at o;cases o;have:=key j I J C i p;omega
   ·rw[dB _ _ p] at C i;rw[dB _ _ hk] at t o;exact s.inj j k I c J lk C t P hr i o
theorem Ev.alloc{σ:bD}{g:Nat->Option aJ}{w p:World}{n:Nat}{l:Loc}(P:l.bQ=w.heap.size)
  (t:w.heap.size<=p.heap.size) (hold:∀b,b<w.heap.size->p.heap[b]?=w.heap[b]?) (C:p.os=w.os) (r:p.output=w.output) (o:jF w p) (b:aJ) :
  Ev σ g n w (dx σ n (some l)) (dx g n (some b)) (n+1) p where
 size:=t
 os:=C
 out:=r
 tape:=o
 oL:=λk hk _=>hold k hk
 own:=λj B m I R hs=>by
  by_cases J:j=n
  ·subst J;rw[cu] at hs;cases hs;exact .inl (Nat.le_of_eq P.symm)
  ·rw[dB _ _ J] at I hs;exact .inr ⟨j,B,m,I,R,hs,rfl⟩
 sig:=λi hi=>dB _ _ (by omega)
theorem EV{σ:bD}{g:Nat->Option aJ}{w:World}(s:cM σ g w){n:Nat}(j:σ n=none)(elem:TypeId){cs cs':List Value}(i:aV σ cs cs') :
  let l:Loc:=⟨w.heap.size,0,cs'.length⟩;let o:=w.alloc (.cells ⟨cs'⟩ elem)
  cM (dx σ n (some l)) (dx g n (some (.cells false cs))) o/\Ev σ g n w (dx σ n (some l)) (dx g n (some (.cells false cs))) (n+1) o:=by
 have hold:∀b,b<w.heap.size->(w.alloc (.cells ⟨cs'⟩ elem)).heap[b]?=w.heap[b]?:=λb p=>heap_alloc_old w _ b p;refine⟨s.alloc j rfl hold ?_,Ev.alloc rfl (by simp) hold rfl rfl .rfl _⟩;refine⟨⟨cs'⟩,elem,(0,0),heap_alloc_new w _,rfl,λ_=>rfl,?_,?_⟩;{simp[i.length]};{have:=i.mono (bD.u5 (l:=some ⟨w.heap.size,0,cs'.length⟩) j);rw[<-i.length];simpa using this}
theorem Iw(σ:bD)(n:Nat)(l:Loc)(h:l.off=0):aX (dx σ n (some l)) (.pointer (some ⟨n,0,none⟩)) (.pointer (some ⟨l.bQ,0,none⟩)):=
 ⟨l,cu _ _ _,rfl,by simp[h]⟩
end Go.Abs
/-
 Soundness,third part: operations that leave memory as it is.
-/
namespace Go.Abs
open Go
section
variable {C:Ctx}{P:Program}
theorem nL{h:au}{b:Nat}{cs:List Value}(e:kO h b=some cs):∃ro,h.get b=some (.cells ro cs):=by
 unfold kO at e;cases g:h.get b with| none=>{simp[g] at e}| some x=>{cases x with| cells ro l=>{simp[g] at e;subst e;exact⟨ro,rfl⟩}| map m=>{simp[g] at e}}
theorem cM.cells{σ:bD}{g:Nat->Option aJ}{w:World}(s:cM σ g w){b:Nat}{ro:Bool}{cs:List Value}(i:g b=some (.cells ro cs)){l:Loc}(j:σ b=some l) :
  ∃arr ty fr,w.heap[l.bQ]?=some (.cells arr ty fr)/\arr.size=l.size/\(ro=false->fr=(0,0))/\l.off+cs.length<=arr.size/\
   aV σ cs ((arr.toList.drop l.off).take cs.length):=by
 obtain⟨m,hm,r⟩:=s.bQ b _ i;rw[j] at hm;cases hm;exact r
theorem cM.Cq{σ:bD}{g:Nat->Option aJ}{w:World}(s:cM σ g w){b:Nat}{es:List (Value×Value)}(j:g b=some (.map es)){l:Loc}(o:σ b=some l) :
  ∃i,w.heap[l.bQ]?=some (.map i es.length)/\cW σ (alive es) i.toList/\i.toList.map (·.born)=stamps 0 es:=by
 obtain⟨m,hm,r⟩:=s.bQ b _ j;rw[o] at hm;cases hm;exact r
theorem DT(ok:C.Ok P){σ:bD}{g:Nat->Option aJ}{w:World}(s:cM σ g w){h:au}{t:TypeId}{x x' v:Value}(i:aX σ x x')
  (e:nq C h t x=some v) (j:∀a,x=.pointer (some a)->g a.block=h.get a.block) :
  ∃v',(Instr.loadAt t x').run P w=.ok v' w/\aX σ v v':=by
 unfold nq at e;split at e;{rename_i b off;split at e;{rename_i cs o;obtain⟨ro,p⟩:=nL o;obtain⟨l,r,_,rfl⟩:=i;obtain⟨arr,ty,fr,h1,U,h3,h4,I⟩:=s.cells ((j _ rfl).trans p) r;obtain⟨v',J,R⟩:=Ku ok h1 I e;exact⟨v',by simpa [Instr.loadAt,Instr.sureAddr] using J,R⟩};{cases e}};{cases e}
theorem DP(ok:C.Ok P){σ:bD}(w:World){t:TypeId}{x x' i r v:Value}(R:aX σ x x')(hi:aX σ i r)(e:jC C t x i=some v) :
  ∃v',(Instr.indexAt t x' r).run P w=.ok v' w/\aX σ v v':=by
 unfold jC at e;split at e;{rename_i el b off len cp k n hu;split at e;{rename_i U hs;split at e;{rename_i o;cases e;obtain⟨l,a',cap,I,_,rfl,hle,h0,J⟩:=R;obtain rfl:r=.int k n:=hi;have p:cap≠0:=by{omega};obtain⟨rfl,_⟩:=J p;refine⟨_,?_,⟨l,I,rfl,rfl⟩⟩;have g:0<=n:=o.1;have j:n<(len:Int):=o.2;simp[Instr.indexAt,asIntOf,run_underlying (aQ ok hu),bV ok hs,g,j,iQ,UJ]};{cases e}};{cases e}};{rename_i len el b off k n hu;split at e;{rename_i U hs;split at e;{rename_i o;cases e;obtain⟨l,I,_,rfl⟩:=R;obtain rfl:r=.int k n:=hi;refine⟨_,?_,⟨l,I,rfl,rfl⟩⟩;have g:0<=n:=o.1;have j:n<(len:Int):=o.2;simp[Instr.indexAt,Instr.sureAddr,asIntOf,run_underlying (aQ ok hu),bV ok hs,g,j,iQ,UJ]};{cases e}};{cases e}};{cases e}
theorem DN(ok:C.Ok P){σ:bD}(w:World){t:TypeId}{x x' v:Value}{f:Nat}(o:aX σ x x')(e:lp C t x f=some v) :
  ∃v',(Instr.fieldAt t x' f).run P w=.ok v' w/\aX σ v v':=by
 unfold lp at e;split at e;{rename_i p b off hu;split at e;{rename_i fd r;split at e;{rename_i n hs;cases g:(n==0) with| true=>{simp[g] at e}| false=>{simp only[g,zm,sw] at e;subst e;obtain⟨l,I,_,rfl⟩:=o;refine⟨_,?_,⟨l,I,rfl,rfl⟩⟩;have i:p[f]?=some fd:=by{simpa using r};have j:n≠0:=by{simpa using g};simp[Instr.fieldAt,Instr.sureAddr,run_underlying (aQ ok hu),i,fieldPlace,bV ok hs,j,iQ,UJ]}};{cases e}};{cases e}};{cases e}
theorem MB(ok:C.Ok P){σ:bD}(w:World){t:TypeId}{x x' v:Value}{f:Nat}(i:aX σ x x')(e:yX C t x f=some v) :
  ∃v',(Instr.field t x' f).run P w=.ok v' w/\aX σ v v':=by
 unfold yX at e;split at e
 ·rename_i j cs hu;split at e
  ·rename_i fd l;cases cs with | mk cs=>
   obtain⟨cs',rfl,o⟩:=i;obtain⟨v',h1,p⟩:=gr (P:=P) (w:=w) ok o e;have g:j[f]?=some fd:=by simpa using l
   exact⟨v',by simp[Instr.field,run_underlying (aQ ok hu),g,asAgg,h1],p⟩
  ·cases e
 ·cases e
theorem MC(ok:C.Ok P){σ:bD}(w:World){t:TypeId}{x x' i j v:Value}(R:aX σ x x')(hi:aX σ i j)(e:He C t x i=some v) :
  ∃v',(Instr.index t x' j).run P w=.ok v' w/\aX σ v v':=by
 unfold He at e;split at e
 ·rename_i len el cs k n hu;split at e
  ·rename_i sz hs;split at e
   ·rename_i l;cases cs with | mk cs=>
    obtain⟨cs',rfl,U⟩:=R;obtain rfl:j=.int k n:=hi;obtain⟨v',h1,h2⟩:=gr (P:=P) (w:=w) ok U e;have o:0<=n:=l.1;have p:n<(len:Int):=l.2;exact⟨v',by simp[Instr.index,asIntOf,run_underlying (aQ ok hu),bV ok hs,o,p,h1],h2⟩
   ·cases e
  ·cases e
 ·rename_i s k n hu;obtain rfl:x'=.string s:=R;obtain rfl:j=.int k n:=hi;split at e
  ·rename_i l;cases r:s.data.toList[n.toNat]? with
   | none=>simp[r] at e
   | some b=>
    simp only[r,Tq,sw] at e;subst e;refine⟨_,?_,rfl⟩;have hs:s[n.toNat]?=some b:=by
     have:=r;simp only[TK] at this;rw[Tr] at this;obtain⟨I,J⟩:=this;have g:n.toNat<s.size:=I;rw[getElem?_pos s n.toNat g];exact congrArg some J
    simp[Instr.index,asIntOf,run_underlying (aQ ok hu),l,hs]
  ·cases e
 ·cases e
theorem o7{σ:bD}{v:Option Value}{v':Option Value}{d m:Nat}(g:match v,v' with | none,none=>True | some a,some b=>aX σ a b | _,_=>False)
  (e:di v d=some m):(v=none/\v'=none/\m=d)\/∃k n,v=some (.int k n)/\v'=some (.int k n)/\0<=n/\n.toNat=m:=by
 unfold di at e;cases v with| none=>{cases v' with| none=>{simp at e;exact .inl ⟨rfl,rfl,e.symm⟩}| some b=>{cases g}}| some a=>{cases v' with| none=>{cases g}| some b=>{right;cases a with| int k n=>{obtain rfl:b=.int k n:=g;simp only at e;split at e;{rename_i h;cases e;exact⟨k,n,rfl,rfl,h,rfl⟩};{cases e}}| _=>{simp at e}}}
theorem run_sliceBound(P:Program)(w:World)(k:IntKind)(n:Int)(y:Nat)(code:BoundsCode)(g:0<=n)(h1:n.toNat<=y) :
  (Instr.sliceBound (.int k n) y code).run P w=.ok n.toNat w:=by
 have:n<=(y:Int):=by{omega};simp[Instr.sliceBound,asIntOf,g,this]
abbrev Du(σ:bD)(v v':Option Value):Prop:=match v,v' with | none,none=>True | some a,some b=>aX σ a b | _,_=>False
theorem gG{σ:bD}(P:Program)(w:World)(j:Bool)(len cap:Nat){lo g hi i:Option Value}{l h:Nat}(o:Du σ lo g)(p:Du σ hi i)
  (el:di lo 0=some l) (I:di hi len=some h) (h1:l<=h) (r:h<=cap) :
  (Instr.sliceBounds j len cap g i none).run P w=.ok (l,h,cap) w:=by
 rcases o7 o el with ⟨rfl,rfl,rfl⟩ | ⟨k,n,rfl,rfl,t,rfl⟩<;>rcases o7 p I with ⟨rfl,rfl,rfl⟩ | ⟨k2,m,rfl,rfl,hm,rfl⟩;{simp[Instr.sliceBounds]};{simp[Instr.sliceBounds,run_sliceBound P w k2 m cap _ hm r]};{simp[Instr.sliceBounds,run_sliceBound P w k n _ _ t h1]};{simp[Instr.sliceBounds,run_sliceBound P w k2 m cap _ hm r,run_sliceBound P w k n _ _ t h1]}
theorem nr{σ:bD}(P:Program)(w:World)(o:Bool)(len cap:Nat){lo g hi i r j:Option Value}{l h m:Nat}(t:Du σ lo g)(I:Du σ hi i)
  (J:Du σ r j) (el:di lo 0=some l) (eh:di hi len=some h) (em:di r 0=some m) (R:hi.isSome=true) (U:r.isSome=true)
  (h1:l<=h) (h2:h<=m) (h3:m<=cap) :
  (Instr.sliceBounds o len cap g i j).run P w=.ok (l,h,m) w:=by
 rcases o7 J em with ⟨rfl,rfl,rfl⟩ | ⟨k3,q,rfl,rfl,hq,rfl⟩;{cases U};rcases o7 I eh with ⟨rfl,rfl,rfl⟩ | ⟨k2,p,rfl,rfl,hp,rfl⟩;{cases R};rcases o7 t el with ⟨rfl,rfl,rfl⟩ | ⟨k,n,rfl,rfl,hn,rfl⟩;{simp[Instr.sliceBounds,run_sliceBound P w k3 q _ _ hq h3,run_sliceBound P w k2 p _ _ hp h2]};{simp[Instr.sliceBounds,run_sliceBound P w k3 q _ _ hq h3,run_sliceBound P w k2 p _ _ hp h2,run_sliceBound P w k n _ _ hn h1]}
end
end Go.Abs
/-
 Soundness,fourth part: slice expressions,len,cap,operators.
-/
namespace Go.Abs
open Go
section
variable {C:Ctx}{P:Program}
theorem Lb(ok:C.Ok P){σ:bD}{g:Nat->Option aJ}{w:World}(s:cM σ g w){h:au}{t:TypeId}{x x' v:Value}{lo ax hi ay mx R:Option Value}(hx:aX σ x x')
  (U:Du σ lo ax) (aa:Du σ hi ay) (ab:Du σ mx R) (e:ik C h t x lo hi mx=some v) (hg:∀a,x=.pointer (some a)->g a.block=h.get a.block) :
  ∃v',(Instr.sliceAt t x' ax ay R).run P w=.ok v' w/\aX σ v v':=by
 unfold ik at e;split at e
 ·
  rename_i el a b hu;obtain⟨rfl,rfl,rfl⟩:=hx;split at e
  ·rename_i r hs e1 e2 e3;cases o:(mx.isSome&&hi.isNone) with
   | true=>simp[o] at e
   | false=>
    simp only[o,zm,sw] at e;subst e;refine⟨.slice none 0 0,?_,⟨rfl,rfl,rfl⟩⟩;by_cases hm:mx.isSome=true
    ·have hh:hi.isSome=true:=by
      cases hi with
      | none=>simp[hm] at o
      | some _=>rfl
     simp[Instr.sliceAt,Instr.slice,run_underlying (aQ ok hu),bV ok hs,
      nr P w true 0 0 U aa ab e1 e2 e3 hh hm (mc _) (mc _) (mc _)]
    ·cases mx with
     | some _=>simp at hm
     | none=>cases R with
      | some _=>cases ab
      | none=>
       simp[Instr.sliceAt,Instr.slice,run_underlying (aQ ok hu),bV ok hs,
        gG P w true 0 0 U aa e1 e2 (mc _) (mc _)]
  ·cases e
 ·
  rename_i el b off len c hu;obtain⟨l,a',cap,hl,_,rfl,hle,h0,a2⟩:=hx;split at e
  ·rename_i r i j hs e1 e2;cases o:(Nat.ble i j&&Nat.ble j len&&(c==0||c==r)) with
   | false=>simp[o] at e
   | true=>
    simp only[o,xf,sw] at e;subst e;simp only[tx,Ve,T7,T5] at o;obtain⟨⟨ad,ae⟩,al⟩:=o;cases R with
    | some _=>cases ab
    | none=>
     refine⟨.slice (if cap=i then some a' else some (a'.add (i*r))) (j-i) (cap-i),?_,?_⟩
     ·simp[Instr.sliceAt,Instr.slice,run_underlying (aQ ok hu),bV ok hs,
       gG P w true len cap U aa e1 e2 ad (AS ae hle)]
     ·refine⟨l,if cap=i then a' else a'.add (i*r),cap-i,hl,rfl,?_,by omega,λhc=>by have:=h0 hc;omega,λhc=>?_⟩
      ·split<;>rfl
      ·have I:cap≠i:=by omega
       obtain⟨rfl,J⟩:=a2 (by omega);rw[nw I];have av:c=r:=by
        rcases al with h | h
        ·have:=h0 h;omega
        ·exact h
       subst av;refine⟨by rw[iQ,UJ],?_⟩;dsimp only at J ⊢;have:(cap-i)*c+i*c=cap*c:=by rw[<-TO];congr 1;omega
       omega
  ·rename_i r i j mv hs e1 e2;split at e
   ·rename_i m_ e3;cases o:(hi.isSome&&Nat.ble i j&&Nat.ble j m_&&Nat.ble m_ len&&(c==0||c==r)) with
    | false=>simp only[o,zm] at e;cases e
    | true=>
     simp only[o,xf,sw] at e;subst e;simp only[tx,Ve,T7,T5] at o;obtain⟨⟨⟨⟨a7,ad⟩,ae⟩,a3⟩,al⟩:=o;refine⟨.slice (if m_=i then some a' else some (a'.add (i*r))) (j-i) (m_-i),?_,?_⟩
     ·simp[Instr.sliceAt,Instr.slice,run_underlying (aQ ok hu),bV ok hs,
       nr P w true len cap U aa ab e1 e2 e3 a7 rfl ad ae (AS a3 hle)]
     ·refine⟨l,if m_=i then a' else a'.add (i*r),m_-i,hl,rfl,?_,by omega,λhc=>?_,λhc=>?_⟩
      ·split<;>rfl
      ·cases p:(m_==i) with
       | true=>simp at p;omega
       | false=>simp only[p,zm] at hc;have:=h0 hc;omega
      ·have I:m_≠i:=by omega
       obtain⟨rfl,J⟩:=a2 (by omega);rw[nw I];have p:(m_==i)=false:=by simpa using I
       have av:c=r:=by
        rcases al with h | h
        ·have:=h0 h;omega
        ·exact h
       subst av;refine⟨by rw[iQ,UJ],?_⟩;dsimp only at J ⊢;have:(m_-i)*c+i*c=m_*c:=by rw[<-TO];congr 1;omega
       have:m_*c<=cap*c:=TG _ (by omega);simp only[p,zm];omega
   ·cases e
  ·cases e
 ·
  rename_i n el b off hu;obtain⟨l,hl,_,rfl⟩:=hx;split at e
  ·rename_i r i j cs hs e1 e2 ec;cases o:(Nat.ble i j&&Nat.ble j n&&Nat.blt 0 r&&Nat.ble (off+n*r) cs.length) with
   | false=>simp only[o,zm] at e;cases e
   | true=>
    simp only[o,xf,sw] at e;subst e;simp only[tx,Ve,Nat.blt_eq] at o;obtain⟨⟨⟨ad,ae⟩,al⟩,a3⟩:=o;obtain⟨ro,hblk⟩:=nL ec;obtain⟨arr,ty,fr,q1,q2,q3,q4,q5⟩:=s.cells ((hg _ rfl).trans hblk) hl;cases R with
    | some _=>cases ab
    | none=>
     refine⟨.slice (some (if n=i then ⟨l.bQ,l.off+off,none⟩ else (⟨l.bQ,l.off+off,none⟩:Addr).add (i*r))) (j-i) (n-i),?_,?_⟩
     ·simp[Instr.sliceAt,Instr.sureAddr,run_underlying (aQ ok hu),bV ok hs,gG P w false n n U aa e1 e2 ad ae]
     ·refine⟨l,_,n-i,hl,rfl,rfl,by omega,λhc=>?_,λhc=>?_⟩
      ·cases p:(n==i) with
       | true=>simp at p;omega
       | false=>simp only[p,zm] at hc;omega
      ·have I:n≠i:=by omega
       have p:(n==i)=false:=by simpa using I
       rw[nw I];refine⟨by rw[iQ,UJ],?_⟩;have:(n-i)*r+i*r=n*r:=by rw[<-TO];congr 1;omega
       simp only[p,zm];omega
  ·cases e
 ·rename_i str hu;obtain rfl:x'=.string str:=hx;split at e
  ·rename_i i j e1 e2;cases o:(Nat.ble i j&&Nat.ble j str.size) with
   | false=>simp[o] at e
   | true=>
    simp only[o,xf,sw] at e;subst e;simp only[tx,Ve] at o;cases R with
    | some _=>cases ab
    | none=>
     refine⟨.string (str.extract i j),?_,rfl⟩;simp[Instr.sliceAt,Instr.slice,run_underlying (aQ ok hu),gG P w false str.size str.size U aa e1 e2 o.1 o.2]
  ·cases e
 ·cases e
end
end Go.Abs
namespace Go.Abs
open Go
section
variable {C:Ctx}{P:Program}
theorem OU(ok:C.Ok P){σ:bD}{g:Nat->Option aJ}{w:World}(s:cM σ g w){h:au}{t:TypeId}{x x' v:Value}(i:aX σ x x')(ts:List TypeId)(ty:TypeId)
  (e:G9 C h t x=some v) (o:∀r,x=.map (some r)->g r=h.get r) :
  ∃v',(Builtin.len_ ⟨t::ts⟩ ty ⟨[x']⟩).run P w=.ok v' w/\aX σ v v':=by
 unfold G9 at e;split at e;{rename_i str hu;obtain rfl:x'=.string str:=i;cases e;exact⟨_,by simp[Builtin.len_,run_underlying (aQ ok hu),goInt],rfl⟩};{rename_i y n el hu;cases e;exact⟨.int .i64 n,by simp[Builtin.len_,run_underlying (aQ ok hu),goInt],rfl⟩};{rename_i el a n c hu;cases e;cases a with| none=>{obtain⟨rfl,rfl,rfl⟩:=i;exact⟨.int .i64 (0:Nat),by simp[Builtin.len_,run_underlying (aQ ok hu),goInt],rfl⟩}| some a=>{obtain⟨l,R,cap,_,_,rfl,_⟩:=i;exact⟨.int .i64 n,by simp[Builtin.len_,run_underlying (aQ ok hu),goInt],rfl⟩}};{rename_i hu;obtain rfl:x'=.map none:=i;cases e;exact⟨_,by simp[Builtin.len_,run_underlying (aQ ok hu),goInt],rfl⟩};{rename_i r hu;obtain⟨l,p,rfl⟩:=i;split at e;{rename_i es he;cases e;obtain⟨j,h1,I,_⟩:=s.Cq ((o _ rfl).trans he) p;have hlen:j.size=(alive es).length:=by{have:∀{es:List (Value×Value)} {l:List MapEntry},cW σ es l->l.length=es.length:=by{intro es;induction es with| nil=>{intro l h;rw[show l=[] from h];rfl}| cons x xs J=>{intro l h;obtain⟨k,v⟩:=x;obtain⟨e,r,rfl,_,_,h⟩:=h;simp[J h]}};simpa using this I};refine⟨.int .i64 (alive es).length,?_,rfl⟩;simp[Builtin.len_,run_underlying (aQ ok hu),goInt,getObj,Sem.run,h1,hlen]};{cases e}};{cases e}
theorem Pg(ok:C.Ok P){σ:bD}(w:World){t:TypeId}{x x' v:Value}(g:aX σ x x')(ts:List TypeId)(ty:TypeId)
  (e:MZ C t x=some v):∃v',(Builtin.cap_ ⟨t::ts⟩ ty ⟨[x']⟩).run P w=.ok v' w/\aX σ v v':=by
 unfold MZ at e;split at e;{rename_i y n el hu;cases e;exact⟨.int .i64 n,by simp[Builtin.cap_,run_underlying (aQ ok hu),goInt],rfl⟩};{rename_i el n c hu;cases e;obtain⟨rfl,rfl,rfl⟩:=g;exact⟨.int .i64 (0:Nat),by simp[Builtin.cap_,run_underlying (aQ ok hu),goInt],rfl⟩};{rename_i el a n hu;cases e;obtain⟨l,j,cap,_,_,rfl,_,i,_⟩:=g;obtain rfl:=i rfl;exact⟨.int .i64 (0:Nat),by simp[Builtin.cap_,run_underlying (aQ ok hu),goInt],rfl⟩};{cases e}
theorem Je(w:World){op:BinOp}{k:IntKind}{a b:Int}{v:Value}(h1:op≠.shl)(g:op≠.shr)(t:TypeId)(e:fF op k a b=some v) :
  (binOp op t (.int k a) (.int k b)).run P w=.ok v w/\plain v=true:=by
 cases op<;>simp only[fF] at e<;>first
  | exact absurd rfl h1
  | exact absurd rfl g
  | (split at e
     · cases e
     · rename_i i;cases e;exact⟨by simp[binOp,Op.intDiv,i],rfl⟩)
  | (cases e;exact⟨by simp[binOp,Op.intArith,Op.intBits,Op.intCmp],rfl⟩)
theorem Fy(w:World){op:BinOp}{k g:IntKind}{a b:Int}{v:Value}(t:TypeId)(e:mF op k a b=some v) :
  (binOp op t (.int k a) (.int g b)).run P w=.ok v w/\plain v=true:=by
 unfold mF at e;split at e;{cases e};{rename_i i;cases op<;>simp only at e<;>first|(cases e;done)|(cases e;exact⟨by simp[binOp,Op.shift,i],rfl⟩)}
theorem Ee(w:World){op:BinOp}{a b:ByteArray}{v:Value}(t:TypeId)(e:nI op a b=some v) :
  (binOp op t (.string a) (.string b)).run P w=.ok v w/\plain v=true:=by
 (cases op<;>simp only[nI] at e<;>first|(cases e;done)|(cases e;exact⟨by simp[binOp,Op.stringOp],rfl⟩)|skip);cases g:Nat.ble (a.size+b.size) 9223372036854775807 with| false=>{simp only[g,zm] at e;cases e}| true=>{simp only[g,xf,sw] at e;subst e;have h1:=TH g;have hm:IntKind.i64.max=9223372036854775807:=by{decide};have:¬(((a.size+b.size:Nat):Int) > IntKind.i64.max):=by{rw[hm];omega};refine⟨?_,rfl⟩;simp only[binOp,Op.stringOp,nw this,Sem.run_pure]}
theorem PS{σ:bD}(w:World){op:UnOp}{x x' v:Value}(g:aX σ x x')(e:Q4 op x=some v):(Op.unary op x').run P w=.ok v w/\plain v=true:=by
 unfold Q4 at e;split at e;{obtain rfl:=(show x'=_ from g);cases e;exact⟨by simp[Op.unary,Op.intArith],rfl⟩};{obtain rfl:=(show x'=_ from g);cases e;exact⟨by simp[Op.unary,Op.intBits],rfl⟩};{obtain rfl:=(show x'=_ from g);cases e;exact⟨by simp[Op.unary],rfl⟩};{cases e}
end
end Go.Abs
/-
 Soundness,fifth part: equality,maps,struct literals.
-/
namespace Go.Abs
open Go
section
variable {C:Ctx}{P:Program}
theorem G6(ok:C.Ok P){σ:bD}(w:World){t:TypeId}{d:TypeDesc}{x x' y g:Value}{b:Bool}(hu:C.iL t=some d)(i:aX σ x x')(j:aX σ y g)
  (e:fL d x y=some b) (n:Nat):(Op.equalIn (n+1) t x' g).run P w=.ok b w:=by
 unfold fL at e;split at e;{obtain rfl:=(show x'=_ from i);obtain rfl:=(show g=_ from j);cases e;simp[Op.equalIn,run_underlying (aQ ok hu)]};{obtain rfl:=(show x'=_ from i);obtain rfl:=(show g=_ from j);split at e;{rename_i hk;cases e;subst hk;simp[Op.equalIn,run_underlying (aQ ok hu)]};{cases e}};{obtain rfl:=(show x'=_ from i);obtain rfl:=(show g=_ from j);cases e;simp[Op.equalIn,run_underlying (aQ ok hu)]};{obtain rfl:=(show x'=_ from i);obtain rfl:=(show g=_ from j);cases e;simp[Op.equalIn,run_underlying (aQ ok hu)]};{cases e}
theorem AV(ok:C.Ok P){σ:bD}(w:World){d e s:Nat}{eq:Value->Value->Option Bool}
  (J:∀x y x' R b,aX σ x x'->aX σ y R->eq x y=some b->(Op.equalIn d e x' R).run P w=.ok b w) {xs ys g j:List Value} (U:aV σ xs g) (hy:aV σ ys j) :
  ∀(is:List Nat) (b:Bool),nX C eq e s xs ys is=some b->(Op.eqItems d e s ⟨g⟩ ⟨j⟩ is).run P w=.ok b w
 | [],b,h=>by simp[nX] at h;subst h;simp[Op.eqItems]
 | i::is,b,h=>by{unfold nX at h;split at h;{rename_i a a2 h1 h2;obtain⟨u,l,t⟩:=gr (P:=P) (w:=w) ok U h1;obtain⟨v,o,I⟩:=gr (P:=P) (w:=w) ok hy h2;cases p:eq a a2 with| none=>{simp[p] at h}| some r=>{have h3:=J a a2 u v r t I p;cases r with| false=>{simp[p] at h;subst h;simp[Op.eqItems,l,o,h3]}| true=>{simp[p] at h;have h4:=AV ok w J U hy is b h;simp[Op.eqItems,l,o,h3,h4]}}};{cases h}}
theorem wP(ok:C.Ok P){σ:bD}(w:World){d:Nat}{eq:TypeId->Value->Value->Option Bool}
  (ih:∀t x y x' y' b,aX σ x x'->aX σ y y'->eq t x y=some b->(Op.equalIn d t x' y').run P w=.ok b w) {xs ys j l:List Value} (hx:aV σ xs j) (hy:aV σ ys l) :
  ∀(o:List Field) (b:Bool),(∀f∈o,f.name≠ "_")->eqFields C eq o xs ys=some b->(Op.eqFields d ⟨j⟩ ⟨l⟩ o).run P w=.ok b w
 | [],b,_,e=>by simp[eqFields] at e;subst e;simp[Op.eqFields]
 | f::o,b,hn,e=>by{unfold eqFields at e;split at e;{rename_i a a2 h1 h2;obtain⟨u,p,R⟩:=gr (P:=P) (w:=w) ok hx h1;obtain⟨v,I,U⟩:=gr (P:=P) (w:=w) ok hy h2;have i:f.name≠ "_":=hn f (by simp);cases J:eq f.type a a2 with| none=>{simp[J] at e}| some r=>{have h3:=ih f.type a a2 u v r R U J;cases r with| false=>{simp[J] at e;subst e;simp[Op.eqFields,i,p,I,h3]}| true=>{simp[J] at e;have h4:=wP ok w ih hx hy o b (λg hg=>hn g (by simp[hg])) e;simp[Op.eqFields,i,p,I,h3,h4]}}};{cases e}}
theorem zA(ok:C.Ok P){σ:bD}(w:World):∀(n d:Nat) (t:TypeId) (x y x' g:Value) (b:Bool),n<=d->aX σ x x'->aX σ y g->rD C n t x y=some b->
  (Op.equalIn d t x' g).run P w=.ok b w
 | 0,_,_,_,_,_,_,_,_,_,_,e=>by cases e
 | n+1,0,_,_,_,_,_,_,h,_,_,_=>by omega
 | n+1,d+1,t,x,y,x',g,b,h,j,l,e=>by
  unfold rD at e;split at e
  ·rename_i U xs ys hu;cases hf:C.flat t with
   | false=>simp[hf] at e
   | true=>
    simp only[hf,xf] at e;obtain⟨h1,_,h3⟩:=ok.flat t hf;cases xs with | mk xs=>
    cases ys with | mk ys=>
    obtain⟨o,rfl,p⟩:=j;obtain⟨r,rfl,I⟩:=l;have J:=aQ ok hu;have R:P.fieldsOf t=U:=by simp[Program.fieldsOf,J]
    rw[run_equalIn_struct w d t ⟨o⟩ ⟨r⟩ (by rw[R];exact J) h1,R];exact wP ok w (λt x y x' g b j l e=>zA ok w n d t x y x' g b (by omega) j l e) p I U.toList b (h3 U hu) e
  ·rename_i len el xs ys hu;split at e
   ·rename_i s hs;cases xs with | mk xs=>
    cases ys with | mk ys=>
    obtain⟨o,rfl,p⟩:=j;obtain⟨r,rfl,I⟩:=l;obtain⟨i,hi,ab⟩:=qN ok hs;have hc:P.cellsOf el=s:=by simp[Program.cellsOf,hi,ab]
    rw[run_equalIn_array w d ⟨o⟩ ⟨r⟩ (aQ ok hu) hi,hc];exact AV ok w (λx y x' g b j l e=>zA ok w n d el x y x' g b (by omega) j l e) p I _ b e
   ·cases e
  ·rename_i dd hu _ _;exact G6 ok w hu j l e d
  ·cases e
theorem CA{h:au}{i:Nat}(e:live h i=true):∃cs,h.get i=some (.cells false cs):=by
 unfold live at e;split at e;{rename_i cs g;exact⟨cs,g⟩};{cases e}
theorem cM.frozen{σ:bD}{g:Nat->Option aJ}{w:World}(s:cM σ g w){i:Nat}{cs:List Value}(p:g i=some (.cells false cs)){l:Loc}(r:σ i=some l) :
  (∀o j,w.frozen? ⟨l.bQ,o,j⟩=false)/\∃t n,w.shape? l.bQ=some (t,n):=by
 obtain⟨arr,ty,fr,h1,J,I,_⟩:=s.cells p r;obtain rfl:=I rfl;exact⟨λo j=>by simp[World.frozen?,h1],ty,arr.size,by simp[World.shape?,h1]⟩
theorem FQ{σ:bD}{g:Nat->Option aJ}{w:World}(s:cM σ g w){h:au}{a b i j:Nat}{la p:Loc}(ha:σ a=some la)(U:σ b=some p)
  (t:g a=h.get a) (I:g b=h.get b) {r:Bool}
  (e:(bif a==b then some (i==j) else bif live h a&&live h b then some false else none)=some r) :
  (sameAddr ⟨la.bQ,la.off+i,none⟩ ⟨p.bQ,p.off+j,none⟩).run P w=.ok r w:=by
 cases o:(a==b) with| true=>{obtain rfl:a=b:=by{simpa using o};rw[ha] at U;cases U;simp only[o,xf,sw] at e;subst e;have:((⟨la.bQ,la.off+i,none⟩:Addr)==⟨la.bQ,la.off+j,none⟩)=(i==j):=by{rw[T8];simp};simp[sameAddr,this]}| false=>{simp only[o,zm] at e;cases l:(live h a&&live h b) with| false=>{simp[l] at e}| true=>{simp only[l,xf,sw] at e;subst e;simp only[tx] at l;obtain⟨cs,J⟩:=CA l.1;obtain⟨ds,R⟩:=CA l.2;have ab:a≠b:=by{simpa using o};have hblk:=s.inj a b _ _ la p (t.trans J) (I.trans R) ab (.inl rfl) ha U;obtain⟨fa,ta,na,sa⟩:=s.frozen (t.trans J) ha;obtain⟨fb,tb,nb,sb⟩:=s.frozen (I.trans R) U;have ac:(la.bQ==p.bQ)=false:=by{simpa using hblk};simp[sameAddr,ac,fa,fb,noView,viewAt,sa,sb,mayBeOne,stringish]}}
theorem HY(ok:C.Ok P){σ:bD}{g:Nat->Option aJ}{w:World}(s:cM σ g w){h:au}{t:TypeId}{x x' y J:Value}{b:Bool}(I:aX σ x x')(o:aX σ y J)
  (R:∀a,x=.pointer (some a)->g a.block=h.get a.block) (U:∀a,y=.pointer (some a)->g a.block=h.get a.block)
  (e:equalA C h t x y=some b) (d:Nat) (hd:8<=d):(Op.equalIn (d+1) t x' J).run P w=.ok b w:=by
 unfold equalA at e;split at e
 ·rename_i el p hu;cases e;obtain rfl:=(show x'=_ from I);cases p with
  | none=>obtain rfl:=(show J=_ from o);simp[Op.equalIn,run_underlying (aQ ok hu)]
  | some a=>obtain⟨l,_,_,rfl⟩:=o;simp[Op.equalIn,run_underlying (aQ ok hu)]
 ·rename_i el p hu;cases e;obtain⟨l,_,_,rfl⟩:=I;obtain rfl:=(show J=_ from o);simp[Op.equalIn,run_underlying (aQ ok hu)]
 ·rename_i el a i b2 j hu;split at e
  ·rename_i n hs;cases hn:(n==0) with
   | true=>simp[hn] at e
   | false=>
    simp only[hn,zm] at e;obtain⟨la,ab,_,rfl⟩:=I;obtain⟨lb,ac,_,rfl⟩:=o;have:=FQ (P:=P) s ab ac (R _ rfl) (U _ rfl) e;have ad:n≠0:=by simpa using hn
    simp[Op.equalIn,run_underlying (aQ ok hu),bV ok hs,ad,this]
  ·cases e
 ·rename_i ms hu;cases e;obtain rfl:=(show x'=_ from I);obtain rfl:=(show J=_ from o);simp[Op.equalIn,run_underlying (aQ ok hu)]
 ·rename_i ms t' v hu;cases e;obtain rfl:=(show x'=_ from I);obtain⟨u,rfl,_⟩:=o;simp[Op.equalIn,run_underlying (aQ ok hu)]
 ·rename_i ms t' v hu;cases e;obtain⟨u,rfl,_⟩:=I;obtain rfl:=(show J=_ from o);simp[Op.equalIn,run_underlying (aQ ok hu)]
 ·rename_i el n c a n' c' hu;cases e;obtain⟨rfl,rfl,rfl⟩:=I;cases a with
  | none=>obtain⟨rfl,rfl,rfl⟩:=o;simp[Op.equalIn,run_underlying (aQ ok hu)]
  | some a=>obtain⟨l,a',cap,_,_,rfl,_⟩:=o;simp[Op.equalIn,run_underlying (aQ ok hu)]
 ·rename_i el a n c n' c' hu;cases e;obtain⟨l,a',cap,_,_,rfl,_⟩:=I;obtain⟨rfl,rfl,rfl⟩:=o;simp[Op.equalIn,run_underlying (aQ ok hu)]
 ·rename_i kt et r hu;cases e;obtain rfl:=(show x'=_ from I);cases r with
  | none=>obtain rfl:=(show J=_ from o);simp[Op.equalIn,run_underlying (aQ ok hu)]
  | some a=>obtain⟨l,_,rfl⟩:=o;simp[Op.equalIn,run_underlying (aQ ok hu)]
 ·rename_i kt et r hu;cases e;obtain⟨l,_,rfl⟩:=I;obtain rfl:=(show J=_ from o);simp[Op.equalIn,run_underlying (aQ ok hu)]
 ·rename_i hu;cases e;obtain rfl:=(show x'=_ from I);obtain rfl:=(show J=_ from o);simp[Op.equalIn,run_underlying (aQ ok hu)]
 ·rename_i fn xs ys hu;cases e;obtain rfl:=(show x'=_ from I);cases xs with | mk xs=>
  cases ys with | mk ys=>
  obtain⟨_,_,rfl,_⟩:=o;simp[Op.equalIn,run_underlying (aQ ok hu)]
 ·rename_i fn xs ys hu;cases e;cases xs with | mk xs=>
  cases ys with | mk ys=>
  obtain⟨_,_,rfl,_⟩:=I;obtain rfl:=(show J=_ from o);simp[Op.equalIn,run_underlying (aQ ok hu)]
 ·exact zA ok w 8 (d+1) t _ _ x' J b (by omega) I o e
theorem FU(ok:C.Ok P){σ:bD}{g:Nat->Option aJ}{w:World}(s:cM σ g w){h:au}{t:TypeId}{x x' y l:Value}{b:Bool}(o:aX σ x x')(p:aX σ y l)
  (i:∀a,x=.pointer (some a)->g a.block=h.get a.block) (j:∀a,y=.pointer (some a)->g a.block=h.get a.block)
  (e:equalA C h t x y=some b):(Op.equal t x' l).run P w=.ok b w:=
 HY ok s o p i j e 9999 (by omega)
end
end Go.Abs