/-
  The abstract machine is sound, first part: relations between values, aggregates, loads, equality.
-/
import Derived.Test.YtmbdmfjijofmmaaGreatDoorAbs0
import Derived.Laws.Append
import Derived.Laws.CopyRow
import Derived.Laws.Rows
import Derived.Laws.StructEq
import Derived.ChangeKeysEq
/-
 Soundness,first part: what the model's operations do where the abstract ones give a result.
-/
namespace Go.Abs
open Go
structure Ctx.Ok(C:Ctx)(P:Program):Prop where
 info:∀t i,C.info t=some i->P.info? t=some i
 func:∀f fn,C.func f=some fn->P.funcs[f]?=some fn
 call:∀f fn,C.func f=some fn->fn.body.isSome=true->∀args w,(callFunc f args).run P w=.ok (.enter f args) w
 flat:∀t,C.flat t=true->P.stoodInHeld t=false/\P.eqGuardType P.depth t=false/\∀fs,C.g9 t=some (.struct fs)->∀f∈fs.toList,f.name≠ "_"
 mixed:P.follows .mixedOrders=true
section
variable {C:Ctx}{P:Program}
theorem aL(ok:C.Ok P){t:TypeId}{d:TypeDesc}(h:C.g9 t=some d):P.underlying t=some d:=by unfold Ctx.g9 at h;unfold Program.underlying;cases hi:C.info t with| none=>{simp[hi] at h}| some i=>{simp only[hi] at h;rw[ok.info t i hi];cases i with| mk desc str size bytes f g l zero comp ms=>{cases desc with| named n u=>{simp only at h |-;cases hu:C.info u with| none=>{simp[hu] at h}| some j=>{rw[ok.info u j hu];simpa [hu] using h}}| _=>{simpa using h}}}
theorem pM(ok:C.Ok P){t:TypeId}{n:Nat}(h:C.size t=some n):∃i,P.info? t=some i/\i.size=n:=by unfold Ctx.size at h;cases hi:C.info t with| none=>{simp[hi] at h}| some i=>{exact⟨i,ok.info t i hi,by simpa [hi] using h⟩}
theorem yZ(ok:C.Ok P){t:TypeId}{n:Nat}(h:C.bytes t=some n):∃i,P.info? t=some i/\i.bytes=n:=by unfold Ctx.bytes at h;cases hi:C.info t with| none=>{simp[hi] at h}| some i=>{exact⟨i,ok.info t i hi,by simpa [hi] using h⟩}
theorem pt(ok:C.Ok P){t:TypeId}{z:Value}(h:C.zero t=some z):∃i,P.info? t=some i/\i.zero=some z/\plain z=true/\z.cells.size=i.size:=by unfold Ctx.zero at h;cases hi:C.info t with| none=>{simp[hi] at h}| some i=>{simp only[hi] at h;cases g:i.zero with| none=>{simp[g] at h}| some y=>{simp only[g] at h;cases f:(plain y&&y.cells.size==i.size) with| false=>{simp[f] at h}| true=>{simp only[f,xf,pr] at h;subst h;simp only[ti,S6] at f;exact⟨i,ok.info t i hi,g,f.1,f.2⟩}}}
theorem bP(ok:C.Ok P){t:TypeId}{n:Nat}(h:C.size t=some n)(w:World):(sizeOf t).run P w=.ok n w:=by obtain⟨i,hi,rfl⟩:=pM ok h;simp[sizeOf,typeInfo,hi]
theorem wN(ok:C.Ok P){t:TypeId}{d:TypeDesc}(h:C.g9 t=some d)(w:World):(isAgg t).run P w=.ok (uX d) w:=by unfold isAgg;rw[Sem.run_bind,run_underlying (aL ok h) w];cases d<;>rfl
theorem eK(ok:C.Ok P){t:TypeId}{z:Value}(h:C.zero t=some z)(w:World):(zeroValue t).run P w=.ok z w:=by obtain⟨i,hi,f,_,_⟩:=pt ok h;simp[zeroValue,typeInfo,hi,f]
theorem ij(ok:C.Ok P){t:TypeId}{z:Value}(h:C.zero t=some z):plain z=true:=(pt ok h).choose_spec.2.2.1
def cK(σ:bG):List (Value×Value)->List MapEntry->Prop
 | [],l=>l=[]
 | (k,v)::es,l=>∃e r,l=e::r/\aV σ k e.key/\aV σ v e.val/\cK σ es r
def nU(σ:bG)(w:World)(l:Loc):aC->Prop
 | .cells ro cs=>∃arr ty g,w.heap[l.cf]?=some (.cells arr ty g)/\arr.size=l.size/\(ro=false->g=(0,0))/\l.off+cs.length<=arr.size/\
   aZ σ cs ((arr.toList.drop l.off).take cs.length)
 | .map es=>∃f,w.heap[l.cf]?=some (.map f es.length)/\cK σ (alive es) f.toList/\f.toList.map (·.born)=stamps 0 es
structure dT(σ:bG)(g:Nat->Option aC)(w:World):Prop where
 cf:∀i b,g i=some b->∃l,σ i=some l/\nU σ w l b
 inj:∀i j b c li lj,g i=some b->g j=some c->i≠j->(b.ro=false\/c.ro=false)->σ i=some li->σ j=some lj->li.cf≠lj.cf
theorem cK.mono{σ τ:bG}(h:bG.le σ τ):∀{es:List (Value×Value)} {l:List MapEntry},cK σ es l->cK τ es l
 | [],_,r=>r
 | (_,_)::_,_,⟨e,r,q,a,b,s⟩=>⟨e,r,q,a.mono h,b.mono h,cK.mono h s⟩
theorem nU.mono{σ τ:bG}(h:bG.le σ τ){w:World}{l:Loc}:∀{b:aC},nU σ w l b->nU τ w l b
 | .cells _ _,⟨a,t,f,g,i,j,o,r⟩=>⟨a,t,f,g,i,j,o,r.mono h⟩
 | .map _,⟨e,q,r,s⟩=>⟨e,q,r.mono h,s⟩
theorem nU.world{σ:bG}{w g:World}{l:Loc}(e:g.heap[l.cf]?=w.heap[l.cf]?):∀{b:aC},nU σ w l b->nU σ g l b
 | .cells _ _,⟨a,t,f,i,q⟩=>⟨a,t,f,by rw[e];exact i,q⟩
 | .map _,⟨x,q,r⟩=>⟨x,by rw[e];exact q,r⟩
theorem nU.lt{σ:bG}{w:World}{l:Loc}{b:aC}(h:nU σ w l b):l.cf<w.heap.size:=by cases b with| cells ro cs=>{obtain⟨a,t,f,q,_⟩:=h;exact(Sc.1 q).1}| map es=>{obtain⟨e,q,_⟩:=h;exact(Sc.1 q).1}
theorem dT.sub{σ:bG}{g f:Nat->Option aC}{w:World}(h:dT σ g w)(hs:∀i b,f i=some b->g i=some b):dT σ f w:=
 ⟨λi b q=>h.cf i b (hs i b q),λi j b c li l p q=>h.inj i j b c li l (hs i b p) (hs j c q)⟩
theorem iI(b o n:Nat):(⟨b,o,none⟩:Addr).add n=⟨b,o+n,none⟩:=by unfold Addr.add;split;{rename_i h;subst h;rfl};{rfl}
theorem fE{cs:List Value}{off n:Nat}{l:List Value}(h:bE cs off n=some l):l=(cs.drop off).take n/\l.length=n:=by unfold bE at h;cases f:(((cs.drop off).take n).length==n) with| false=>{simp only[f,zy] at h;cases h}| true=>{simp only[f,xf,pr] at h;subst h;exact⟨rfl,by simpa using f⟩}
theorem Ll{σ:bG}{w:World}{l:Loc}{arr:Array Value}{ty:TypeId}{j:Nat×Nat}{cs:List Value}
  (o:w.heap[l.cf]?=some (.cells arr ty j)) (p:aZ σ cs ((arr.toList.drop l.off).take cs.length)) (i:Nat) (v:Value) (hi:cs[i]?=some v) :
  ∃v',w.cell? ⟨l.cf,l.off+i,none⟩=some v'/\aV σ v v':=by obtain⟨v',f,r⟩:=p.get i v hi;have g:i<cs.length:=(No.1 hi).1;refine⟨v',?_,r⟩;rw[cell_of_row w l.cf (l.off+i) arr ty j o];rw[Sg,nw g,Sj] at f;simpa using f
theorem sO{σ:bG}{w:World}{l:Loc}{arr:Array Value}{ty:TypeId}{i:Nat×Nat}{cs:List Value}
  (p:w.heap[l.cf]?=some (.cells arr ty i)) (r:aZ σ cs ((arr.toList.drop l.off).take cs.length))
  (off n:Nat) (x:List Value) (t:bE cs off n=some x) :
  ∃x',(loadCells ⟨l.cf,l.off+off,none⟩ n).run P w=.ok ⟨x'⟩ w/\aZ σ x x':=by obtain⟨rfl,I⟩:=fE t;have o:aZ σ ((cs.drop off).take n) ((((arr.toList.drop l.off).take cs.length).drop off).take n):=(r.drop off).take n;have hlen:((((arr.toList.drop l.off).take cs.length).drop off).take n).length=n:=by{rw[o.length,I]};refine⟨_,?_,o⟩;have:=run_loadCells_list (P:=P) w ⟨l.cf,l.off+off,none⟩ ((((arr.toList.drop l.off).take cs.length).drop off).take n) (λj v f=>by{have g:j<n:=by{have:=(No.1 f).1;omega};rw[iI,cell_of_row w l.cf _ arr ty i p];rw[Sg,nw g,Sj,Sg] at f;split at f;{rw[Sj] at f;rw[<-Sx,show l.off+off+j=l.off+(off+j) from by omega];exact f};{cases f}});rw[hlen] at this;exact this
theorem JJ(ok:C.Ok P){σ:bG}{w:World}{l:Loc}{arr:Array Value}{ty:TypeId}{p:Nat×Nat}{cs:List Value}
  (j:w.heap[l.cf]?=some (.cells arr ty p)) (o:aZ σ cs ((arr.toList.drop l.off).take cs.length))
  {t:TypeId} {off:Nat} {v:Value} (h:fL C cs t off=some v) :
  ∃v',(loadVar t ⟨l.cf,l.off+off,none⟩).run P w=.ok v' w/\aV σ v v':=by unfold fL at h;cases f:C.g9 t with| none=>{simp[f] at h}| some d=>{simp only[f] at h;cases g:uX d with| true=>{simp only[g,xf] at h;cases hs:C.size t with| none=>{simp[hs] at h}| some n=>{simp only[hs] at h;cases i:bE cs off n with| none=>{simp[i] at h}| some x=>{simp only[i,Si,pr] at h;subst h;obtain⟨x',I,J⟩:=sO (P:=P) j o off n x i;refine⟨.agg ⟨x'⟩,?_,⟨x',rfl,J⟩⟩;simp[loadVar,wN ok f,g,bP ok hs,I]}}}| false=>{simp only[g,zy] at h;obtain⟨v',R,r⟩:=Ll j o off v h;refine⟨v',?_,r⟩;simp[loadVar,wN ok f,g,R]}}
theorem gn(ok:C.Ok P){σ:bG}{w:World}{cs f:List Value}(l:aZ σ cs f){t:TypeId}{off:Nat}{v:Value}(h:fL C cs t off=some v) :
  ∃v',(part t ⟨f⟩ off).run P w=.ok v' w/\aV σ v v':=by unfold fL at h;cases g:C.g9 t with| none=>{simp[g] at h}| some d=>{simp only[g] at h;cases i:uX d with| true=>{simp only[i,xf] at h;cases hs:C.size t with| none=>{simp[hs] at h}| some n=>{simp only[hs] at h;cases j:bE cs off n with| none=>{simp[j] at h}| some x=>{simp only[j,Si,pr] at h;subst h;obtain⟨rfl,p⟩:=fE j;refine⟨.agg ⟨(f.drop off).take n⟩,?_,⟨_,rfl,(l.drop off).take n⟩⟩;simp only[part,Sem.run_bind,wN ok g,i,Result.andThen_ok,SN,bP ok hs,Sem.run_pure];congr 2;apply TI;simp}}}| false=>{simp only[i,zy] at h;obtain⟨v',o,r⟩:=l.get off v h;refine⟨v',?_,r⟩;simp[part,wN ok g,i,o]}}
end
end Go.Abs
/-
 Soundness,second part: memory written,blocks laid.
-/
namespace Go.Abs
open Go
def db{α:Type}(f:Nat->Option α)(i:Nat)(x:Option α):Nat->Option α:=λj=>if j=i then x else f j
theorem cj{α:Type}(f:Nat->Option α)(i:Nat)(x:Option α):db f i x i=x:=by simp[db]
theorem dp{α:Type}(f:Nat->Option α){i j:Nat}(x:Option α)(h:j≠i):db f i x j=f j:=by simp[db,h]
theorem bG.tX{σ:bG}{n:Nat}{l:Option Loc}(h:σ n=none):bG.le σ (db σ n l):=λi m e=>by by_cases hi:i=n;{subst hi;rw[h] at e;cases e};{rw[dp _ _ hi];exact e}
theorem au.eB(h:au)(i:Nat)(b:Option aC):(h.put i b).get=db h.get i b:=by funext j;rw[au.dL];rfl
theorem au.iu(h:au)(b:aC):(h.alloc b).get=db h.get h.next (some b):=by funext j;rw[au.dH];rfl
structure Ev(σ:bG)(g:Nat->Option aC)(n:Nat)(w:World)(σ':bG)(g':Nat->Option aC)(n':Nat)(w':World):Prop where
 size:w.heap.size<=w'.heap.size
 os:w'.os=w.os
 out:w'.output=w.output
 tape:w'.tape=w.tape
 qT:∀b,b<w.heap.size->(∀i B l,g i=some B->B.ro=false->σ i=some l->l.cf≠b)->w'.heap[b]?=w.heap[b]?
 own:∀i B l,g' i=some B->B.ro=false->σ' i=some l->w.heap.size<=l.cf\/∃j D m,g j=some D/\D.ro=false/\σ j=some m/\m.cf=l.cf
 sig:∀i,i<n\/n'<=i->σ' i=σ i
theorem Ev.refl(σ:bG)(g:Nat->Option aC)(n:Nat)(w:World):Ev σ g n w σ g n w:=
 ⟨mc _,rfl,rfl,rfl,λ_ _ _=>rfl,λi B l h r s=>.inr ⟨i,B,l,h,r,s,rfl⟩,λ_ _=>rfl⟩
theorem Ev.trans{σ:bG}{g:Nat->Option aC}{n:Nat}{w:World}{o:bG}{R:Nat->Option aC}{r:Nat}{U:World}{p:bG}{g2:Nat->Option aC}{n2:Nat}{w2:World}
  (a:Ev σ g n w o R r U) (b:Ev o R r U p g2 n2 w2) (h:n<=r) (h':r<=n2):Ev σ g n w p g2 n2 w2 where
 size:=LN a.size b.size
 os:=b.os.trans a.os
 out:=b.out.trans a.out
 tape:=b.tape.trans a.tape
 qT:=λk hk hn=>by
  rw[b.qT k (Sk hk a.size) (λi B l t C hs hb=>?_),a.qT k hk hn];rcases a.own i B l t C hs with f | ⟨j,D,m,f,I,J,P⟩
  ·omega
  ·exact hn j D m f I J (P.trans hb)
 own:=λi B l t C hs=>by
  rcases b.own i B l t C hs with f | ⟨j,D,m,f,I,J,P⟩
  ·exact .inl (LN a.size f)
  ·rcases a.own j D m f I J with h5 | ⟨k,E,q,h5,h6,h7,h8⟩
   ·exact .inl (by omega)
   ·exact .inr ⟨k,E,q,h5,h6,h7,h8.trans P⟩
 sig:=λi hi=>by
  rw[b.sig i (by omega),a.sig i (by omega)]
theorem Ev.le{σ:bG}{g:Nat->Option aC}{n:Nat}{w:World}{f:bG}{o:Nat->Option aC}{j:Nat}{p:World}
  (a:Ev σ g n w f o j p) (r:∀i,n<=i->i<j->σ i=none):bG.le σ f:=λi l e=>by by_cases h:n<=i/\i<j;{rw[r i h.1 h.2] at e;cases e};{rw[a.sig i (by omega)];exact e}
theorem GZ(A vs cs:List Value)(lo off:Nat)(h:off+vs.length<=cs.length)(o:lo+cs.length<=A.length) :
  ((A.take (lo+off)++vs++A.drop (lo+off+vs.length)).drop lo).take cs.length=bp ((A.drop lo).take cs.length) off vs:=by unfold bp;apply Sb;intro i;have j:(A.take (lo+off)).length=lo+off:=by{rw[R5];omega};have l:(((A.drop lo).take cs.length).take off).length=off:=by{simp;omega};by_cases hi:i<cs.length;{rw[Sg,nw hi,Sj,AS];by_cases g:i<off;{rw[By (l₁:=A.take (lo+off)) (by omega),By (l₁:=((A.drop lo).take cs.length).take off) (by omega)];simp only[Sg,Sj];rw[nw (by omega),nw g,nw hi]};{rw[R0 (l₁:=A.take (lo+off)) (by omega),R0 (l₁:=((A.drop lo).take cs.length).take off) (by omega),j,l];have e:lo+i-(lo+off)=i-off:=by{omega};rw[e];by_cases f:i-off<vs.length;{rw[By f,By f]};{rw[R0 (by omega),R0 (by omega)];simp only[Sg,Sj];rw[nw (by omega)];congr 1;omega}}};{rw[D2 (by rw[R5];omega)];symm;apply D2;simp only[q0,R5,Uv];omega}
theorem kC(cs vs:List Value)(off:Nat)(h:off+vs.length<=cs.length):(bp cs off vs).length=cs.length:=by unfold bp;simp;omega
theorem aZ.Lk{σ:bG}{cs f vs g:List Value}(off:Nat)(h:aZ σ cs f)(i:aZ σ vs g):aZ σ (bp cs off vs) (bp f off g):=by unfold bp;rw[i.length];exact(h.take off).app (i.app (h.drop _))
theorem dT.write{σ:bG}{g:Nat->Option aC}{w:World}(s:dT σ g w){i:Nat}{cs p:List Value}{l:Loc}(R:g i=some (.cells false cs))(U:σ i=some l)
  {arr:Array Value} {ty:TypeId} (hw:w.heap[l.cf]?=some (.cells arr ty (0,0))) (f:Array Value) (ha:f.size=l.size) (hle:l.off+p.length<=f.size)
  (hv:aZ σ p ((f.toList.drop l.off).take p.length)):dT σ (db g i (some (.cells false p))) (w.setRow l.cf f) where
 cf:=λj b o=>by
  by_cases t:j=i
  ·subst t;rw[cj] at o;cases o;exact⟨l,U,f,ty,(0,0),setRow_heap w l.cf arr f ty (0,0) hw,ha,λ_=>rfl,hle,hv⟩
  ·rw[dp _ _ t] at o;obtain⟨m,hm,r⟩:=s.cf j b o;refine⟨m,hm,r.world (setRow_other w l.cf m.cf f ?_)⟩;exact s.inj j i b _ m l o R t (.inr rfl) hm U
 inj:=λj k b c lj lk o hc I hr J P=>by
  have key:∀j b,db g i (some (.cells false p)) j=some b->∃C,g j=some C/\C.ro=b.ro:=by
   intro j b o;by_cases t:j=i
   ·subst t;rw[cj] at o;cases o;exact⟨_,R,rfl⟩
   ·rw[dp _ _ t] at o;exact⟨b,o,rfl⟩
  obtain⟨C,h1,h2⟩:=key j b o;obtain⟨c0,h3,h4⟩:=key k c hc;exact s.inj j k C c0 lj lk h1 h3 I (by rw[h2,h4];exact hr) J P
theorem Ev.write{σ:bG}{g:Nat->Option aC}{w:World}{i:Nat}{cs o:List Value}{l:Loc}(n:Nat)(p:g i=some (.cells false cs))(C:σ i=some l)(f:Array Value) :
  Ev σ g n w σ (db g i (some (.cells false o))) n (w.setRow l.cf f) where
 size:=by simp
 os:=rfl
 out:=rfl
 tape:=rfl
 qT:=λb _ I=>setRow_other w l.cf b f (Ne.symm (I i _ l p rfl C))
 own:=λj B m r J hs=>by
  by_cases t:j=i
  ·subst t;exact .inr ⟨j,_,m,p,rfl,hs,rfl⟩
  ·rw[dp _ _ t] at r;exact .inr ⟨j,B,m,r,J,hs,rfl⟩
 sig:=λ_ _=>rfl
theorem dT.alloc{σ:bG}{g:Nat->Option aC}{w P:World}(s:dT σ g w){n:Nat}(hn:σ n=none){l:Loc}(hl:l.cf=w.heap.size)
  (hold:∀b,b<w.heap.size->P.heap[b]?=w.heap[b]?) {b:aC} (hb:nU (db σ n (some l)) P l b):dT (db σ n (some l)) (db g n (some b)) P where
 cf:=λj c p=>by
  by_cases o:j=n
  ·subst o;rw[cj] at p;cases p;exact⟨l,cj _ _ _,hb⟩
  ·rw[dp _ _ o] at p;obtain⟨m,hm,r⟩:=s.cf j c p;exact⟨m,by rw[dp _ _ o];exact hm,(r.mono (bG.tX hn)).world (hold _ r.lt)⟩
 inj:=λj k C c I lk t p J hr f i=>by
  have key:∀j C I,db g n (some b) j=some C->db σ n (some l) j=some I->j≠n->I.cf<w.heap.size:=by
   intro j C I R U o;rw[dp _ _ o] at R U;obtain⟨m,hm,r⟩:=s.cf j C R;rw[U] at hm;cases hm;exact r.lt
  by_cases o:j=n
  ·subst o;rw[cj] at f;cases f;have:=key k c lk p i (Ne.symm J);omega
  ·by_cases hk:k=n
   ·subst hk;rw[cj] at i;cases i;have:=key j C I t f o;omega
   ·rw[dp _ _ o] at t f;rw[dp _ _ hk] at p i;exact s.inj j k C c I lk t p J hr f i
theorem Ev.alloc{σ:bG}{g:Nat->Option aC}{w o:World}{n:Nat}{l:Loc}(J:l.cf=w.heap.size)
  (r:w.heap.size<=o.heap.size) (hold:∀b,b<w.heap.size->o.heap[b]?=w.heap[b]?) (t:o.os=w.os) (p:o.output=w.output) (f:o.tape=w.tape) (b:aC) :
  Ev σ g n w (db σ n (some l)) (db g n (some b)) (n+1) o where
 size:=r
 os:=t
 out:=p
 tape:=f
 qT:=λk hk _=>hold k hk
 own:=λj B m C P hs=>by
  by_cases I:j=n
  ·subst I;rw[cj] at hs;cases hs;exact .inl (Nat.le_of_eq J.symm)
  ·rw[dp _ _ I] at C hs;exact .inr ⟨j,B,m,C,P,hs,rfl⟩
 sig:=λi hi=>dp _ _ (by omega)
theorem DQ{σ:bG}{g:Nat->Option aC}{w:World}(s:dT σ g w){n:Nat}(j:σ n=none)(elem:TypeId){cs f:List Value}(i:aZ σ cs f) :
  let l:Loc:=⟨w.heap.size,0,f.length⟩;let o:=w.alloc (.cells ⟨f⟩ elem)
  dT (db σ n (some l)) (db g n (some (.cells false cs))) o/\Ev σ g n w (db σ n (some l)) (db g n (some (.cells false cs))) (n+1) o:=by have hold:∀b,b<w.heap.size->(w.alloc (.cells ⟨f⟩ elem)).heap[b]?=w.heap[b]?:=λb p=>heap_alloc_old w _ b p;refine⟨s.alloc j rfl hold ?_,Ev.alloc rfl (by simp) hold rfl rfl rfl _⟩;refine⟨⟨f⟩,elem,(0,0),heap_alloc_new w _,rfl,λ_=>rfl,?_,?_⟩;{simp[i.length]};{have:=i.mono (bG.tX (l:=some ⟨w.heap.size,0,f.length⟩) j);rw[<-i.length];simpa using this}
theorem HC(σ:bG)(n:Nat)(l:Loc)(h:l.off=0):aV (db σ n (some l)) (.pointer (some ⟨n,0,none⟩)) (.pointer (some ⟨l.cf,0,none⟩)):=
 ⟨l,cj _ _ _,rfl,by simp[h]⟩
end Go.Abs
/-
 Soundness,third part: operations that leave memory as it is.
-/
namespace Go.Abs
open Go
section
variable {C:Ctx}{P:Program}
theorem mV{h:au}{b:Nat}{cs:List Value}(e:eW h b=some cs):∃ro,h.get b=some (.cells ro cs):=by unfold eW at e;cases f:h.get b with| none=>{simp[f] at e}| some x=>{cases x with| cells ro l=>{simp[f] at e;subst e;exact⟨ro,rfl⟩}| map m=>{simp[f] at e}}
theorem dT.cells{σ:bG}{g:Nat->Option aC}{w:World}(s:dT σ g w){b:Nat}{ro:Bool}{cs:List Value}(i:g b=some (.cells ro cs)){l:Loc}(j:σ b=some l) :
  ∃arr ty f,w.heap[l.cf]?=some (.cells arr ty f)/\arr.size=l.size/\(ro=false->f=(0,0))/\l.off+cs.length<=arr.size/\
   aZ σ cs ((arr.toList.drop l.off).take cs.length):=by obtain⟨m,hm,r⟩:=s.cf b _ i;rw[j] at hm;cases hm;exact r
theorem dT.A1{σ:bG}{g:Nat->Option aC}{w:World}(s:dT σ g w){b:Nat}{es:List (Value×Value)}(i:g b=some (.map es)){l:Loc}(j:σ b=some l) :
  ∃f,w.heap[l.cf]?=some (.map f es.length)/\cK σ (alive es) f.toList/\f.toList.map (·.born)=stamps 0 es:=by obtain⟨m,hm,r⟩:=s.cf b _ i;rw[j] at hm;cases hm;exact r
theorem CH(ok:C.Ok P){σ:bG}{g:Nat->Option aC}{w:World}(s:dT σ g w){h:au}{t:TypeId}{x x' v:Value}(f:aV σ x x')
  (e:jU C h t x=some v) (i:∀a,x=.pointer (some a)->g a.block=h.get a.block) :
  ∃v',(Instr.loadAt t x').run P w=.ok v' w/\aV σ v v':=by unfold jU at e;split at e;{rename_i b off;split at e;{rename_i cs j;obtain⟨ro,o⟩:=mV j;obtain⟨l,p,_,rfl⟩:=f;obtain⟨arr,ty,U,r,h2,h3,h4,I⟩:=s.cells ((i _ rfl).trans o) p;obtain⟨v',J,R⟩:=JJ ok r I e;exact⟨v',by simpa [Instr.loadAt,Instr.sureAddr] using J,R⟩};{cases e}};{cases e}
theorem CF(ok:C.Ok P){σ:bG}(w:World){t:TypeId}{x x' i p v:Value}(J:aV σ x x')(hi:aV σ i p)(e:jh C t x i=some v) :
  ∃v',(Instr.indexAt t x' p).run P w=.ok v' w/\aV σ v v':=by unfold jh at e;split at e;{rename_i el b off len U k n hu;split at e;{rename_i R hs;split at e;{rename_i j;cases e;obtain⟨l,a',cap,r,_,rfl,hle,h0,I⟩:=J;obtain rfl:p=.int k n:=hi;have o:cap≠0:=by{omega};obtain⟨rfl,_⟩:=I o;refine⟨_,?_,⟨l,r,rfl,rfl⟩⟩;have f:0<=n:=j.1;have g:n<(len:Int):=j.2;simp[Instr.indexAt,asIntOf,run_underlying (aL ok hu),bP ok hs,f,g,iI,Ts]};{cases e}};{cases e}};{rename_i len el b off k n hu;split at e;{rename_i R hs;split at e;{rename_i j;cases e;obtain⟨l,r,_,rfl⟩:=J;obtain rfl:p=.int k n:=hi;refine⟨_,?_,⟨l,r,rfl,rfl⟩⟩;have f:0<=n:=j.1;have g:n<(len:Int):=j.2;simp[Instr.indexAt,Instr.sureAddr,asIntOf,run_underlying (aL ok hu),bP ok hs,f,g,iI,Ts]};{cases e}};{cases e}};{cases e}
theorem CB(ok:C.Ok P){σ:bG}(w:World){t:TypeId}{x x' v:Value}{f:Nat}(o:aV σ x x')(e:kE C t x f=some v) :
  ∃v',(Instr.fieldAt t x' f).run P w=.ok v' w/\aV σ v v':=by unfold kE at e;split at e;{rename_i p b off hu;split at e;{rename_i fd r;split at e;{rename_i n hs;cases g:(n==0) with| true=>{simp[g] at e}| false=>{simp only[g,zy,pr] at e;subst e;obtain⟨l,I,_,rfl⟩:=o;refine⟨_,?_,⟨l,I,rfl,rfl⟩⟩;have i:p[f]?=some fd:=by{simpa using r};have j:n≠0:=by{simpa using g};simp[Instr.fieldAt,Instr.sureAddr,run_underlying (aL ok hu),i,fieldPlace,bP ok hs,j,iI,Ts]}};{cases e}};{cases e}};{cases e}
theorem L8(ok:C.Ok P){σ:bG}(w:World){t:TypeId}{x x' v:Value}{f:Nat}(i:aV σ x x')(e:xD C t x f=some v) :
  ∃v',(Instr.field t x' f).run P w=.ok v' w/\aV σ v v':=by
 unfold xD at e;split at e
 ·rename_i j cs hu;split at e
  ·rename_i fd l;cases cs with | mk cs=>
   obtain⟨o,rfl,p⟩:=i;obtain⟨v',r,I⟩:=gn (P:=P) (w:=w) ok p e;have g:j[f]?=some fd:=by simpa using l
   exact⟨v',by simp[Instr.field,run_underlying (aL ok hu),g,asAgg,r],I⟩
  ·cases e
 ·cases e
theorem L9(ok:C.Ok P){σ:bG}(w:World){t:TypeId}{x x' i g v:Value}(J:aV σ x x')(hi:aV σ i g)(e:Cb C t x i=some v) :
  ∃v',(Instr.index t x' g).run P w=.ok v' w/\aV σ v v':=by
 unfold Cb at e;split at e
 ·rename_i len el cs k n hu;split at e
  ·rename_i sz hs;split at e
   ·rename_i j;cases cs with | mk cs=>
    obtain⟨R,rfl,U⟩:=J;obtain rfl:g=.int k n:=hi;obtain⟨v',h1,h2⟩:=gn (P:=P) (w:=w) ok U e;have l:0<=n:=j.1;have o:n<(len:Int):=j.2;exact⟨v',by simp[Instr.index,asIntOf,run_underlying (aL ok hu),bP ok hs,l,o,h1],h2⟩
   ·cases e
  ·cases e
 ·rename_i s k n hu;obtain rfl:x'=.string s:=J;obtain rfl:g=.int k n:=hi;split at e
  ·rename_i j;cases p:s.data.toList[n.toNat]? with
   | none=>simp[p] at e
   | some b=>
    simp only[p,Si,pr] at e;subst e;refine⟨_,?_,rfl⟩;have hs:s[n.toNat]?=some b:=by
     have:=p;simp only[Sx] at this;rw[Sc] at this;obtain⟨r,I⟩:=this;have f:n.toNat<s.size:=r;rw[getElem?_pos s n.toNat f];exact congrArg some I
    simp[Instr.index,asIntOf,run_underlying (aL ok hu),j,hs]
  ·cases e
 ·cases e
theorem oh{σ:bG}{v:Option Value}{v':Option Value}{d m:Nat}(f:match v,v' with | none,none=>True | some a,some b=>aV σ a b | _,_=>False)
  (e:dc v d=some m):(v=none/\v'=none/\m=d)\/∃k n,v=some (.int k n)/\v'=some (.int k n)/\0<=n/\n.toNat=m:=by unfold dc at e;cases v with| none=>{cases v' with| none=>{simp at e;exact .inl ⟨rfl,rfl,e.symm⟩}| some b=>{cases f}}| some a=>{cases v' with| none=>{cases f}| some b=>{right;cases a with| int k n=>{obtain rfl:b=.int k n:=f;simp only at e;split at e;{rename_i h;cases e;exact⟨k,n,rfl,rfl,h,rfl⟩};{cases e}}| _=>{simp at e}}}
theorem run_sliceBound(P:Program)(w:World)(k:IntKind)(n:Int)(y:Nat)(code:BoundsCode)(f:0<=n)(g:n.toNat<=y) :
  (Instr.sliceBound (.int k n) y code).run P w=.ok n.toNat w:=by have:n<=(y:Int):=by{omega};simp[Instr.sliceBound,asIntOf,f,this]
abbrev Ce(σ:bG)(v v':Option Value):Prop:=match v,v' with | none,none=>True | some a,some b=>aV σ a b | _,_=>False
theorem gD{σ:bG}(P:Program)(w:World)(i:Bool)(len cap:Nat){lo f hi g:Option Value}{l h:Nat}(j:Ce σ lo f)(o:Ce σ hi g)
  (el:dc lo 0=some l) (I:dc hi len=some h) (p:l<=h) (r:h<=cap) :
  (Instr.sliceBounds i len cap f g none).run P w=.ok (l,h,cap) w:=by rcases oh j el with ⟨rfl,rfl,rfl⟩ | ⟨k,n,rfl,rfl,t,rfl⟩<;>rcases oh o I with ⟨rfl,rfl,rfl⟩ | ⟨k2,m,rfl,rfl,hm,rfl⟩;{simp[Instr.sliceBounds]};{simp[Instr.sliceBounds,run_sliceBound P w k2 m cap _ hm r]};{simp[Instr.sliceBounds,run_sliceBound P w k n _ _ t p]};{simp[Instr.sliceBounds,run_sliceBound P w k2 m cap _ hm r,run_sliceBound P w k n _ _ t p]}
theorem mI{σ:bG}(P:Program)(w:World)(j:Bool)(len cap:Nat){lo f hi g o i:Option Value}{l h m:Nat}(r:Ce σ lo f)(t:Ce σ hi g)
  (I:Ce σ o i) (el:dc lo 0=some l) (eh:dc hi len=some h) (em:dc o 0=some m) (J:hi.isSome=true) (R:o.isSome=true)
  (h1:l<=h) (U:h<=m) (h3:m<=cap) :
  (Instr.sliceBounds j len cap f g i).run P w=.ok (l,h,m) w:=by rcases oh I em with ⟨rfl,rfl,rfl⟩ | ⟨k3,q,rfl,rfl,hq,rfl⟩;{cases R};rcases oh t eh with ⟨rfl,rfl,rfl⟩ | ⟨k2,p,rfl,rfl,hp,rfl⟩;{cases J};rcases oh r el with ⟨rfl,rfl,rfl⟩ | ⟨k,n,rfl,rfl,hn,rfl⟩;{simp[Instr.sliceBounds,run_sliceBound P w k3 q _ _ hq h3,run_sliceBound P w k2 p _ _ hp U]};{simp[Instr.sliceBounds,run_sliceBound P w k3 q _ _ hq h3,run_sliceBound P w k2 p _ _ hp U,run_sliceBound P w k n _ _ hn h1]}
end
end Go.Abs
/-
 Soundness,fourth part: slice expressions,len,cap,operators.
-/
namespace Go.Abs
open Go
section
variable {C:Ctx}{P:Program}
theorem Kp(ok:C.Ok P){σ:bG}{g:Nat->Option aC}{w:World}(s:dT σ g w){h:au}{t:TypeId}{x x' v:Value}{lo ar hi av mx J:Option Value}(hx:aV σ x x')
  (R:Ce σ lo ar) (U:Ce σ hi av) (aa:Ce σ mx J) (e:gO C h t x lo hi mx=some v) (hg:∀a,x=.pointer (some a)->g a.block=h.get a.block) :
  ∃v',(Instr.sliceAt t x' ar av J).run P w=.ok v' w/\aV σ v v':=by
 unfold gO at e;split at e
 ·
  rename_i el a b hu;obtain⟨rfl,rfl,rfl⟩:=hx;split at e
  ·rename_i p hs e1 e2 e3;cases j:(mx.isSome&&hi.isNone) with
   | true=>simp[j] at e
   | false=>
    simp only[j,zy,pr] at e;subst e;refine⟨.slice none 0 0,?_,⟨rfl,rfl,rfl⟩⟩;by_cases hm:mx.isSome=true
    ·have hh:hi.isSome=true:=by
      cases hi with
      | none=>simp[hm] at j
      | some _=>rfl
     simp[Instr.sliceAt,Instr.slice,run_underlying (aL ok hu),bP ok hs,
      mI P w true 0 0 R U aa e1 e2 e3 hh hm (mc _) (mc _) (mc _)]
    ·cases mx with
     | some _=>simp at hm
     | none=>cases J with
      | some _=>cases aa
      | none=>
       simp[Instr.sliceAt,Instr.slice,run_underlying (aL ok hu),bP ok hs,
        gD P w true 0 0 R U e1 e2 (mc _) (mc _)]
  ·cases e
 ·
  rename_i el b off len c hu;obtain⟨l,a',cap,hl,_,rfl,hle,h0,a0⟩:=hx;split at e
  ·rename_i p f i hs e1 e2;cases j:(Nat.ble f i&&Nat.ble i len&&(c==0||c==p)) with
   | false=>simp[j] at e
   | true=>
    simp only[j,xf,pr] at e;subst e;simp only[ti,T1,SO,S6] at j;obtain⟨⟨ac,ad⟩,ag⟩:=j;cases J with
    | some _=>cases aa
    | none=>
     refine⟨.slice (if cap=f then some a' else some (a'.add (f*p))) (i-f) (cap-f),?_,?_⟩
     ·simp[Instr.sliceAt,Instr.slice,run_underlying (aL ok hu),bP ok hs,
       gD P w true len cap R U e1 e2 ac (LN ad hle)]
     ·refine⟨l,if cap=f then a' else a'.add (f*p),cap-f,hl,rfl,?_,by omega,λhc=>by have:=h0 hc;omega,λhc=>?_⟩
      ·split<;>rfl
      ·have r:cap≠f:=by omega
       obtain⟨rfl,I⟩:=a0 (by omega);rw[mb r];have ap:c=p:=by
        rcases ag with h | h
        ·have:=h0 h;omega
        ·exact h
       subst ap;refine⟨by rw[iI,Ts],?_⟩;dsimp only at I |-;have:(cap-f)*c+f*c=cap*c:=by rw[<-Sq];congr 1;omega
       omega
  ·rename_i p f i mv hs e1 e2;split at e
   ·rename_i m_ e3;cases j:(hi.isSome&&Nat.ble f i&&Nat.ble i m_&&Nat.ble m_ len&&(c==0||c==p)) with
    | false=>simp only[j,zy] at e;cases e
    | true=>
     simp only[j,xf,pr] at e;subst e;simp only[ti,T1,SO,S6] at j;obtain⟨⟨⟨⟨a8,ac⟩,ad⟩,a1⟩,ag⟩:=j;refine⟨.slice (if m_=f then some a' else some (a'.add (f*p))) (i-f) (m_-f),?_,?_⟩
     ·simp[Instr.sliceAt,Instr.slice,run_underlying (aL ok hu),bP ok hs,
       mI P w true len cap R U aa e1 e2 e3 a8 rfl ac ad (LN a1 hle)]
     ·refine⟨l,if m_=f then a' else a'.add (f*p),m_-f,hl,rfl,?_,by omega,λhc=>?_,λhc=>?_⟩
      ·split<;>rfl
      ·cases o:(m_==f) with
       | true=>simp at o;omega
       | false=>simp only[o,zy] at hc;have:=h0 hc;omega
      ·have r:m_≠f:=by omega
       obtain⟨rfl,I⟩:=a0 (by omega);rw[mb r];have o:(m_==f)=false:=by simpa using r
       have ap:c=p:=by
        rcases ag with h | h
        ·have:=h0 h;omega
        ·exact h
       subst ap;refine⟨by rw[iI,Ts],?_⟩;dsimp only at I |-;have:(m_-f)*c+f*c=m_*c:=by rw[<-Sq];congr 1;omega
       have:m_*c<=cap*c:=Sf _ (by omega);simp only[o,zy];omega
   ·cases e
  ·cases e
 ·
  rename_i n el b off hu;obtain⟨l,hl,_,rfl⟩:=hx;split at e
  ·rename_i p f i cs hs e1 e2 ec;cases j:(Nat.ble f i&&Nat.ble i n&&Nat.blt 0 p&&Nat.ble (off+n*p) cs.length) with
   | false=>simp only[j,zy] at e;cases e
   | true=>
    simp only[j,xf,pr] at e;subst e;simp only[ti,T1,Nat.blt_eq] at j;obtain⟨⟨⟨ac,ad⟩,ag⟩,a1⟩:=j;obtain⟨ro,a2⟩:=mV ec;obtain⟨arr,ty,fr,q1,q2,q3,q4,q5⟩:=s.cells ((hg _ rfl).trans a2) hl;cases J with
    | some _=>cases aa
    | none=>
     refine⟨.slice (some (if n=f then ⟨l.cf,l.off+off,none⟩ else (⟨l.cf,l.off+off,none⟩:Addr).add (f*p))) (i-f) (n-f),?_,?_⟩
     ·simp[Instr.sliceAt,Instr.sureAddr,run_underlying (aL ok hu),bP ok hs,gD P w false n n R U e1 e2 ac ad]
     ·refine⟨l,_,n-f,hl,rfl,rfl,by omega,λhc=>?_,λhc=>?_⟩
      ·cases o:(n==f) with
       | true=>simp at o;omega
       | false=>simp only[o,zy] at hc;omega
      ·have r:n≠f:=by omega
       have o:(n==f)=false:=by simpa using r
       rw[mb r];refine⟨by rw[iI,Ts],?_⟩;have:(n-f)*p+f*p=n*p:=by rw[<-Sq];congr 1;omega
       simp only[o,zy];omega
  ·cases e
 ·rename_i str hu;obtain rfl:x'=.string str:=hx;split at e
  ·rename_i f i e1 e2;cases j:(Nat.ble f i&&Nat.ble i str.size) with
   | false=>simp[j] at e
   | true=>
    simp only[j,xf,pr] at e;subst e;simp only[ti,T1] at j;cases J with
    | some _=>cases aa
    | none=>
     refine⟨.string (str.extract f i),?_,rfl⟩;simp[Instr.sliceAt,Instr.slice,run_underlying (aL ok hu),gD P w false str.size str.size R U e1 e2 j.1 j.2]
  ·cases e
 ·cases e
end
end Go.Abs
namespace Go.Abs
open Go
section
variable {C:Ctx}{P:Program}
theorem Ou(ok:C.Ok P){σ:bG}{g:Nat->Option aC}{w:World}(s:dT σ g w){h:au}{t:TypeId}{x x' v:Value}(f:aV σ x x')(ts:List TypeId)(ty:TypeId)
  (e:zX C h t x=some v) (j:∀r,x=.map (some r)->g r=h.get r) :
  ∃v',(Builtin.len_ ⟨t::ts⟩ ty ⟨[x']⟩).run P w=.ok v' w/\aV σ v v':=by unfold zX at e;split at e;{rename_i str hu;obtain rfl:x'=.string str:=f;cases e;exact⟨_,by simp[Builtin.len_,run_underlying (aL ok hu),goInt],rfl⟩};{rename_i y n el hu;cases e;exact⟨.int .i64 n,by simp[Builtin.len_,run_underlying (aL ok hu),goInt],rfl⟩};{rename_i el a n c hu;cases e;cases a with| none=>{obtain⟨rfl,rfl,rfl⟩:=f;exact⟨.int .i64 (0:Nat),by simp[Builtin.len_,run_underlying (aL ok hu),goInt],rfl⟩}| some a=>{obtain⟨l,R,cap,_,_,rfl,_⟩:=f;exact⟨.int .i64 n,by simp[Builtin.len_,run_underlying (aL ok hu),goInt],rfl⟩}};{rename_i hu;obtain rfl:x'=.map none:=f;cases e;exact⟨_,by simp[Builtin.len_,run_underlying (aL ok hu),goInt],rfl⟩};{rename_i r hu;obtain⟨l,o,rfl⟩:=f;split at e;{rename_i es he;cases e;obtain⟨i,p,I,_⟩:=s.A1 ((j _ rfl).trans he) o;have hlen:i.size=(alive es).length:=by{have:∀{es:List (Value×Value)} {l:List MapEntry},cK σ es l->l.length=es.length:=by{intro es;induction es with| nil=>{intro l h;rw[show l=[] from h];rfl}| cons x xs J=>{intro l h;obtain⟨k,v⟩:=x;obtain⟨e,r,rfl,_,_,h⟩:=h;simp[J h]}};simpa using this I};refine⟨.int .i64 (alive es).length,?_,rfl⟩;simp[Builtin.len_,run_underlying (aL ok hu),goInt,getObj,Sem.run,p,hlen]};{cases e}};{cases e}
theorem OS(ok:C.Ok P){σ:bG}(w:World){t:TypeId}{x x' v:Value}(f:aV σ x x')(ts:List TypeId)(ty:TypeId)
  (e:MC C t x=some v):∃v',(Builtin.cap_ ⟨t::ts⟩ ty ⟨[x']⟩).run P w=.ok v' w/\aV σ v v':=by unfold MC at e;split at e;{rename_i y n el hu;cases e;exact⟨.int .i64 n,by simp[Builtin.cap_,run_underlying (aL ok hu),goInt],rfl⟩};{rename_i el n c hu;cases e;obtain⟨rfl,rfl,rfl⟩:=f;exact⟨.int .i64 (0:Nat),by simp[Builtin.cap_,run_underlying (aL ok hu),goInt],rfl⟩};{rename_i el a n hu;cases e;obtain⟨l,i,cap,_,_,rfl,_,g,_⟩:=f;obtain rfl:=g rfl;exact⟨.int .i64 (0:Nat),by simp[Builtin.cap_,run_underlying (aL ok hu),goInt],rfl⟩};{cases e}
theorem Ij(w:World){op:BinOp}{k:IntKind}{a b:Int}{v:Value}(f:op≠.shl)(g:op≠.shr)(t:TypeId)(e:dO op k a b=some v) :
  (binOp op t (.int k a) (.int k b)).run P w=.ok v w/\plain v=true:=by
 cases op<;>simp only[dO] at e<;>first
  | exact absurd rfl f
  | exact absurd rfl g
  | (split at e
     · cases e
     · rename_i i;cases e;exact⟨by simp[binOp,Op.intDiv,i],rfl⟩)
  | (cases e;exact⟨by simp[binOp,Op.intArith,Op.intBits,Op.intCmp],rfl⟩)
theorem Ep(w:World){op:BinOp}{k f:IntKind}{a b:Int}{v:Value}(t:TypeId)(e:jO op k a b=some v) :
  (binOp op t (.int k a) (.int f b)).run P w=.ok v w/\plain v=true:=by unfold jO at e;split at e;{cases e};{rename_i g;cases op<;>simp only at e<;>first|(cases e;done)|(cases e;exact⟨by simp[binOp,Op.shift,g],rfl⟩)}
theorem C7(w:World){op:BinOp}{a b:ByteArray}{v:Value}(t:TypeId)(e:mR op a b=some v) :
  (binOp op t (.string a) (.string b)).run P w=.ok v w/\plain v=true:=by (cases op<;>simp only[mR] at e<;>first|(cases e;done)|(cases e;exact⟨by simp[binOp,Op.stringOp],rfl⟩)|skip);cases f:Nat.ble (a.size+b.size) 9223372036854775807 with| false=>{simp only[f,zy] at e;cases e}| true=>{simp only[f,xf,pr] at e;subst e;have g:=Tq f;have hm:IntKind.i64.max=9223372036854775807:=by{decide};have:¬(((a.size+b.size:Nat):Int) > IntKind.i64.max):=by{rw[hm];omega};refine⟨?_,rfl⟩;simp only[binOp,Op.stringOp,mb this,Sem.run_pure]}
theorem Pl{σ:bG}(w:World){op:UnOp}{x x' v:Value}(f:aV σ x x')(e:Qf op x=some v):(Op.unary op x').run P w=.ok v w/\plain v=true:=by unfold Qf at e;split at e;{obtain rfl:=(show x'=_ from f);cases e;exact⟨by simp[Op.unary,Op.intArith],rfl⟩};{obtain rfl:=(show x'=_ from f);cases e;exact⟨by simp[Op.unary,Op.intBits],rfl⟩};{obtain rfl:=(show x'=_ from f);cases e;exact⟨by simp[Op.unary],rfl⟩};{cases e}
end
end Go.Abs
/-
 Soundness,fifth part: equality,maps,struct literals.
-/
namespace Go.Abs
open Go
section
variable {C:Ctx}{P:Program}
theorem Ga(ok:C.Ok P){σ:bG}(w:World){t:TypeId}{d:TypeDesc}{x x' y f:Value}{b:Bool}(hu:C.g9 t=some d)(g:aV σ x x')(i:aV σ y f)
  (e:fH d x y=some b) (n:Nat):(Op.equalIn (n+1) t x' f).run P w=.ok b w:=by unfold fH at e;split at e;{obtain rfl:=(show x'=_ from g);obtain rfl:=(show f=_ from i);cases e;simp[Op.equalIn,run_underlying (aL ok hu)]};{obtain rfl:=(show x'=_ from g);obtain rfl:=(show f=_ from i);split at e;{rename_i hk;cases e;subst hk;simp[Op.equalIn,run_underlying (aL ok hu)]};{cases e}};{obtain rfl:=(show x'=_ from g);obtain rfl:=(show f=_ from i);cases e;simp[Op.equalIn,run_underlying (aL ok hu)]};{obtain rfl:=(show x'=_ from g);obtain rfl:=(show f=_ from i);cases e;simp[Op.equalIn,run_underlying (aL ok hu)]};{cases e}
theorem zD(ok:C.Ok P){σ:bG}(w:World){d e s:Nat}{eq:Value->Value->Option Bool}
  (I:∀x y x' J b,aV σ x x'->aV σ y J->eq x y=some b->(Op.equalIn d e x' J).run P w=.ok b w) {xs ys f g:List Value} (R:aZ σ xs f) (U:aZ σ ys g) :
  ∀(is:List Nat) (b:Bool),ng C eq e s xs ys is=some b->(Op.eqItems d e s ⟨f⟩ ⟨g⟩ is).run P w=.ok b w
 | [],b,h=>by simp[ng] at h;subst h;simp[Op.eqItems]
 | i::is,b,h=>by{unfold ng at h;split at h;{rename_i a a2 h1 h2;obtain⟨u,j,p⟩:=gn (P:=P) (w:=w) ok R h1;obtain⟨v,l,t⟩:=gn (P:=P) (w:=w) ok U h2;cases o:eq a a2 with| none=>{simp[o] at h}| some r=>{have h3:=I a a2 u v r p t o;cases r with| false=>{simp[o] at h;subst h;simp[Op.eqItems,j,l,h3]}| true=>{simp[o] at h;have h4:=zD ok w I R U is b h;simp[Op.eqItems,j,l,h3,h4]}}};{cases h}}
theorem vD(ok:C.Ok P){σ:bG}(w:World){d:Nat}{eq:TypeId->Value->Value->Option Bool}
  (ih:∀t x y x' y' b,aV σ x x'->aV σ y y'->eq t x y=some b->(Op.equalIn d t x' y').run P w=.ok b w) {xs ys j l:List Value} (hx:aZ σ xs j) (hy:aZ σ ys l) :
  ∀(o:List Field) (b:Bool),(∀f∈o,f.name≠ "_")->eqFields C eq o xs ys=some b->(Op.eqFields d ⟨j⟩ ⟨l⟩ o).run P w=.ok b w
 | [],b,_,e=>by simp[eqFields] at e;subst e;simp[Op.eqFields]
 | f::o,b,hn,e=>by{unfold eqFields at e;split at e;{rename_i a a2 h1 h2;obtain⟨u,p,R⟩:=gn (P:=P) (w:=w) ok hx h1;obtain⟨v,I,U⟩:=gn (P:=P) (w:=w) ok hy h2;have i:f.name≠ "_":=hn f (by simp);cases J:eq f.type a a2 with| none=>{simp[J] at e}| some r=>{have h3:=ih f.type a a2 u v r R U J;cases r with| false=>{simp[J] at e;subst e;simp[Op.eqFields,i,p,I,h3]}| true=>{simp[J] at e;have h4:=vD ok w ih hx hy o b (λg hg=>hn g (by simp[hg])) e;simp[Op.eqFields,i,p,I,h3,h4]}}};{cases e}}
theorem xP(ok:C.Ok P){σ:bG}(w:World):∀(n d:Nat) (t:TypeId) (x y x' f:Value) (b:Bool),n<=d->aV σ x x'->aV σ y f->qv C n t x y=some b->
  (Op.equalIn d t x' f).run P w=.ok b w
 | 0,_,_,_,_,_,_,_,_,_,_,e=>by cases e
 | n+1,0,_,_,_,_,_,_,h,_,_,_=>by omega
 | n+1,d+1,t,x,y,x',f,b,h,g,j,e=>by
  unfold qv at e;split at e
  ·rename_i R xs ys hu;cases U:C.flat t with
   | false=>simp[U] at e
   | true=>
    simp only[U,xf] at e;obtain⟨h1,_,h3⟩:=ok.flat t U;cases xs with | mk xs=>
    cases ys with | mk ys=>
    obtain⟨l,rfl,o⟩:=g;obtain⟨p,rfl,r⟩:=j;have I:=aL ok hu;have J:P.fieldsOf t=R:=by simp[Program.fieldsOf,I]
    rw[run_equalIn_struct w d t ⟨l⟩ ⟨p⟩ (by rw[J];exact I) h1,J];exact vD ok w (λt x y x' f b g j e=>xP ok w n d t x y x' f b (by omega) g j e) o r R.toList b (h3 R hu) e
  ·rename_i len el xs ys hu;split at e
   ·rename_i s hs;cases xs with | mk xs=>
    cases ys with | mk ys=>
    obtain⟨l,rfl,o⟩:=g;obtain⟨p,rfl,r⟩:=j;obtain⟨i,hi,aa⟩:=pM ok hs;have hc:P.cellsOf el=s:=by simp[Program.cellsOf,hi,aa]
    rw[run_equalIn_array w d ⟨l⟩ ⟨p⟩ (aL ok hu) hi,hc];exact zD ok w (λx y x' f b g j e=>xP ok w n d el x y x' f b (by omega) g j e) o r _ b e
   ·cases e
  ·rename_i dd hu _ _;exact Ga ok w hu g j e d
  ·cases e
theorem Bb{h:au}{i:Nat}(e:live h i=true):∃cs,h.get i=some (.cells false cs):=by unfold live at e;split at e;{rename_i cs f;exact⟨cs,f⟩};{cases e}
theorem dT.frozen{σ:bG}{g:Nat->Option aC}{w:World}(s:dT σ g w){i:Nat}{cs:List Value}(p:g i=some (.cells false cs)){l:Loc}(r:σ i=some l) :
  (∀o f,w.frozen? ⟨l.cf,o,f⟩=false)/\∃t n,w.shape? l.cf=some (t,n):=by obtain⟨arr,ty,J,j,R,I,_⟩:=s.cells p r;obtain rfl:=I rfl;exact⟨λo f=>by simp[World.frozen?,j],ty,arr.size,by simp[World.shape?,j]⟩
theorem EN{σ:bG}{g:Nat->Option aC}{w:World}(s:dT σ g w){h:au}{a b i j:Nat}{la o:Loc}(ha:σ a=some la)(U:σ b=some o)
  (p:g a=h.get a) (t:g b=h.get b) {r:Bool}
  (e:(bif a==b then some (i==j) else bif live h a&&live h b then some false else none)=some r) :
  (sameAddr ⟨la.cf,la.off+i,none⟩ ⟨o.cf,o.off+j,none⟩).run P w=.ok r w:=by cases l:(a==b) with| true=>{obtain rfl:a=b:=by{simpa using l};rw[ha] at U;cases U;simp only[l,xf,pr] at e;subst e;have:((⟨la.cf,la.off+i,none⟩:Addr)==⟨la.cf,la.off+j,none⟩)=(i==j):=by{rw[Td];simp};simp[sameAddr,this]}| false=>{simp only[l,zy] at e;cases f:(live h a&&live h b) with| false=>{simp[f] at e}| true=>{simp only[f,xf,pr] at e;subst e;simp only[ti] at f;obtain⟨cs,I⟩:=Bb f.1;obtain⟨ds,J⟩:=Bb f.2;have ab:a≠b:=by{simpa using l};have R:=s.inj a b _ _ la o (p.trans I) (t.trans J) ab (.inl rfl) ha U;obtain⟨fa,ta,na,sa⟩:=s.frozen (p.trans I) ha;obtain⟨fb,tb,nb,sb⟩:=s.frozen (t.trans J) U;have ac:(la.cf==o.cf)=false:=by{simpa using R};simp[sameAddr,ac,fa,fb,noView,viewAt,sa,sb,mayBeOne,stringish]}}
theorem Hb(ok:C.Ok P){σ:bG}{g:Nat->Option aC}{w:World}(s:dT σ g w){h:au}{t:TypeId}{x x' y I:Value}{b:Bool}(o:aV σ x x')(f:aV σ y I)
  (J:∀a,x=.pointer (some a)->g a.block=h.get a.block) (R:∀a,y=.pointer (some a)->g a.block=h.get a.block)
  (e:equalA C h t x y=some b) (d:Nat) (hd:8<=d):(Op.equalIn (d+1) t x' I).run P w=.ok b w:=by
 unfold equalA at e;split at e
 ·rename_i el p hu;cases e;obtain rfl:=(show x'=_ from o);cases p with
  | none=>obtain rfl:=(show I=_ from f);simp[Op.equalIn,run_underlying (aL ok hu)]
  | some a=>obtain⟨l,_,_,rfl⟩:=f;simp[Op.equalIn,run_underlying (aL ok hu)]
 ·rename_i el p hu;cases e;obtain⟨l,_,_,rfl⟩:=o;obtain rfl:=(show I=_ from f);simp[Op.equalIn,run_underlying (aL ok hu)]
 ·rename_i el a i b2 j hu;split at e
  ·rename_i n hs;cases U:(n==0) with
   | true=>simp[U] at e
   | false=>
    simp only[U,zy] at e;obtain⟨la,aa,_,rfl⟩:=o;obtain⟨lb,ab,_,rfl⟩:=f;have:=EN (P:=P) s aa ab (J _ rfl) (R _ rfl) e;have ac:n≠0:=by simpa using U
    simp[Op.equalIn,run_underlying (aL ok hu),bP ok hs,ac,this]
  ·cases e
 ·rename_i ms hu;cases e;obtain rfl:=(show x'=_ from o);obtain rfl:=(show I=_ from f);simp[Op.equalIn,run_underlying (aL ok hu)]
 ·rename_i ms t' v hu;cases e;obtain rfl:=(show x'=_ from o);obtain⟨u,rfl,_⟩:=f;simp[Op.equalIn,run_underlying (aL ok hu)]
 ·rename_i ms t' v hu;cases e;obtain⟨u,rfl,_⟩:=o;obtain rfl:=(show I=_ from f);simp[Op.equalIn,run_underlying (aL ok hu)]
 ·rename_i el n c a n' c' hu;cases e;obtain⟨rfl,rfl,rfl⟩:=o;cases a with
  | none=>obtain⟨rfl,rfl,rfl⟩:=f;simp[Op.equalIn,run_underlying (aL ok hu)]
  | some a=>obtain⟨l,a',cap,_,_,rfl,_⟩:=f;simp[Op.equalIn,run_underlying (aL ok hu)]
 ·rename_i el a n c n' c' hu;cases e;obtain⟨l,a',cap,_,_,rfl,_⟩:=o;obtain⟨rfl,rfl,rfl⟩:=f;simp[Op.equalIn,run_underlying (aL ok hu)]
 ·rename_i kt et r hu;cases e;obtain rfl:=(show x'=_ from o);cases r with
  | none=>obtain rfl:=(show I=_ from f);simp[Op.equalIn,run_underlying (aL ok hu)]
  | some a=>obtain⟨l,_,rfl⟩:=f;simp[Op.equalIn,run_underlying (aL ok hu)]
 ·rename_i kt et r hu;cases e;obtain⟨l,_,rfl⟩:=o;obtain rfl:=(show I=_ from f);simp[Op.equalIn,run_underlying (aL ok hu)]
 ·rename_i hu;cases e;obtain rfl:=(show x'=_ from o);obtain rfl:=(show I=_ from f);simp[Op.equalIn,run_underlying (aL ok hu)]
 ·rename_i fn xs ys hu;cases e;obtain rfl:=(show x'=_ from o);cases xs with | mk xs=>
  cases ys with | mk ys=>
  obtain⟨_,_,rfl,_⟩:=f;simp[Op.equalIn,run_underlying (aL ok hu)]
 ·rename_i fn xs ys hu;cases e;cases xs with | mk xs=>
  cases ys with | mk ys=>
  obtain⟨_,_,rfl,_⟩:=o;obtain rfl:=(show I=_ from f);simp[Op.equalIn,run_underlying (aL ok hu)]
 ·exact xP ok w 8 (d+1) t _ _ x' I b (by omega) o f e
theorem ET(ok:C.Ok P){σ:bG}{g:Nat->Option aC}{w:World}(s:dT σ g w){h:au}{t:TypeId}{x x' y j:Value}{b:Bool}(l:aV σ x x')(o:aV σ y j)
  (f:∀a,x=.pointer (some a)->g a.block=h.get a.block) (i:∀a,y=.pointer (some a)->g a.block=h.get a.block)
  (e:equalA C h t x y=some b):(Op.equal t x' j).run P w=.ok b w:=
 Hb ok s l o f i e 9999 (by omega)
end
end Go.Abs