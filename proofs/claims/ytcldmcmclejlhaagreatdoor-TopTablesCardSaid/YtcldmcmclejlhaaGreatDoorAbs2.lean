/-
  The abstract machine is sound, second part: operators, maps, slices, stores.
-/
import Derived.Test.YtcldmcmclejlhaaGreatDoorAbs1
/-
 Soundness,sixth part: binary operators whole,map keys,look-ups,map stores.
-/
namespace Go.Abs
open Go
section
variable {C:Ctx}{P:Program}
def tag:Value->Nat
 | .bool _=>0 | .int _ _=>1 | .float _ _=>2 | .complex _ _ _=>3 | .string _=>4 | .pointer _=>5 | .slice _ _ _=>6 | .map _=>7 | .chan _=>8
 | .func _ _ _=>9 | .nilFunc=>10 | .iface _ _=>11 | .nilIface=>12 | .agg _=>13 | .tuple _=>14
theorem aX.tag{σ:bD}:∀{v v':Value},aX σ v v'->tag v'=tag v
 | .bool _,_,h=>by rw[show _=_ from h]
 | .int _ _,_,h=>by rw[show _=_ from h]
 | .float _ _,_,h=>by rw[show _=_ from h]
 | .complex _ _ _,_,h=>by rw[show _=_ from h]
 | .string _,_,h=>by rw[show _=_ from h]
 | .pointer none,_,h=>by rw[show _=_ from h]
 | .pointer (some _),_,⟨l,a,b,e⟩=>by subst e;rfl
 | .slice none _ _,_,⟨a,b,e⟩=>by subst e;rfl
 | .slice (some _) _ _,_,⟨l,j,c,a,b,e,r⟩=>by subst e;rfl
 | .map none,_,h=>by rw[show _=_ from h]
 | .map (some _),_,⟨l,a,e⟩=>by subst e;rfl
 | .func _ ⟨_⟩ ⟨_⟩,_,⟨g,i,e,r,s⟩=>by subst e;rfl
 | .nilFunc,_,h=>by rw[show _=_ from h]
 | .iface _ _,_,⟨u,e,r⟩=>by subst e;rfl
 | .nilIface,_,h=>by rw[show _=_ from h]
 | .agg ⟨_⟩,_,⟨cs,e,r⟩=>by subst e;rfl
 | .tuple ⟨_⟩,_,⟨cs,e,r⟩=>by subst e;rfl
theorem sX{v:Value}(h:tag v=12):v=.nilIface:=by cases v<;>first | rfl | cases h
theorem IW{v:Value}(h:tag v=13):∃xs,v=.agg xs:=by cases v<;>first | exact⟨_,rfl⟩ | cases h
theorem Ie{σ:bD}{xs:Array Value}{v':Value}(h:aX σ (.agg xs) v'):∃ys,v'=.agg ys:=by
 cases xs with | mk xs=>obtain⟨ys,rfl,_⟩:=h;exact⟨_,rfl⟩
theorem Al(ok:C.Ok P){σ:bD}(w:World){op:BinOp}{t:TypeId}{i j:Operand}{x x' y l:Value}(o:aX σ x x')(r:aX σ y l)
  (g:op=.eql\/op=.neq) (e:jH C t i j x y=true):(eqGuard op t i j x' l).run P w=.ok () w:=by
 have hm:(op matches .eql | .neq)=true:=by rcases g with rfl | rfl<;>rfl
 unfold jH at e;split at e
 ·obtain rfl:=(show x'=_ from o);obtain rfl:=(show l=_ from r);rcases g with rfl | rfl<;>
  ·split at e
   ·simp[eqGuard]
   ·split at e
    ·cases i<;>simp[eqGuard]
    ·cases e
 ·obtain⟨I,rfl⟩:=Ie o;obtain⟨J,rfl⟩:=Ie r;exact run_eqGuard_agg w op t i j I J (ok.flat t e).2.1
 ·rename_i h1 h2;have key:∀a b:Value,(a=.nilIface->b=.nilIface->False)->(∀p q,a=.agg p->b=.agg q->False)->(eqGuard op t i j a b).run P w=.ok () w:=by
   intro a b g1 g2;rcases g with rfl | rfl<;>
   ·cases a<;>cases b<;>first
     | (simp[eqGuard];done)
     | exact(g1 rfl rfl).elim
     | exact(g2 _ _ rfl rfl).elim
  refine key x' l (λR U=>?_) (λp q R U=>?_)
  ·exact h1 (sX (by rw[<-o.tag,R];rfl)) (sX (by rw[<-r.tag,U];rfl))
  ·obtain⟨a,aa⟩:=IW (v:=x) (by rw[<-o.tag,R];rfl);obtain⟨b,ab⟩:=IW (v:=y) (by rw[<-r.tag,U];rfl);exact h2 a b aa ab
theorem qy{σ:bD}{x x':Value}{k:IntKind}{n:Int}(p:x'=.int k n)(h:aX σ x x'):x=.int k n:=by
 subst p;have g:=h.tag;cases x<;>first | (cases (show Value.int k n=_ from h);rfl) | cases g
theorem jI{σ:bD}{x x':Value}{s:ByteArray}(p:x'=.string s)(h:aX σ x x'):x=.string s:=by
 subst p;have g:=h.tag;cases x<;>first | (cases (show Value.string s=_ from h);rfl) | cases g
theorem pQ{h:au}{t:TypeId}{x y:Value}{b:Bool}(e:equalA C h t x y=some b)(g:tag x=2):False:=by
 (cases x<;>first | cases g | skip);(unfold equalA at e;split at e<;>first | (rename_i q;cases q;done) | skip);(all_goals first | contradiction | skip);unfold rD at e;split at e;{contradiction};{contradiction};{unfold fL at e;split at e<;>first | contradiction | cases e};{cases e}
theorem mI{h:au}{t:TypeId}{x y:Value}{b:Bool}(e:equalA C h t x y=some b)(g:tag x=3):False:=by
 (cases x<;>first | cases g | skip);(unfold equalA at e;split at e<;>first | (rename_i q;cases q;done) | skip);(all_goals first | contradiction | skip);unfold rD at e;split at e;{contradiction};{contradiction};{unfold fL at e;split at e<;>first | contradiction | cases e};{cases e}
theorem MU(w:World)(t:TypeId)(a b:Value)(g1:∀k n g m,a=.int k n->b=.int g m->False)(g2:∀c d,a=.string c->b=.string d->False)
  (g3:tag a=2->tag b=2->False) (g4:tag a=3->tag b=3->False) :
  (binOp .eql t a b).run P w=((Op.equal t a b).run P w).andThen λr w=>.ok (.bool r) w:=by
 have:binOp .eql t a b=(do pure (.bool (<-Op.equal t a b))):=by{cases a<;>cases b<;>first | rfl | exact(g1 _ _ _ _ rfl rfl).elim | exact(g2 _ _ rfl rfl).elim | exact(g3 rfl rfl).elim | exact(g4 rfl rfl).elim};rw[this];simp
theorem M9(w:World)(t:TypeId)(a b:Value)(g1:∀k n g m,a=.int k n->b=.int g m->False)(g2:∀c d,a=.string c->b=.string d->False)
  (g3:tag a=2->tag b=2->False) (g4:tag a=3->tag b=3->False) :
  (binOp .neq t a b).run P w=((Op.equal t a b).run P w).andThen λr w=>.ok (.bool !r) w:=by
 have:binOp .neq t a b=(do pure (.bool (!(<-Op.equal t a b)))):=by{cases a<;>cases b<;>first | rfl | exact(g1 _ _ _ _ rfl rfl).elim | exact(g2 _ _ rfl rfl).elim | exact(g3 rfl rfl).elim | exact(g4 rfl rfl).elim};rw[this];simp
theorem OM(ok:C.Ok P){σ:bD}{g:Nat->Option aJ}{w:World}(s:cM σ g w){h:au}{op:BinOp}{t:TypeId}{J R:Operand}{x x' y r v:Value}
  (i:aX σ x x') (j:aX σ y r) (U:∀a,x=.pointer (some a)->g a.block=h.get a.block) (aa:∀a,y=.pointer (some a)->g a.block=h.get a.block)
  (e:mw C h op t J R x y=some v) :
  (eqGuard op t J R x' r).run P w=.ok () w/\(binOp op t x' r).run P w=.ok v w/\plain v=true:=by
 have gd:∀{op:BinOp} {a b:Value},(op≠.eql/\op≠.neq)\/(∀c d:Value,¬(a=.nilIface/\b=.nilIface))/\(∀p q,¬(a=.agg p/\b=.agg q))->(eqGuard op t J R a b).run P w=.ok () w:=by
  intro op a b hh;rcases hh with ⟨h1,l⟩ | ⟨h1,l⟩
  ·cases op<;>first | exact absurd rfl h1 | exact absurd rfl l | simp[eqGuard]
  ·cases op<;>first
    | (simp[eqGuard];done)
    | (cases a<;>cases b<;>first
      | (simp[eqGuard];done)
      | exact absurd ⟨rfl,rfl⟩ (h1 .nilFunc .nilFunc)
      | exact absurd ⟨rfl,rfl⟩ (l _ _))
 unfold mw at e;split at e
 ·obtain rfl:=(show x'=_ from i);obtain rfl:=(show r=_ from j);obtain⟨h1,l⟩:=Fy (P:=P) w t e;exact⟨gd (.inl ⟨by simp,by simp⟩),h1,l⟩
 ·obtain rfl:=(show x'=_ from i);obtain rfl:=(show r=_ from j);obtain⟨h1,l⟩:=Fy (P:=P) w t e;exact⟨gd (.inl ⟨by simp,by simp⟩),h1,l⟩
 ·rename_i op k a k' b n1 n2;obtain rfl:=(show x'=_ from i);obtain rfl:=(show r=_ from j);split at e
  ·rename_i hk;subst hk;obtain⟨h1,l⟩:=Je (P:=P) w (λh=>n1 h) (λh=>n2 h) t e;exact⟨gd (.inr ⟨by simp,by simp⟩),h1,l⟩
  ·cases e
 ·obtain rfl:=(show x'=_ from i);obtain rfl:=(show r=_ from j);obtain⟨h1,l⟩:=Ee (P:=P) w t e;exact⟨gd (.inr ⟨by simp,by simp⟩),h1,l⟩
 ·rename_i n1 n2 n3;cases I:jH C t J R x y with
  | false=>simp[I] at e
  | true=>
   simp only[I,xf] at e;cases o:equalA C h t x y with
   | none=>simp[o] at e
   | some b=>
    simp[o] at e;subst e;refine⟨Al ok w i j (.inl rfl) I,?_,rfl⟩;have:=FU ok s i j U aa o;rw[MU w t x' r (λk a k' b p q=>n2 k a k' b (qy p i) (qy q j)) (λa b p q=>n3 a b (jI p i) (jI q j))
     (λp q=>pQ o (by rw[<-i.tag];exact p)) (λp q=>mI o (by rw[<-i.tag];exact p))]
    simp[this]
 ·rename_i n1 n2 n3;cases I:jH C t J R x y with
  | false=>simp[I] at e
  | true=>
   simp only[I,xf] at e;cases o:equalA C h t x y with
   | none=>simp[o] at e
   | some b=>
    simp[o] at e;subst e;refine⟨Al ok w i j (.inr rfl) I,?_,rfl⟩;have:=FU ok s i j U aa o;rw[M9 w t x' r (λk a k' b p q=>n2 k a k' b (qy p i) (qy q j)) (λa b p q=>n3 a b (jI p i) (jI q j))
     (λp q=>pQ o (by rw[<-i.tag];exact p)) (λp q=>mI o (by rw[<-i.tag];exact p))]
    simp[this]
 ·cases e
end
end Go.Abs
/-
 Soundness,seventh part: keys,look-ups and stores of maps.
-/
namespace Go.Abs
open Go
section
variable {C:Ctx}{P:Program}
theorem ER{σ:bD}{x x':Value}{b:Bool}(p:x'=.bool b)(h:aX σ x x'):x=.bool b:=by
 subst p;have g:=h.tag;cases x<;>first | (cases (show Value.bool b=_ from h);rfl) | cases g
theorem tX(ok:C.Ok P){σ:bD}(w:World)(empty:Bool){d:Nat}{g:TypeId->Value->Bool}
  (I:∀t x x',aX σ x x'->g t x=true->(Instr.checkKey empty d t x').run P w=.ok () w) {xs i:List Value} (J:aV σ xs i) :
  ∀(j:List Field),kZ C g j xs=true->
   (forIn j PUnit.unit (λf _=>if f.name≠ "_" then (do
    let x <-part f.type ⟨i⟩ f.offset
    Instr.checkKey empty d f.type x
    pure (ForInStep.yield PUnit.unit)) else (pure (ForInStep.yield PUnit.unit):Sem (ForInStep PUnit)))).run P w=.ok () w
 | [],_=>by simp
 | f::j,e=>by{unfold kZ at e;simp only[tx] at e;obtain⟨o,U⟩:=e;split at o;{rename_i a h1;obtain⟨u,p,r⟩:=gr (P:=P) (w:=w) ok J h1;have h3:=I f.type a u r o;have l:=tX ok w empty I J j U;rw[List.forIn_cons];by_cases R:f.name≠ "_";{simp[R,p,h3] at l ⊢;exact l};{simp[R] at l ⊢;exact l}};{cases o}}
theorem wj(ok:C.Ok P){σ:bD}(w:World)(empty:Bool){d el s:Nat}(hs:C.size el=some s){g:Value->Bool}
  (r:∀x x',aX σ x x'->g x=true->(Instr.checkKey empty d el x').run P w=.ok () w) {xs j:List Value} (t:aV σ xs j) :
  ∀(is:List Nat),mS C g el s xs is=true->
   (forIn is PUnit.unit (λi _=>(do
    let n <-sizeOf el;let x <-part el ⟨j⟩ (i*n)
    Instr.checkKey empty d el x
    pure (ForInStep.yield PUnit.unit):Sem (ForInStep PUnit)))).run P w=.ok () w
 | [],_=>by simp
 | i::is,e=>by{unfold mS at e;simp only[tx] at e;obtain⟨l,J⟩:=e;split at l;{rename_i a h1;obtain⟨u,o,p⟩:=gr (P:=P) (w:=w) ok t h1;have R:=r a u p l;have I:=wj ok w empty hs r t is J;rw[List.forIn_cons];simp[bV ok hs,o,R] at I ⊢;exact I};{cases l}}
theorem vg(ok:C.Ok P){σ:bD}(w:World)(empty:Bool):∀(n d:Nat) (t:TypeId) (x x':Value),n<=d->aX σ x x'->eD C n t x=true->
  (Instr.checkKey empty d t x').run P w=.ok () w
 | 0,_,_,_,_,_,_,e=>by cases e
 | n+1,0,_,_,_,h,_,_=>by omega
 | n+1,d+1,t,x,x',h,i,e=>by
  unfold eD at e;split at e
  ·rename_i l xs hu;cases xs with | mk xs=>
   obtain⟨j,rfl,g⟩:=i;have:=tX ok w empty (λt x x' i e=>vg ok w empty n d t x x' (by omega) i e) g l.toList e;simp only[Instr.checkKey,Sem.run_bind,run_underlying (aQ ok hu),Result.andThen_ok];rw[<-Array.forIn_toList,this];simp
  ·rename_i len el xs hu;split at e
   ·rename_i s hs;cases xs with | mk xs=>
    obtain⟨j,rfl,g⟩:=i;have:=wj ok w empty hs (λx x' i e=>vg ok w empty n d el x x' (by omega) i e) g (List.range len) e;simp only[Instr.checkKey,Sem.run_bind,run_underlying (aQ ok hu),Result.andThen_ok];simp only[Std.Legacy.Range.forIn_eq_forIn_range',Std.Legacy.Range.size,Nat.sub_zero,Nat.add_one_sub_one,Nat.div_one];rw[<-List.range_eq_range'];rw[this];simp
   ·cases e
  ·rename_i o hu _ _;cases o<;>first | (simp[sC] at e;done) | (simp[Instr.checkKey,run_underlying (aQ ok hu)])
  ·cases e
def OL(σ:bD):Option (Nat×Value)->Option (Nat×Value)->Prop
 | none,q=>q=none
 | some (j,v),q=>∃v',q=some (j,v')/\aX σ v v'
theorem rA(ok:C.Ok P){σ:bD}(w:World){t:TypeId}{k j:Value}(hk:aX σ k j):∀(es:List (Value×Value)) (g:List MapEntry) (i:Nat) (r:Option (Nat×Value)),
  cW σ es g->eY C t k es i=some r->∃q,(Instr.findAsking t j g i).run P w=.ok q w/\OL σ r q
 | [],g,i,r,h,e=>by{rw[show g=[] from h];simp[eY] at e;subst e;exact⟨none,by simp[Instr.findAsking],rfl⟩}
 | (k2,v)::es,g,i,r,h,e=>by{obtain⟨l,rest,rfl,h1,p,I⟩:=h;unfold eY at e;split at e;{rename_i o;cases e;have:=zA ok w 8 10000 t k k2 j l.key true (by omega) hk h1 o;exact⟨_,by simp[Instr.findAsking,Op.equal,Op.maxDepth,this],⟨l.val,rfl,p⟩⟩};{rename_i o;have:=zA ok w 8 10000 t k k2 j l.key false (by omega) hk h1 o;obtain⟨q,J,R⟩:=rA ok w hk es rest (i+1) r I e;exact⟨q,by simpa [Instr.findAsking,Op.equal,Op.maxDepth,this] using J,R⟩};{cases e}}
theorem HL{σ:bD}{t:TypeId}{d:TypeDesc}(hu:C.iL t=some d){k x k2 y:Value}{b:Bool}(hk:aX σ k x)(i:aX σ k2 y)(g:Instr.sameNow d x y=some b) :
  rD C 8 t k k2=some b:=by
 unfold Instr.sameNow at g;split at g;{obtain rfl:=qy rfl hk;obtain rfl:=qy rfl i;simp[rD,hu,fL,g]};{obtain rfl:=jI rfl hk;obtain rfl:=jI rfl i;simp[rD,hu,fL,g]};{obtain rfl:=ER rfl hk;obtain rfl:=ER rfl i;simp[rD,hu,fL,g]};{cases g}
theorem A2{σ:bD}{t:TypeId}{d:TypeDesc}(hu:C.iL t=some d){k l:Value}(hk:aX σ k l):∀(es:List (Value×Value)) (g:List MapEntry) (i:Nat)
  (r:Option (Nat×Value)) (q:Option (Nat×Value)),cW σ es g->eY C t k es i=some r->Instr.findNow d l g i=some q->OL σ r q
 | [],g,i,r,q,h,e,j=>by{rw[show g=[] from h] at j;simp[eY] at e;subst e;simp[Instr.findNow] at j;exact j.symm}
 | (k2,v)::es,g,i,r,q,h,e,j=>by{obtain⟨o,rest,rfl,h1,p,I⟩:=h;unfold eY at e;unfold Instr.findNow at j;cases hs:Instr.sameNow d l o.key with| none=>{simp[hs] at j}| some b=>{have J:=HL (C:=C) hu hk h1 hs;rw[J] at e;cases b with| true=>{simp[hs] at e j;subst e;exact⟨o.val,j.symm,p⟩}| false=>{simp only[hs] at e j;exact A2 hu hk es rest (i+1) r q I e j}}}
theorem gx(ok:C.Ok P){σ:bD}(w:World){t:TypeId}{k i:Value}(hk:aX σ k i){es:List (Value×Value)}{g:List MapEntry}{r:Option (Nat×Value)}
  (h:cW σ es g) (e:eY C t k es 0=some r) (d:TypeDesc) (hu:C.iL t=some d):∃q,(Instr.findKey t i g).run P w=.ok q w/\OL σ r q:=by
 cases j:Instr.findNow d i g 0 with| none=>{obtain⟨q,l,o⟩:=rA ok w hk es g 0 r h e;exact⟨q,by simpa [Instr.findKey,run_underlying (aQ ok hu),j] using l,o⟩}| some q=>{exact⟨q,by simp[Instr.findKey,run_underlying (aQ ok hu),j],A2 hu hk es g 0 r q h e j⟩}
theorem qJ{n:Nat}{t:TypeId}{x:Value}(e:eD C n t x=true):∃d,C.iL t=some d:=by
 cases n with| zero=>{cases e}| succ n=>{unfold eD at e;cases h:C.iL t with| none=>{simp[h] at e}| some d=>{exact⟨d,rfl⟩}}
theorem oh:∀{n:Nat} {t:TypeId} {x:Value},eD C n t x=true->cm x=false
 | 0,_,_,e=>by cases e
 | n+1,t,x,e=>by{unfold eD at e;split at e;{rfl};{rfl};{simp only[tx,TZ] at e;exact e.2};{cases e}}
theorem qt{x:Value×Value}(g:cm x.1=false):∀(es:List (Value×Value)) (j:Nat),alive (aO x es j)=(alive es).set j x
 | [],j=>by simp[alive,aO]
 | (k,v)::es,j=>by{cases hk:cm k with| true=>{cases j<;>simp[alive,aO,hk,qt g es]}| false=>{cases j with| zero=>{obtain⟨a,b⟩:=x;simp only at g;simp[alive,aO,hk,g]}| succ j=>{simp[alive,aO,hk,qt g es j]}}}
theorem rZ{x:Value×Value}(g:cm x.1=true):∀(es:List (Value×Value)) (j:Nat),alive (aO x es j)=(alive es).eraseIdx j
 | [],j=>by simp[alive,aO]
 | (k,v)::es,j=>by{cases hk:cm k with| true=>{cases j<;>simp[alive,aO,hk,rZ g es]}| false=>{cases j with| zero=>{obtain⟨a,b⟩:=x;simp only at g;simp[alive,aO,hk,g]}| succ j=>{simp[alive,aO,hk,rZ g es j]}}}
theorem nU{x:Value×Value}(g:cm x.1=false):∀(es:List (Value×Value)) (n j:Nat),stamps n (aO x es j)=stamps n es
 | [],n,j=>by simp[aO]
 | (k,v)::es,n,j=>by{cases hk:cm k with| true=>{cases j<;>simp[stamps,aO,hk,nU g es]}| false=>{cases j with| zero=>{obtain⟨a,b⟩:=x;simp only at g;simp[stamps,aO,hk,g]}| succ j=>{simp[stamps,aO,hk,nU g es _ j]}}}
theorem pH{x:Value×Value}(g:cm x.1=true):∀(es:List (Value×Value)) (n j:Nat),stamps n (aO x es j)=(stamps n es).eraseIdx j
 | [],n,j=>by simp[stamps,aO]
 | (k,v)::es,n,j=>by{cases hk:cm k with| true=>{cases j<;>simp[stamps,aO,hk,pH g es]}| false=>{cases j with| zero=>{obtain⟨a,b⟩:=x;simp only at g;simp[stamps,aO,hk,g]}| succ j=>{simp[stamps,aO,hk,pH g es _ j]}}}
theorem jh{x:Value×Value}:∀(es:List (Value×Value)) (j:Nat),(aO x es j).length=es.length
 | [],j=>by simp[aO]
 | (k,v)::es,j=>by{cases hk:cm k with| true=>{cases j<;>simp[aO,hk,jh es]}| false=>{cases j<;>simp[aO,hk,jh es]}}
theorem sI{k v:Value}(hk:cm k=false):∀(es:List (Value×Value)),alive (es++[(k,v)])=alive es++[(k,v)]
 | []=>by simp[alive,hk]
 | (g,v0)::es=>by cases i:cm g<;>simp[alive,i,sI hk es]
theorem pW{k v:Value}(hk:cm k=false):∀(es:List (Value×Value)) (n:Nat),stamps n (es++[(k,v)])=stamps n es++[n+es.length]
 | [],n=>by simp[stamps,hk]
 | (g,v0)::es,n=>by{have:=pW (k:=k) (v:=v) hk es (n+1);cases i:cm g<;>simp[stamps,i,this]<;>omega}
theorem Aa:∀(es:List (Value×Value)),∀p∈alive es,cm p.1=false
 | [],p,h=>by cases h
 | (k,v)::es,p,h=>by{cases hk:cm k with| true=>{simp[alive,hk] at h;exact Aa es p h}| false=>{simp[alive,hk] at h;rcases h with rfl | h;{exact hk};{exact Aa es p h}}}
theorem HW{σ:bD}{g:Nat->Option aJ}{w:World}(s:cM σ g w){h:au}{x x':Value}(j:aX σ x x')(o:∀r,x=.map (some r)->g r=h.get r)
  {es:List (Value×Value)} (e:gv h x=some es) :
  ∃i:Array MapEntry,cW σ es i.toList/\((x'=.map none/\i=#[])\/∃r clock,x'=.map (some r)/\w.heap[r]?=some (.map i clock)):=by
 unfold gv at e;split at e;{cases e;obtain rfl:=(show _=_ from j);exact⟨#[],rfl,.inl ⟨rfl,rfl⟩⟩};{rename_i r;split at e;{rename_i p he;cases e;obtain⟨l,t,rfl⟩:=j;obtain⟨i,h1,I,_⟩:=s.Cq ((o _ rfl).trans he) t;exact⟨i,I,.inr ⟨_,_,rfl,h1⟩⟩};{cases e}};{cases e}
theorem Kg(ok:C.Ok P){σ:bD}{g:Nat->Option aJ}{w:World}(s:cM σ g w){h:au}{t:TypeId}{x x' k k' v:Value}{b:Bool}(hx:aX σ x x')(hk:aX σ k k')
  (hg:∀r,x=.map (some r)->g r=h.get r) (e:gZ C h t x k b=some v) :
  ∃v',(Instr.lookup t x' k' b).run P w=.ok v' w/\aX σ v v':=by
 unfold gZ at e;split at e
 ·rename_i kt et es hu he;obtain⟨R,U,l⟩:=HW s hx hg he;cases o:eD C 8 kt k with
  | false=>simp[o] at e
  | true=>
   simp only[o,Uz,zm] at e;have h1:=λem=>vg ok w em 8 10000 kt k k' (by omega) hk o;obtain⟨d,hd⟩:=qJ o;have p:∀r clock,w.heap[r]?=some (.map R clock)->(getObj r).run P w=.ok (.map R clock) w:=λr clock hw=>by simp[getObj,Sem.run,hw]
   split at e
   ·rename_i j v0 hf;obtain⟨q,I,v',rfl,q2⟩:=gx ok w hk U hf d hd;cases b with
    | true=>
     cases e
     exact⟨.tuple #[v',.bool true],(by
      rcases l with ⟨rfl,rfl⟩ | ⟨r,clock,rfl,hw⟩
      ·have i:=I;simp at i;simp[Instr.lookup,run_underlying (aQ ok hu),h1,i]
      ·simp[Instr.lookup,run_underlying (aQ ok hu),p r clock hw,h1,I]),⟨_,rfl,⟨v',_,rfl,q2,⟨_,_,rfl,rfl,rfl⟩⟩⟩⟩
    | false=>
     cases e
     exact⟨v',(by
      rcases l with ⟨rfl,rfl⟩ | ⟨r,clock,rfl,hw⟩
      ·have i:=I;simp at i;simp[Instr.lookup,run_underlying (aQ ok hu),h1,i]
      ·simp[Instr.lookup,run_underlying (aQ ok hu),p r clock hw,h1,I]),q2⟩
   ·rename_i hf;obtain⟨q,I,q2⟩:=gx ok w hk U hf d hd;obtain rfl:=(show q=none from q2);split at e
    ·rename_i z hz;have J:=eN ok hz w;have aa:=gD σ z (ij ok hz);cases b with
     | true=>
      cases e;exact⟨.tuple #[z,.bool false],(by
      rcases l with ⟨rfl,rfl⟩ | ⟨r,clock,rfl,hw⟩
      ·have i:=I;simp at i;simp[Instr.lookup,run_underlying (aQ ok hu),h1,i,J]
      ·simp[Instr.lookup,run_underlying (aQ ok hu),p r clock hw,h1,I,J]),⟨_,rfl,⟨z,_,rfl,aa,⟨_,_,rfl,rfl,rfl⟩⟩⟩⟩
     | false=>
      cases e;exact⟨z,(by
      rcases l with ⟨rfl,rfl⟩ | ⟨r,clock,rfl,hw⟩
      ·have i:=I;simp at i;simp[Instr.lookup,run_underlying (aQ ok hu),h1,i,J]
      ·simp[Instr.lookup,run_underlying (aQ ok hu),p r clock hw,h1,I,J]),aa⟩
    ·cases e
   ·cases e
 ·cases e
end
end Go.Abs
/-
 Soundness,eighth part: a map is written;what two values that read alike are.
-/
namespace Go.Abs
open Go
mutual
theorem iU:∀{a b:Value},cg a b=true->a=b
 | .bool a,b,h=>by cases b<;>first | (simp[cg] at h;done) | (simp[cg] at h;subst h;rfl)
 | .int k a,b,h=>by cases b<;>first | (simp[cg] at h;done) | (simp[cg] at h;obtain⟨rfl,rfl⟩:=h;rfl)
 | .float k a,b,h=>by cases b<;>first | (simp[cg] at h;done) | (simp[cg] at h;obtain⟨rfl,rfl⟩:=h;rfl)
 | .complex k a c,b,h=>by cases b<;>first | (simp[cg] at h;done) | (simp[cg] at h;obtain⟨⟨rfl,rfl⟩,rfl⟩:=h;rfl)
 | .string a,b,h=>by
  cases b<;>first | (simp[cg] at h;done) | skip
  rename_i b;cases a with | mk a=>
  cases b with | mk b=>
  simp[cg] at h;rw[h]
 | .pointer a,b,h=>by cases b<;>first | (simp[cg] at h;done) | (simp[cg] at h;subst h;rfl)
 | .slice a n c,b,h=>by cases b<;>first | (simp[cg] at h;done) | (simp[cg] at h;obtain⟨⟨rfl,rfl⟩,rfl⟩:=h;rfl)
 | .map a,b,h=>by cases b<;>first | (simp[cg] at h;done) | (simp[cg] at h;subst h;rfl)
 | .chan a,b,h=>by cases b<;>first | (simp[cg] at h;done) | (simp[cg] at h;subst h;rfl)
 | .func f ⟨xs⟩ ⟨ys⟩,b,h=>by
  cases b<;>first | (simp[cg] at h;done) | skip
  rename_i g i j;cases i with | mk i=>
  cases j with | mk j=>
  simp only[cg,tx,T5] at h;obtain⟨⟨rfl,h1⟩,l⟩:=h;rw[jA h1,jA l]
 | .nilFunc,b,h=>by cases b<;>first | (simp[cg] at h;done) | rfl
 | .iface t v,b,h=>by
  cases b<;>first | (simp[cg] at h;done) | skip
  simp only[cg,tx,T5] at h;obtain⟨rfl,h1⟩:=h;rw[iU h1]
 | .nilIface,b,h=>by cases b<;>first | (simp[cg] at h;done) | rfl
 | .agg ⟨xs⟩,b,h=>by
  cases b<;>first | (simp[cg] at h;done) | skip
  rename_i ys;cases ys with | mk ys=>
  simp only[cg] at h;rw[jA h]
 | .tuple ⟨xs⟩,b,h=>by
  cases b<;>first | (simp[cg] at h;done) | skip
  rename_i ys;cases ys with | mk ys=>
  simp only[cg] at h;rw[jA h]
theorem jA:∀{a b:List Value},jg a b=true->a=b
 | [],b,h=>by cases b<;>first | rfl | simp[jg] at h
 | x::xs,b,h=>by{cases b with| nil=>{simp[jg] at h}| cons y ys=>{simp only[jg,tx] at h;rw[iU h.1,jA h.2]}}
end
theorem Cl:∀{a b:List (Value×Value)},oS a b=true->a=b
 | [],b,h=>by cases b<;>first | rfl | simp[oS] at h
 | (x,y)::xs,b,h=>by{cases b with| nil=>{simp[oS] at h}| cons z zs=>{obtain⟨g,z2⟩:=z;simp only[oS,tx] at h;rw[iU h.1.1,iU h.1.2,Cl h.2]}}
theorem pz{a b:Option aJ}(h:lW a b=true):a=b:=by
 unfold lW at h;split at h;{rfl};{simp only[tx,T5] at h;rw[h.1,jA h.2]};{rw[Cl h]};{cases h}
section
variable {C:Ctx}{P:Program}
theorem cM.change{σ:bD}{g:Nat->Option aJ}{w R:World}(s:cM σ g w){i:Nat}{b b':aJ}{l:Loc}(hg:g i=some b)(t:b.ro=false)(I:b'.ro=false)(hl:σ i=some l)
  (hw:∀k,k≠l.bQ->R.heap[k]?=w.heap[k]?) (hb:om σ R l b'):cM σ (dx g i (some b')) R where
 bQ:=λj c o=>by
  by_cases p:j=i
  ·subst p;rw[cu] at o;cases o;exact⟨l,hl,hb⟩
  ·rw[dB _ _ p] at o;obtain⟨m,hm,r⟩:=s.bQ j c o;exact⟨m,hm,r.world (hw m.bQ (s.inj j i c b m l o hg p (.inr t) hm hl))⟩
 inj:=λj k c d lj lk o hd U hr aa ab=>by
  have key:∀j c,dx g i (some b') j=some c->∃J,g j=some J/\J.ro=c.ro:=by
   intro j c o;by_cases p:j=i
   ·subst p;rw[cu] at o;cases o;exact⟨_,hg,by rw[t,I]⟩
   ·rw[dB _ _ p] at o;exact⟨c,o,rfl⟩
  obtain⟨J,h1,h2⟩:=key j c o;obtain⟨d0,h3,h4⟩:=key k d hd;exact s.inj j k J d0 lj lk h1 h3 U (by rw[h2,h4];exact hr) aa ab
theorem Ev.change{σ:bD}{g:Nat->Option aJ}{w p:World}{i:Nat}{b b':aJ}{l:Loc}(n:Nat)(R:g i=some b)(r:b.ro=false)(hl:σ i=some l)
  (I:p.heap.size=w.heap.size) (hw:∀k,k≠l.bQ->p.heap[k]?=w.heap[k]?) (J:p.os=w.os) (t:p.output=w.output) (o:jF w p) :
  Ev σ g n w σ (dx g i (some b')) n p where
 size:=Nat.le_of_eq I.symm
 os:=J
 out:=t
 tape:=o
 oL:=λk _ hn=>hw k (Ne.symm (hn i _ l R r hl))
 own:=λj B m U hr hs=>by
  by_cases hj:j=i
  ·subst hj;exact .inr ⟨j,_,m,R,r,hs,rfl⟩
  ·rw[dB _ _ hj] at U;exact .inr ⟨j,B,m,U,hr,hs,rfl⟩
 sig:=λ_ _=>rfl
theorem oJ(w:World)(a b:Value):∃k g,(Instr.keyThatStays a b).run P w=.ok k g/\(k=a\/k=b)/\g.heap=w.heap/\g.os=w.os/\g.output=w.output/\jF w g:=by
 unfold Instr.keyThatStays;by_cases h:Instr.sameBits 10000 a b=true;{exact⟨b,w,by simp[h],.inr rfl,rfl,rfl,rfl,.rfl⟩};{simp only[h,Un,Sem.run_bind,run_choose,TT];split;{refine⟨_,_,rfl,?_,rfl,rfl,rfl,⟨rfl,by first | exact mc _ | exact VW _⟩⟩;simp};{refine⟨_,_,rfl,?_,rfl,rfl,rfl,⟨rfl,by first | exact mc _ | exact VW _⟩⟩;split<;>simp}}
theorem cW.get{σ:bD}:∀{es:List (Value×Value)} {l:List MapEntry},cW σ es l->∀(i:Nat) (k v:Value),es[i]?=some (k,v)->∃e,l[i]?=some e/\aX σ k e.key/\aX σ v e.val
 | [],_,_,i,k,v,h=>by simp at h
 | (g,v0)::es,_,⟨e,r,q,a,b,s⟩,i,k,v,h=>by{subst q;cases i with| zero=>{simp at h;obtain⟨rfl,rfl⟩:=h;exact⟨e,rfl,a,b⟩}| succ i=>{exact cW.get s i k v (by simpa using h)}}
theorem cW.set{σ:bD}{k v:Value}{e:MapEntry}(hk:aX σ k e.key)(g:aX σ v e.val):∀{es:List (Value×Value)} {l:List MapEntry} (i:Nat),cW σ es l->cW σ (es.set i (k,v)) (l.set i e)
 | [],_,_,h=>by rw[show _=[] from h];simp[cW]
 | (_,_)::_,_,0,⟨a,r,q,_,_,s⟩=>by subst q;exact⟨e,r,rfl,hk,g,s⟩
 | (_,_)::_,_,i+1,⟨a,r,q,x,y,s⟩=>by subst q;exact⟨a,r.set i e,rfl,x,y,cW.set hk g i s⟩
theorem cW.push{σ:bD}{k v:Value}{e:MapEntry}(hk:aX σ k e.key)(g:aX σ v e.val):∀{es:List (Value×Value)} {l:List MapEntry},cW σ es l->cW σ (es++[(k,v)]) (l++[e])
 | [],_,h=>by rw[show _=[] from h];exact⟨e,[],rfl,hk,g,rfl⟩
 | (_,_)::_,_,⟨a,r,q,x,y,s⟩=>by subst q;exact⟨a,r++[e],rfl,x,y,cW.push hk g s⟩
theorem Gl{α:Type}{l:List α}{i:Nat}{x:α}(h:l[i]?=some x):l.set i x=l:=by
 apply Tn;intro j;by_cases g:j=i;{subst g;rw[xk (No.1 h).1,h]};{rw[yf (Ne.symm g)]}
theorem y7{l:List MapEntry}{i:Nat}{e:MapEntry}(h:l[i]?=some e):(l.map (·.born)).set i e.born=l.map (·.born):=by
 apply Tn;intro j;by_cases o:j=i;{subst o;have g:=(No.1 h).1;rw[xk (by simpa using g),zy,h];rfl};{rw[yf (Ne.symm o)]}
theorem map_eraseIdx{α β:Type}(f:α->β):∀(l:List α) (i:Nat),(l.eraseIdx i).map f=(l.map f).eraseIdx i
 | [],_=>by simp
 | a::l,0=>by simp
 | a::l,i+1=>by simp[map_eraseIdx f l i]
theorem rR{α:Type}(a:Array α)(i:Nat)(f:α->α)(x:α)(h:a.toList[i]?=some x):(a.modify i f).toList=a.toList.set i (f x):=by
 apply Tn;intro j;rw[TK,Array.getElem?_modify,UM];have hi:i<a.toList.length:=(No.1 h).1;split;{rename_i g;subst g;rw[TK] at h;rw[h];rfl};{rw[TK]}
theorem run_setObj_map(w:World)(r:Nat)(es:Array MapEntry)(clock:Nat)(hw:w.heap[r]?=some (.map es clock))(o:Obj) :
  (setObj r o).run P w=.ok () { w with heap:=w.heap.setIfInBounds r o }:=by
 simp[setObj,Sem.run,hw]
theorem tg(ok:C.Ok P){σ:bD}{h J:au}{w:World}(s:cM σ h.get w){t:TypeId}{m m' k k' v v':Value}(hm:aX σ m m')(hk:aX σ k k')(hv:aX σ v v')
  (e:cO C h t m k v=some J) :
  ∃w',(Instr.mapUpdate t m' k' v').run P w=.ok () w'/\J.next=h.next/\cM σ J.get w'/\Ev σ h.get h.next w σ J.get J.next w':=by
 unfold cO at e;split at e
 ·rename_i kt et r hu;split at e
  ·rename_i es he;cases p:eD C 8 kt k with
   | false=>simp[p] at e
   | true=>
    simp only[p,Uz,zm] at e;obtain⟨l,hl,rfl⟩:=hm;obtain⟨g,h1,h2,al⟩:=s.Cq he hl;have R:=oh p;obtain⟨d,hd⟩:=qJ p;have an:=vg ok w false 8 10000 kt k k' (by omega) hk p;have ao:(getObj l.bQ).run P w=.ok (.map g es.length) w:=by simp[getObj,Sem.run,h1]
    have a1:l.bQ<w.heap.size:=(Tr.1 h1).1;have put:∀(o:World) (x:List (Value×Value)) (y:Array MapEntry) (c:Nat),o.heap=w.heap->o.os=w.os->o.output=w.output->jF w o->c=x.length->cW σ (alive x) y.toList->y.toList.map (·.born)=stamps 0 x->
      let J:=h.put r (some (.map x));let w':World:={ o with heap:=o.heap.setIfInBounds l.bQ (.map y c) }
      J.next=h.next/\cM σ J.get w'/\Ev σ h.get h.next w σ J.get J.next w':=by
     intro o x y c hh ho hp ht hc hx hb;subst hc;have U:∀j,j≠l.bQ->(o.heap.setIfInBounds l.bQ (.map y x.length))[j]?=w.heap[j]?:=by
      intro j hj;rw[hh,T0 (Ne.symm hj)]
     have ar:(o.heap.setIfInBounds l.bQ (.map y x.length))[l.bQ]?=some (.map y x.length):=by
      rw[hh,UP,n0 a1]
     refine⟨rfl,?_,?_⟩
     ·rw[au.eF];exact s.change he rfl rfl hl U ⟨y,ar,hx,hb⟩
     ·rw[au.eF];exact Ev.change _ he rfl hl (by simp[hh]) U ho hp ⟨ht.same,ht.more⟩
    split at e
    ·rename_i i v0 hf;obtain⟨q,q1,v1,rfl,q2⟩:=gx ok w hk h2 hf d hd;split at e
     ·rename_i k2 v2 a5;cases ac:cg k2 k with
      | false=>simp[ac] at e
      | true=>
       simp only[ac,xf,sw] at e;subst e;obtain rfl:=iU ac;obtain⟨en,ad,b1,b2⟩:=h2.get i k2 v2 a5;have ax:g[i]?=some en:=by simpa using ad
       obtain⟨key,o,kr,a6,kh,ko,kp,a7⟩:=oJ (P:=P) w en.key k';have ay:aX σ k2 key:=by rcases a6 with rfl | rfl<;>assumption
       have aa:=rR g i (λe=>{ e with key,val:=v' }) en (by simpa using ad);have I:cW σ (alive (aO (k2,v) es i)) (g.modify i λe=>{ e with key,val:=v' }).toList:=by
        rw[aa,qt R];exact cW.set (e:={ en with key,val:=v' }) ay hv i h2
       have ae:(g.modify i λe=>{ e with key,val:=v' }).toList.map (·.born)=stamps 0 (aO (k2,v) es i):=by
        rw[aa,nU R,<-al,T9];exact y7 (e:=en) ad
       obtain⟨p1,p2,p3⟩:=put o _ _ es.length kh ko kp a7 (jh _ _).symm I ae;refine⟨_,?_,p1,p2,p3⟩;have bb:o.heap[l.bQ]?=some (.map g es.length):=by rw[kh];exact h1
       simp[Instr.mapUpdate,run_underlying (aQ ok hu),ao,an,q1,ax,kr,run_setObj_map (P:=P) o l.bQ g es.length bb]
     ·cases e
    ·rename_i hf;obtain⟨q,q1,q2⟩:=gx ok w hk h2 hf d hd;obtain rfl:=(show q=none from q2);cases e;have I:cW σ (alive (es++[(k,v)])) (g.push { key:=k',val:=v',born:=es.length }).toList:=by
      rw[VS,sI R];exact cW.push (e:={ key:=k',val:=v',born:=es.length }) hk hv h2
     have ae:(g.push { key:=k',val:=v',born:=es.length }).toList.map (·.born)=stamps 0 (es++[(k,v)]):=by
      rw[VS,Th,al,pW R];simp
     obtain⟨p1,p2,p3⟩:=put w _ _ (es.length+1) rfl rfl rfl .rfl (by simp) I ae;refine⟨_,?_,p1,p2,p3⟩;simp[Instr.mapUpdate,run_underlying (aQ ok hu),ao,an,q1,run_setObj_map (P:=P) w l.bQ g es.length h1]
    ·cases e
  ·cases e
 ·cases e
theorem cW.erase{σ:bD}:∀{es:List (Value×Value)} {l:List MapEntry} (i:Nat),cW σ es l->cW σ (es.eraseIdx i) (l.eraseIdx i)
 | [],l,i,h=>by rw[show l=[] from h];simp;rfl
 | (k,v)::es,l,0,h=>by{obtain⟨j,rest,rfl,h1,o,g⟩:=h;simpa using g}
 | (k,v)::es,l,i+1,h=>by{obtain⟨j,rest,rfl,h1,o,g⟩:=h;simp only[List.eraseIdx_cons_succ];exact⟨j,_,rfl,h1,o,cW.erase i g⟩}
theorem Jq(ok:C.Ok P){σ:bD}{h p:au}{w:World}(s:cM σ h.get w){t:TypeId}{ts:List TypeId}(ty:TypeId){m m' k k':Value}(hm:aX σ m m')(hk:aX σ k k')
  (e:kL C h t m k=some p) :
  ∃J,(Builtin.delete_ ⟨t::ts⟩ ty #[m',k']).run P w=.ok (.tuple #[]) J/\p.next=h.next/\cM σ p.get J/\Ev σ h.get h.next w σ p.get p.next J:=by
 unfold kL at e;split at e
 ·rename_i kt et r hu;split at e
  ·rename_i es he;cases o:eD C 8 kt k with
   | false=>simp[o] at e
   | true=>
    simp only[o,Uz,zm] at e;obtain⟨l,hl,rfl⟩:=hm;obtain⟨g,h1,h2,R⟩:=s.Cq he hl;have a4:=oh o;obtain⟨d,hd⟩:=qJ o;have U:=λb=>vg ok w b 8 10000 kt k k' (by omega) hk o;have aa:(getObj l.bQ).run P w=.ok (.map g es.length) w:=by simp[getObj,Sem.run,h1]
    have al:l.bQ<w.heap.size:=(Tr.1 h1).1;have put:∀(x:List (Value×Value)) (y:Array MapEntry),es.length=x.length->cW σ (alive x) y.toList->y.toList.map (·.born)=stamps 0 x->
      let p:=h.put r (some (.map x));let J:World:={ w with heap:=w.heap.setIfInBounds l.bQ (.map y es.length) }
      p.next=h.next/\cM σ p.get J/\Ev σ h.get h.next w σ p.get p.next J:=by
     intro x y hc hx hb;have I:∀j,j≠l.bQ->(w.heap.setIfInBounds l.bQ (.map y es.length))[j]?=w.heap[j]?:=by
      intro j hj;rw[T0 (Ne.symm hj)]
     have ab:(w.heap.setIfInBounds l.bQ (.map y es.length))[l.bQ]?=some (.map y es.length):=by
      rw[UP,n0 al]
     refine⟨rfl,?_,?_⟩
     ·rw[au.eF];exact s.change he rfl rfl hl I ⟨y,by rw[<-hc];exact ab,hx,hb⟩
     ·rw[au.eF];exact Ev.change _ he rfl hl (by simp) I rfl rfl .rfl
    split at e
    ·rename_i i v0 hf;obtain⟨q,q1,v1,rfl,q2⟩:=gx ok w hk h2 hf d hd;simp only[sw] at e;subst e;have ac:(g.eraseIdxIfInBounds i).toList=g.toList.eraseIdx i:=by simp
     have ad:cW σ (alive (aO (bX,bX) es i)) (g.eraseIdxIfInBounds i).toList:=by
      rw[ac,rZ rfl];exact cW.erase i h2
     have ar:(g.eraseIdxIfInBounds i).toList.map (·.born)=stamps 0 (aO (bX,bX) es i):=by
      rw[ac,pH rfl,<-R,map_eraseIdx]
     obtain⟨p1,p2,p3⟩:=put _ _ (jh _ _).symm ad ar;refine⟨_,?_,p1,p2,p3⟩;simp[Builtin.delete_,run_underlying (aQ ok hu),aa,U,q1,run_setObj_map (P:=P) w l.bQ g es.length h1]
    ·rename_i hf;obtain⟨q,q1,q2⟩:=gx ok w hk h2 hf d hd;obtain rfl:=(show q=none from q2);simp only[sw] at e;subst e;obtain⟨p1,p2,p3⟩:=put _ _ rfl h2 R;refine⟨_,?_,p1,p2,p3⟩;simp[Builtin.delete_,run_underlying (aQ ok hu),aa,U,q1,run_setObj_map (P:=P) w l.bQ g es.length h1]
    ·cases e
  ·cases e
 ·cases e
theorem Eu(ok:C.Ok P){σ:bD}{h h':au}{w:World}(s:cM σ h.get w){t:TypeId}{m m' k k' v:Value}(hm:aX σ m m')(hk:aX σ k k')
  (e:eX C h t m k=some (v,h')) :
  ∃v' w',(Instr.mapEntry t m' k').run P w=.ok v' w'/\aX σ v v'/\h'.next=h.next/\cM σ h'.get w'/\Ev σ h.get h.next w σ h'.get h'.next w':=by
 unfold eX at e;split at e
 ·rename_i kt et r hu;split at e
  ·rename_i es he;cases p:eD C 8 kt k with
   | false=>simp[p] at e
   | true=>
    simp only[p,Uz,zm] at e;obtain⟨l,hl,rfl⟩:=hm;obtain⟨g,h1,h2,ac⟩:=s.Cq he hl;have ar:=oh p;obtain⟨d,hd⟩:=qJ p;have av:=vg ok w false 8 10000 kt k k' (by omega) hk p;have ax:(getObj l.bQ).run P w=.ok (.map g es.length) w:=by simp[getObj,Sem.run,h1]
    have a6:l.bQ<w.heap.size:=(Tr.1 h1).1;have put:∀(o:World) (g2:Nat->Option aJ) (x:List (Value×Value)) (y:Array MapEntry) (c:Nat),o.heap=w.heap->o.os=w.os->o.output=w.output->jF w o->g2=dx h.get r (some (.map x))->c=x.length->cW σ (alive x) y.toList->y.toList.map (·.born)=stamps 0 x->
      let w':World:={ o with heap:=o.heap.setIfInBounds l.bQ (.map y c) }
      cM σ g2 w'/\Ev σ h.get h.next w σ g2 h.next w':=by
     intro o g2 x y c hh ho hp ht ad hc hx hb;subst hc;subst ad;have U:∀j,j≠l.bQ->(o.heap.setIfInBounds l.bQ (.map y x.length))[j]?=w.heap[j]?:=by
      intro j hj;rw[hh,T0 (Ne.symm hj)]
     have ay:(o.heap.setIfInBounds l.bQ (.map y x.length))[l.bQ]?=some (.map y x.length):=by
      rw[hh,UP,n0 a6]
     exact⟨s.change he rfl rfl hl U ⟨y,ay,hx,hb⟩,Ev.change _ he rfl hl (by simp[hh]) U ho hp ⟨ht.same,ht.more⟩⟩
    split at e
    ·rename_i i v0 hf;obtain⟨q,q1,v1,rfl,q2⟩:=gx ok w hk h2 hf d hd;split at e
     ·rename_i k2 v2 n a0 a1;cases ae:cg k2 k with
      | false=>simp[ae] at e
      | true=>
       simp only[ae,xf,sw,Tk] at e;obtain⟨rfl,rfl⟩:=e;obtain rfl:=iU ae;obtain⟨J,R,b6,bc⟩:=h2.get i k2 v2 a0;have a2:g[i]?=some J:=by simpa using R
       have af:J.born=n:=by
        rw[<-ac,zy,R] at a1;simpa using a1
       obtain⟨key,o,kr,bd,kh,ko,kp,bf⟩:=oJ (P:=P) w J.key k';have a3:aX σ k2 key:=by rcases bd with rfl | rfl<;>assumption
       have aa:=rR g i (λe=>{ e with key }) J (by simpa using R);have I:cW σ (alive es) (g.modify i λe=>{ e with key }).toList:=by
        rw[aa];have:=cW.set (e:={ J with key }) a3 bc i h2
        rwa [show (alive es).set i (k2,v2)=alive es from Gl a0] at this
       have ag:(g.modify i λe=>{ e with key }).toList.map (·.born)=stamps 0 es:=by
        rw[aa,<-ac,T9];exact y7 (e:=J) R
       have ad:h.get=dx h.get r (some (.map es)):=by
        funext j;unfold dx;split
        ·rename_i hj;rw[hj];exact he
        ·rfl
       obtain⟨p2,p3⟩:=put o h.get es _ es.length kh ko kp bf ad rfl I ag;have bo:o.heap[l.bQ]?=some (.map g es.length):=by rw[kh];exact h1
       refine⟨.tuple #[v1,.int .i64 J.born],_,?_,?_,rfl,p2,p3⟩
       ·simp[Instr.mapEntry,run_underlying (aQ ok hu),ax,av,q1,a2,kr,run_setObj_map (P:=P) o l.bQ g es.length bo,goInt]
       ·exact⟨[v1,.int .i64 J.born],rfl,v1,_,rfl,q2,.int .i64 J.born,[],rfl,by rw[af];rfl,rfl⟩
     ·cases e
    ·rename_i hf;obtain⟨q,q1,q2⟩:=gx ok w hk h2 hf d hd;obtain rfl:=(show q=none from q2);split at e
     ·rename_i z hz;simp only[sw,Tk] at e;obtain⟨rfl,rfl⟩:=e;have br:=eN ok hz w;have a4:=gD σ z (ij ok hz);have I:cW σ (alive (es++[(k,z)])) (g.push { key:=k',val:=z,born:=es.length }).toList:=by
       rw[VS,sI ar];exact cW.push (e:={ key:=k',val:=z,born:=es.length }) hk a4 h2
      have ag:(g.push { key:=k',val:=z,born:=es.length }).toList.map (·.born)=stamps 0 (es++[(k,z)]):=by
       rw[VS,Th,ac,pW ar];simp
      obtain⟨p2,p3⟩:=put w _ (es++[(k,z)]) _ (es.length+1) rfl rfl rfl .rfl (au.eF ..) (by simp) I ag;refine⟨.tuple #[z,.int .i64 es.length],_,?_,?_,rfl,p2,p3⟩
      ·simp[Instr.mapEntry,run_underlying (aQ ok hu),ax,av,q1,br,run_setObj_map (P:=P) w l.bQ g es.length h1,goInt]
      ·exact⟨[z,.int .i64 es.length],rfl,z,_,rfl,a4,.int .i64 es.length,[],rfl,rfl,rfl⟩
     ·cases e
    ·cases e
  ·cases e
 ·cases e
theorem A6{σ:bD}{h J:au}{w:World}(s:cM σ h.get w)(t:TypeId){m m' n n' v v':Value}(hm:aX σ m m')(hn:aX σ n n')(hv:aX σ v v')
  (e:eG h m n v=some J) :
  ∃w',(Instr.entryStore t m' n' v').run P w=.ok () w'/\J.next=h.next/\cM σ J.get w'/\Ev σ h.get h.next w σ J.get J.next w':=by
 unfold eG at e;split at e
 ·rename_i r kd b;obtain rfl:=(show n'=_ from hn);split at e
  ·rename_i es he;obtain⟨l,hl,rfl⟩:=hm;obtain⟨g,h1,h2,R⟩:=s.Cq he hl;have an:(getObj l.bQ).run P w=.ok (.map g es.length) w:=by simp[getObj,Sem.run,h1]
   have ao:l.bQ<w.heap.size:=(Tr.1 h1).1;split at e
   ·rename_i j hj;split at e
    ·rename_i k v0 U;cases e;have aa:=Aa es _ (Uj U);have ab:cm (k,v).1=false:=aa;obtain⟨en,ac,av,_⟩:=h2.get j k v0 U;have I:g.findIdx? (λe=>((e.born:Int)==b))=some j:=by
      rw[<-R,List.findIdx?_map] at hj;cases g with | mk l0=>
      rw[List.findIdx?_toArray];exact hj
     have o:=rR g j (λe=>{ e with val:=v' }) en (by simpa using ac);have ad:cW σ (alive (aO (k,v) es j)) (g.modify j λe=>{ e with val:=v' }).toList:=by
      rw[o,qt ab];exact cW.set (e:={ en with val:=v' }) av hv j h2
     have ax:(g.modify j λe=>{ e with val:=v' }).toList.map (·.born)=stamps 0 (aO (k,v) es j):=by
      rw[o,nU ab,<-R,T9];exact y7 (e:=en) ac
     have ay:=jh (x:=(k,v)) es j;have p:∀i,i≠l.bQ->(w.heap.setIfInBounds l.bQ (.map (g.modify j λe=>{ e with val:=v' }) es.length))[i]?=w.heap[i]?:=by
      intro i hi;rw[T0 (Ne.symm hi)]
     have ae:(w.heap.setIfInBounds l.bQ (.map (g.modify j λe=>{ e with val:=v' }) es.length))[l.bQ]?=some (.map (g.modify j λe=>{ e with val:=v' }) es.length):=by
      rw[UP,n0 ao]
     refine⟨{ w with heap:=w.heap.setIfInBounds l.bQ (.map (g.modify j λe=>{ e with val:=v' }) es.length) },?_,rfl,?_,?_⟩
     ·have a0:(asInt (.int kd b)).run P w=.ok b w:=rfl;unfold Instr.entryStore;simp only[Sem.run_bind,an,Result.andThen_ok,a0,I,run_setObj_map (P:=P) w l.bQ g es.length h1]
     ·rw[au.eF];exact s.change he rfl rfl hl p ⟨_,by rw[ay];exact ae,ad,ax⟩
     ·rw[au.eF];exact Ev.change _ he rfl hl (by simp) p rfl rfl .rfl
    ·cases e
   ·cases e
  ·cases e
 ·cases e
end
end Go.Abs
/-
 Soundness,ninth part: stores,struct and slice literals,make.
-/
namespace Go.Abs
open Go
section
variable {C:Ctx}{P:Program}
theorem Eh{σ:bD}:∀{vs g:List Value},aV σ vs g->vs.all one=true->∀v∈g,v.oneCell'=true
 | [],_,h,_,v,hv=>by rw[show _=[] from h] at hv;cases hv
 | x::xs,_,⟨a,b,q,r,s⟩,i,v,hv=>by{subst q;simp only[List.all_cons,tx] at i;rcases PJ.1 hv with rfl | hv;{exact r.one i.1};{exact Eh s i.2 v hv}}
theorem vX{σ:bD}{g:Nat->Option aJ}{w:World}(s:cM σ g w){b off:Nat}{cs vs i:List Value}{l:Loc}(o:g b=some (.cells false cs))(p:σ b=some l)
  (r:aV σ vs i) (j:vs.all one=true) (hle:off+vs.length<=cs.length) (n:Nat) :
  ∃t,(storeCells ⟨l.bQ,l.off+off,none⟩ i).run P w=.ok () t/\cM σ (dx g b (some (.cells false (bp cs off vs)))) t/\
   Ev σ g n w σ (dx g b (some (.cells false (bp cs off vs)))) n t:=by
 obtain⟨arr,ty,fr,h1,h2,J,R,U⟩:=s.cells o p;obtain rfl:=J rfl;have hlen:=r.length;have I:=run_storeCells_at P l.bQ (l.off+off) ty i 0 arr w h1 (by omega) (Eh r j);refine⟨_,I,?_,Ev.write n o p _⟩;refine s.write o p h1 _ ?_ ?_ ?_;{simp;omega};{rw[lf cs vs off hle];simp;omega};{rw[lf cs vs off hle];have:=HR arr.toList i cs l.off off (by rw[hlen];exact hle) (by simpa using R);simp only[UA];rw[this];exact U.L4 off r}
theorem Mc(ok:C.Ok P){σ:bD}{g:Nat->Option aJ}{w:World}(s:cM σ g w){h h':au}{t:TypeId}{p p' v v':Value}(hp:aX σ p p')(hv:aX σ v v')
  (e:vd C h t p v=some h') (hg:∀a,p=.pointer (some a)->g a.block=h.get a.block) (n:Nat) :
  ∃b cs,(∃o,p=.pointer (some ⟨b,o,none⟩))/\h'=h.put b (some (.cells false cs))/\
   ∃i,(Instr.storeAt t p' v').run P w=.ok () i/\cM σ (dx g b (some (.cells false cs))) i/\Ev σ g n w σ (dx g b (some (.cells false cs))) n i:=by
 unfold vd at e;split at e;{rename_i b off;split at e;{rename_i cs I hb hs;cases r:(v.cells.toList.length==I&&v.cells.toList.all one&&Nat.ble (off+I) cs.length) with| false=>{simp only[r,zm] at e;cases e}| true=>{simp only[r,xf,sw] at e;simp only[tx,T5,Ve] at r;obtain⟨⟨J,R⟩,ag⟩:=r;obtain⟨l,hl,_,rfl⟩:=hp;have j:=hv.cells;have U:σ b=some l:=hl;obtain⟨i,q1,q2,q3⟩:=vX (P:=P) (off:=off) s ((hg _ rfl).trans hb) U j R (by omega) n;refine⟨b,_,⟨off,rfl⟩,e.symm,i,?_,q2,q3⟩;have aa:v'.cells.size=I:=by{have:=j.length;simp only[UO] at this J;omega};simp[Instr.storeAt,Instr.sureAddr,storeVar,bV ok hs,aa,q1]}};{cases e}};{cases e}
theorem tZ(off:Nat):∀(vs:List Value) (j:Nat) (cs:Array Value),off+j+vs.length<=cs.size->
  ((vs.zipIdx j).foldl (λcs (p:Value×Nat)=>cs.setIfInBounds (off+p.2) p.1) cs).toList=bp cs.toList (off+j) vs
 | [],j,cs,_=>by simp[bp]
 | v::vs,j,cs,h=>by{simp only[List.zipIdx_cons,V9];simp only[IT] at h;rw[tZ off vs (j+1) (cs.setIfInBounds (off+j) v) (by simp;omega)];have e:=list_seg_step cs.toList (off+j) v vs (by simp;omega);simp only[bp,Array.toList_setIfInBounds,IT];simpa [UJ] using e}
theorem xW{σ:bD}{place place':Nat->Option (Nat×Nat)}(g:∀i x,place i=some x->place' i=some x):∀(parts:List (Nat×Value)) (parts':List (Nat×Value)) (cs:List Value) (cs':Array Value) (r:List Value),
  parts'.map (·.1)=parts.map (·.1)->aV σ (parts.map (·.2)) (parts'.map (·.2))->aV σ cs cs'.toList->mO place cs parts=some r->
  ∃l,Instr.fill place' cs' parts'=some l/\aV σ r l.toList
 | [],parts',cs,cs',r,h1,_,o,e=>by{have:parts'=[]:=by{simpa using h1};subst this;cases e;exact⟨cs',rfl,o⟩}
 | (i,v)::parts,parts',cs,cs',r,h1,h2,o,e=>by{cases parts' with| nil=>{simp at h1}| cons p parts'=>{obtain⟨i',v'⟩:=p;simp only[y2,T1] at h1;obtain⟨rfl,h1⟩:=h1;simp only[y2] at h2;obtain⟨a,b,q,hv,I⟩:=h2;simp only[T1] at q;obtain⟨rfl,rfl⟩:=q;unfold mO at e;cases hp:place i' with| none=>{simp[hp] at e}| some x=>{obtain⟨off,size⟩:=x;simp only[hp] at e;cases t:(v.cells.toList.length==size&&Nat.ble (off+size) cs.length) with| false=>{simp only[t,zm] at e;cases e}| true=>{simp only[t,xf] at e;simp only[tx,T5,Ve] at t;have j:=hv.cells;have J:=j.length;have R:=o.length;simp only[UO] at J R t;have U:(v'.cells.zipIdx.foldl (λcs (p:Value×Nat)=>cs.setIfInBounds (off+p.2) p.1) cs').toList=bp cs'.toList off v'.cells.toList:=by{have:=tZ off v'.cells.toList 0 cs' (by simp;omega);rw[<-Array.foldl_toList,Array.toList_zipIdx];simpa using this};obtain⟨l,q1,q2⟩:=xW g parts parts' (bp cs off v.cells.toList) (v'.cells.zipIdx.foldl (λcs (p:Value×Nat)=>cs.setIfInBounds (off+p.2) p.1) cs') r h1 I (by rw[U];exact o.L4 off j) e;refine⟨l,?_,q2⟩;simp only[Instr.fill,g i' _ hp];rw[nw (by simp only[T7,TQ];omega)];exact q1}}}}
theorem yg(z:Array Value):∀n,((Array.range (n*z.size)).map (λi=>z[i % z.size]!)).toList=dH z.toList n:=by
 intro n;rw[Array.toList_map,Array.toList_range];induction n with| zero=>{simp[dH]}| succ n g=>{have:(n+1)*z.size=z.size+n*z.size:=by{rw[TO];omega};rw[this,List.range_add,Th,dH];congr 1;{apply Tn;intro i;rw[zy];by_cases hi:i<z.size;{rw[TN hi];simp[Nat.mod_eq_of_lt hi,hi]};{rw[zE (by simp;omega),zE (by simp;omega)];rfl}};{rw[<-g,Us];apply Uc;intro i _;simp}}
theorem jW{z:List Value}(h:gk z=true):∀n,gk (dH z n)=true
 | 0=>rfl
 | n+1=>by{have:∀(a b:List Value),gk a=true->gk b=true->gk (a++b)=true:=by{intro a b g i;induction a with| nil=>{simpa using i}| cons x xs j=>{simp only[gk,tx,TI] at g ⊢;exact⟨g.1,j g.2⟩}};exact this _ _ h (jW h n)}
theorem gq{z:Value}(h:plain z=true):gk z.cells.toList=true:=by
 cases z<;>first|(rename_i cs;cases cs;simpa only[plain,Value.cells] using h)|(simp only[Value.cells,gk,h,Uh];done)|(simp[plain] at h;done)
theorem BJ(ok:C.Ok P):∀(g:List Field) (ps:List (Nat×Nat)),places C g=some ps->∀w,(g.mapM (λf=>do pure (f.offset,<-sizeOf f.type):Field->Sem (Nat×Nat))).run P w=.ok ps w
 | [],ps,e,w=>by cases e;simp
 | f::g,ps,e,w=>by{unfold places at e;split at e;{rename_i n r h1 i;cases e;have:=BJ ok g r i w;simp only[List.mapM_cons,Sem.run_bind,bV ok h1,Result.andThen_ok,Sem.run_pure,this]};{cases e}}
theorem KR(ok:C.Ok P){σ:bD}(w:World){t:TypeId}{parts:List (Nat×Value)}{parts':Array (Nat×Value)}{v:Value}
  (h1:parts'.toList.map (·.1)=parts.map (·.1)) (R:aV σ (parts.map (·.2)) (parts'.toList.map (·.2))) (e:uY C t parts=some v) :
  ∃v',(Instr.build t parts').run P w=.ok v' w/\aX σ v v':=by
 unfold uY at e;split at e;{rename_i z fields l hu;split at e;{rename_i ps p;cases g:mO (λi=>ps[i]?) z.cells.toList parts with| none=>{simp[g] at e}| some cs=>{simp[g] at e;subst e;obtain⟨o,r,I⟩:=xW (σ:=σ) (place:=λi=>ps[i]?) (place':=(ps.toArray[·]?)) (by intro i x h;simpa using h) parts parts'.toList _ z.cells _ h1 R (dz σ _ (gq (ij ok l))) g;have J:(fields.mapM (λf=>do pure (f.offset,<-sizeOf f.type):Field->Sem (Nat×Nat))).run P w=.ok ps.toArray w:=by{have:=BJ ok fields.toList ps p w;rw[Array.mapM_eq_mapM_toList,Sem.run_map,this];rfl};refine⟨.agg o,?_,⟨o.toList,rfl,I⟩⟩;simp only[Instr.build,Sem.run_bind,eN ok l,Result.andThen_ok,run_underlying (aQ ok hu),J,r,Sem.run_pure]}};{cases e}};{rename_i z n el l hu;split at e;{rename_i j hs;cases g:mO (λi=>some (i*j,j)) z.cells.toList parts with| none=>{simp[g] at e}| some cs=>{simp[g] at e;subst e;obtain⟨o,r,I⟩:=xW (σ:=σ) (place:=λi=>some (i*j,j)) (place':=λi=>some (i*j,j)) (by intro i x h;exact h) parts parts'.toList _ z.cells _ h1 R (dz σ _ (gq (ij ok l))) g;refine⟨.agg o,?_,⟨o.toList,rfl,I⟩⟩;simp only[Instr.build,Sem.run_bind,eN ok l,Result.andThen_ok,run_underlying (aQ ok hu),bV ok hs,r,Sem.run_pure]}};{cases e}};{cases e}
end
end Go.Abs
/-
 Soundness,tenth part: operations that lay a block.
-/
namespace Go.Abs
open Go
section
variable {C:Ctx}{P:Program}
def Lays(P:Program)(σ:bD)(g:Nat->Option aJ)(n:Nat)(w:World)(b:aJ)(v:Value)(j:Sem Value):Prop:=
 ∃l v' i,j.run P w=.ok v' i/\aX (dx σ n (some l)) v v'/\cM (dx σ n (some l)) (dx g n (some b)) i/\Ev σ g n w (dx σ n (some l)) (dx g n (some b)) (n+1) i/\
  l.bQ=w.heap.size/\i.heap.size=w.heap.size+1
theorem ng{σ:bD}{g:Nat->Option aJ}{w:World}(s:cM σ g w){n:Nat}(j:σ n=none)(elem:TypeId){cs:List Value}{cs':Array Value}(l:aV σ cs cs'.toList)
  {i:Sem Value} {v:Value} {f:Value} (o:i.run P w=.ok f (w.alloc (.cells cs' elem))) (p:aX (dx σ n (some ⟨w.heap.size,0,cs'.size⟩)) v f) :
  Lays P σ g n w (.cells false cs) v i:=by
 obtain⟨h1,r⟩:=EV s j elem l;exact⟨⟨w.heap.size,0,cs'.toList.length⟩,f,_,o,by simpa using p,h1,r,rfl,by simp⟩
theorem K3(ok:C.Ok P){σ:bD}{g:Nat->Option aJ}{w:World}(s:cM σ g w){n:Nat}(j:σ n=none){t:TypeId}{z:Value}(i:C.zero t=some z) :
  Lays P σ g n w (.cells false z.cells.toList) (.pointer (some ⟨n,0,none⟩)) (Instr.alloc t true (.tuple #[])):=by
 refine ng s j t (dz σ _ (gq (ij ok i))) (f:=.pointer (some ⟨w.heap.size,0,none⟩)) ?_ (Iw σ n _ rfl);simp[Instr.alloc,eN ok i,newVar,newRow]
theorem OA{σ:bD}{g:Nat->Option aJ}{w:World}(s:cM σ g w){n:Nat}(i:σ n=none)(t:TypeId){x x':Value}(j:aX σ x x') :
  Lays P σ g n w (.cells false x.cells.toList) (.pointer (some ⟨n,0,none⟩)) (Instr.box t x'):=by
 refine ng s i t j.cells (f:=.pointer (some ⟨w.heap.size,0,none⟩)) ?_ (Iw σ n _ rfl);simp[Instr.box,newVar,newRow]
theorem Ia{σ:bD}{g:Nat->Option aJ}{w:World}(s:cM σ g w){n:Nat}(i:σ n=none)(t:TypeId) :
  Lays P σ g n w (.map []) (.map (some n)) (Instr.makeMap t none):=by
 have hold:∀b,b<w.heap.size->(w.alloc (.map #[] 0)).heap[b]?=w.heap[b]?:=λb j=>heap_alloc_old w _ b j;refine⟨⟨w.heap.size,0,0⟩,.map (some w.heap.size),w.alloc (.map #[] 0),?_,⟨_,cu _ _ _,rfl⟩,s.alloc i rfl hold ⟨#[],heap_alloc_new w _,rfl,rfl⟩, Ev.alloc rfl (by simp) hold rfl rfl .rfl _,rfl,by simp⟩;simp[Instr.makeMap]
theorem mM(σ:bD)(n:Nat)(b len cap c size:Nat)(hle:len<=cap)(i:c=0->cap=0)(g:cap*c<=size) :
  aX (dx σ n (some ⟨b,0,size⟩)) (.slice (some ⟨n,0,none⟩) len c) (.slice (some ⟨b,0,none⟩) len cap):=
 ⟨⟨b,0,size⟩,⟨b,0,none⟩,cap,cu _ _ _,rfl,rfl,hle,i,λ_=>⟨rfl,by simpa using g⟩⟩
theorem og(z:List Value):∀n,(dH z n).length=n*z.length
 | 0=>by simp[dH]
 | n+1=>by rw[dH,sj,og z n,TO];omega
theorem tM{place:Nat->Option (Nat×Nat)}:∀{parts:List (Nat×Value)} {cs r:List Value},mO place cs parts=some r->r.length=cs.length
 | [],cs,r,e=>by cases e;rfl
 | (i,v)::parts,cs,r,e=>by{unfold mO at e;split at e;{cases e};{rename_i off size hp;cases g:(v.cells.toList.length==size&&Nat.ble (off+size) cs.length) with| false=>{simp only[g,zm] at e;cases e}| true=>{simp only[g,xf] at e;simp only[tx,T5,Ve] at g;rw[tM e,lf _ _ _ (by omega)]}}}
theorem Bg(ok:C.Ok P){σ:bD}{g:Nat->Option aJ}{w:World}(s:cM σ g w){h h':au}(hn:σ h.next=none){t:TypeId}{len:Nat}{parts:List (Nat×Value)}
  {parts':Array (Nat×Value)} {v:Value} (h1:parts'.toList.map (·.1)=parts.map (·.1)) (h2:aV σ (parts.map (·.2)) (parts'.toList.map (·.2)))
  (e:iI C h t len parts=some (v,h')) :
  ∃b,b.ro=false/\h'=h.alloc b/\Lays P σ g h.next w b v (Instr.buildSlice t len parts'):=by
 unfold iI at e;split at e;{rename_i el hu;split at e;{rename_i n z hs hz;cases U:(Nat.ble (len*n) 16777216&&Nat.blt 0 n) with| false=>{simp only[U,zm] at e;cases e}| true=>{simp only[U,xf] at e;simp only[tx,Ve,Nat.blt_eq] at U;obtain⟨ao,ar⟩:=U;split at e;{rename_i cs hf;cases e;obtain⟨i,hi,av,ab,ax⟩:=qz ok hz;obtain⟨i2,r,ay⟩:=qN ok hs;rw[hi] at r;cases r;have I:z.cells.size=n:=by{omega};refine⟨_,rfl,rfl,?_⟩;have j:∀l:Array Value,l.toList=dH z.cells.toList len->∃o,Instr.fill (λi=>some (i*n,n)) l parts'.toList=some o/\aV σ cs o.toList:=λl h0=> xW (σ:=σ) (place:=λi=>some (i*n,n)) (place':=λi=>some (i*n,n)) (by intro i x h;exact h) parts parts'.toList _ l _ h1 h2 (by rw[h0];exact dz σ _ (jW (gq ab) len)) hf;have hlen:cs.length=len*n:=by{rw[tM hf,og];simp[I]};have J:¬(len*n > 2 ^ 24):=by{simp;omega};by_cases p:len=0;{subst p;obtain⟨o,R,q2⟩:=j ((Array.range (0*n)).map (λi=>(#[]:Array Value)[i % (#[]:Array Value).size]!)) (by simp[dH]);refine ng s hn el q2 (f:=.slice (some ⟨w.heap.size,0,none⟩) 0 0) ?_ (by simpa using mM σ h.next w.heap.size 0 0 0 o.size (mc _) (λ_=>rfl) (by simp));simp only[Wa] at R J;simp[Instr.buildSlice,run_underlying (aQ ok hu),bV ok hs,newRow] at R ⊢;simp[R]};{obtain⟨o,R,q2⟩:=j ((Array.range (len*n)).map (λi=>z.cells[i % z.cells.size]!)) (by rw[<-I];exact yg z.cells len);have a1:o.size=len*n:=by{have:=q2.length;simp only[UO] at this;omega};have ac:(len==0)=false:=by{simpa using p};refine ng s hn el q2 (f:=.slice (some ⟨w.heap.size,0,none⟩) len len) ?_ ?_;{have ad:¬(len*n=0):=Nat.mul_ne_zero p (by omega);simp only[Instr.buildSlice,Sem.run_bind,run_underlying (aQ ok hu),Result.andThen_ok,bV ok hs,J,Un,ad,Sem.run_ite,eN ok hz,Sem.run_pure,R,newRow,run_newObj];rfl};{rw[ac];exact mM σ h.next w.heap.size len len n o.size (mc _) (by omega) (by omega)}}};{cases e}}};{cases e}};{cases e}
theorem DZ(ok:C.Ok P){σ:bD}{g:Nat->Option aJ}{w:World}(s:cM σ g w){h h':au}(hn:σ h.next=none){t:TypeId}{x x' y y' v:Value}(hx:aX σ x x')(hy:aX σ y y')
  (e:jM C h t x y=some (v,h')) :
  ∃b,b.ro=false/\h'=h.alloc b/\Lays P σ g h.next w b v (Instr.makeSlice t x' y'):=by
 unfold jM at e;split at e;{rename_i el k1 l k2 c hu;obtain rfl:=(show x'=_ from hx);obtain rfl:=(show y'=_ from hy);split at e;{rename_i n z by_ hs hz hb;split at e;{rename_i hc;obtain⟨ae,rfl,a4,a5,a6⟩:=hc;cases e;obtain⟨i,hi,a7,af,a8⟩:=qz ok hz;obtain⟨i2,U,a9⟩:=qN ok hs;rw[hi] at U;cases U;obtain⟨i3,aa,ag⟩:=AA ok hb;rw[hi] at aa;cases aa;have ab:z.cells.size=n:=by{omega};have j:IntKind.i64.wrap l=l:=by{have hs:IntKind.i64.signed=true:=rfl;have I:IntKind.i64.bits=64:=rfl;simp only[IntKind.wrap,hs,I,Bool.true_and,TQ];have:l % (2 ^ 64:Int)=l:=VT ae (by omega);rw[this,nw (by omega)]};refine⟨_,rfl,rfl,?_⟩;have o:=yg z.cells l.toNat;rw[ab] at o;have r:aV σ (dH z.cells.toList l.toNat) ((Array.range (l.toNat*n)).map (λi=>z.cells[i % z.cells.size]!)).toList:=by{rw[ab,o];exact dz σ _ (jW (gq af) _)};have al:((Array.range (l.toNat*n)).map (λi=>z.cells[i % z.cells.size]!)).size=l.toNat*n:=by{simp};have an:¬l<0:=by{omega};have ao:¬(i.bytes*l > 2 ^ 48):=by{rw[ag];simp;omega};have ac:(typeInfo el).run P w=.ok i w:=by{simp[typeInfo,hi]};by_cases p:l.toNat=0;{refine ng s hn el r (f:=.slice (some ⟨w.heap.size,0,none⟩) l.toNat l.toNat) ?_ ?_;{have:l=0:=by{omega};subst this;simp[Instr.makeSlice,run_underlying (aQ ok hu),asInt,asIntOf,ac,j,newRow,bV ok hs,show Array.range 0=#[] from rfl]};{have J:(l.toNat==0)=true:=by{simpa using p};rw[J];exact mM σ h.next w.heap.size l.toNat l.toNat 0 _ (mc _) (λ_=>p) (by simp)}};{have J:(l.toNat==0)=false:=by{simpa using p};refine ng s hn el r (f:=.slice (some ⟨w.heap.size,0,none⟩) l.toNat l.toNat) ?_ ?_;{have ar:¬(l.toNat*n=0):=Nat.mul_ne_zero p (by omega);simp only[Instr.makeSlice,Sem.run_bind,run_underlying (aQ ok hu),Result.andThen_ok,asInt,asIntOf,Sem.run_pure,ac,j];have R:(decide (l<0)||decide ((i.bytes:Int)*l > 2 ^ 48)||decide (l<0)||decide (l > l))=false:=by{rw[Wb an,Wb ao,Wb (Int.lt_irrefl l)];rfl};rw[R];simp only[TT,Un,Sem.run_bind,run_askRoom,Result.andThen_ok,bV ok hs,ar,eN ok hz,Sem.run_pure,newRow,run_newObj];rfl};{rw[J];exact mM σ h.next w.heap.size l.toNat l.toNat n _ (mc _) (by omega) (by rw[al];exact mc _)}}};{cases e}};{cases e}};{cases e}
end
end Go.Abs
/-
 Soundness,eleventh part: append,copy,clear.
-/
namespace Go.Abs
open Go
section
variable {C:Ctx}{P:Program}
theorem E9{σ:bD}(w:World){x x':Value}{n:Nat}(g:aX σ x x')(e:kj x=some n):(Builtin.lenOf x').run P w=.ok n w:=by
 unfold kj at e;split at e;{cases e;rename_i a _;cases a with| none=>{obtain⟨rfl,rfl,rfl⟩:=g;simp[Builtin.lenOf]}| some a=>{obtain⟨l,i,cap,_,_,rfl,_⟩:=g;simp[Builtin.lenOf]}};{cases e;obtain rfl:=(show x'=_ from g);simp[Builtin.lenOf]};{cases e}
theorem Dr(l:List UInt8):gk (l.map λb=>.int .u8 b.toNat)=true:=by
 induction l with| nil=>{rfl}| cons x xs g=>{simp only[y2,gk,plain,g,Uh]}
theorem AE{σ:bD}{g:Nat->Option aJ}{w:World}(s:cM σ g w){h:au}{x x':Value}{p n m:Nat}{new:List Value}(I:aX σ x x')
  (hg:∀a n c,x=.slice (some a) n c->g a.block=h.get a.block) (hm:kj x=some m) (hle:n<=m) (e:jf h p n x=some new) :
  ∃r,aV σ new r/\∀i:World,i.heap=w.heap->(Builtin.firstCells p n x').run P i=.ok ⟨r⟩ i:=by
 unfold jf at e;split at e;{obtain⟨rfl,rfl,rfl⟩:=I;cases e;exact⟨[],rfl,λi _=>by simp[Builtin.firstCells]⟩};{rename_i b off ln c;by_cases J:n=0;{subst J;obtain⟨l,a',cap,hl,_,rfl,ad,h0,R⟩:=I;simp only[beq_self_eq_true,xf,sw] at e;subst e;exact⟨[],rfl,λi _=>by simp[Builtin.firstCells,loadCells,loadCellsFrom]⟩};rw[show (n==0)=false by simpa using J] at e;simp only[zm] at e;split at e;{rename_i cs hc;obtain⟨ro,hb⟩:=nL hc;obtain⟨l,a',cap,hl,_,rfl,ad,h0,R⟩:=I;simp only[kj,sw] at hm;obtain⟨arr,ty,fr,h1,h2,h3,h4,h5⟩:=s.cells ((hg _ _ _ rfl).trans hb) hl;by_cases U:cap=0;{have hn:n=0:=by{omega};subst hn;obtain⟨rfl,a1⟩:=fH e;have:(cs.drop off).take (0*p)=[]:=by{simp};rw[this];exact⟨[],rfl,λi _=>by simp[Builtin.firstCells,loadCells,loadCellsFrom]⟩};{obtain⟨rfl,_⟩:=R U;have key:∀i:World,i.heap=w.heap->∃x',(loadCells ⟨l.bQ,l.off+off,none⟩ (n*p)).run P i=.ok ⟨x'⟩ i/\aV σ new x':=λi hw=> tU (P:=P) (w:=i) (by rw[hw];exact h1) h5 off (n*p) new e;obtain⟨x0,ae,aa⟩:=key w rfl;refine⟨x0,aa,λi hw=>?_⟩;have:=run_loadCells_list (P:=P) i ⟨l.bQ,l.off+off,none⟩ x0 (λj v o=>?_);{obtain⟨_,hlen⟩:=fH e;rw[aa.length,hlen] at this;simpa [Builtin.firstCells] using this};{obtain⟨ab,hlen⟩:=fH e;have ac:x0=(((arr.toList.drop l.off).take cs.length).drop off).take (n*p):=by{have I:=ae;have hh:=run_loadCells_list (P:=P) w ⟨l.bQ,l.off+off,none⟩ ((((arr.toList.drop l.off).take cs.length).drop off).take (n*p)) (λj v o=>by{have t:j<n*p:=by{have:=(No.1 o).1;simp only[Tg] at this;omega};rw[iQ,cell_of_row w l.bQ _ arr ty fr h1];rw[Tv,n0 t,Tu,Tv] at o;split at o;{rw[Tu] at o;rw[<-TK,show l.off+off+j=l.off+(off+j) from by omega];exact o};{cases o}});have af:((((arr.toList.drop l.off).take cs.length).drop off).take (n*p)).length=n*p:=by{have:=((h5.drop off).take (n*p)).length;rw[this,<-ab,hlen]};rw[af,I] at hh;cases hh;rfl};subst ac;have t:j<n*p:=by{have:=(No.1 o).1;simp only[Tg] at this;omega};rw[iQ,cell_of_row i l.bQ _ arr ty fr (by rw[hw];exact h1)];rw[Tv,n0 t,Tu,Tv] at o;split at o;{rw[Tu] at o;rw[<-TK,show l.off+off+j=l.off+(off+j) from by omega];exact o};{cases o}}}};{cases e}};{rename_i str;obtain rfl:=(show x'=_ from I);cases e;refine⟨_,dz σ _ (Dr _),λi _=>?_⟩;simp only[Builtin.firstCells,Sem.run_pure];congr 1;apply UW;simp};{cases e}
structure DA(C:Ctx)(P:Program)(w:World)(e:TypeId)(size n:Nat)(appended:Sem (Array Value))(base:Option Addr)(sLen sCap:Nat)(r:Result Value):Prop where
 room:∀(w':World) (new:List Value),sLen+n<=sCap->appended.run P w=.ok ⟨new⟩ w->(match base with | some a=>(storeCells (a.add (sLen*size)) new).run P w=.ok () w' | none=>w'=w)->
  r=.ok (.slice base (sLen+n) sCap) w'
 grow:∀(z:Value) (by_:Nat) (dy new:List Value),C.zero e=some z->C.bytes e=some by_->sCap<sLen+n->0<by_->(sLen+n)*by_<=140737488355328->
  (∀w1:World,w1.heap=w.heap->appended.run P w1=.ok ⟨new⟩ w1)->(∀w1:World,w1.heap=w.heap->(Builtin.firstCells size sLen (.slice base sLen sCap)).run P w1=.ok ⟨dy⟩ w1)->
  ∃cap,sLen+n<=cap/\r=.ok (.slice (some ⟨w.heap.size,0,none⟩) (sLen+n) cap) (w.drew.alloc (.cells ⟨dy++new++(Builtin.zeroCells z.cells (cap-(sLen+n))).toList⟩ e))
theorem pA(ok:C.Ok P){e:TypeId}{by_ sLen n sCap:Nat}(j:Bool)(I:C.bytes e=some by_)(l:sCap<sLen+n)(o:0<by_)(g:(sLen+n)*by_<=140737488355328) :
  ∃i:TypeInfo,(∀w:World,(typeInfo e).run P w=.ok i w)/\¬(((sLen+n:Nat):Int) > IntKind.i64.max/\(j=true\/i.bytes=0))/\¬(Builtin.nextslicecap (sLen+n) sCap*i.bytes > 2 ^ 48):=by
 obtain⟨i,hi,p⟩:=AA ok I;have t:=growslice_fits (bytes:=by_) l g;have r:sLen+n<=140737488355328:=AS (VP _ o) g;refine⟨i,λw=>by simp[typeInfo,hi],?_,by rw[p];simp;omega⟩;have hm:IntKind.i64.max=9223372036854775807:=by{decide};rw[hm];omega
theorem nQ(dy new:List Value)(Z:Array Value):((⟨dy⟩:Array Value)++⟨new⟩++Z)=⟨dy++new++Z.toList⟩:=UW (by simp)
def Mt:TypeDesc->Bool
 | .int _=>true
 | _=>false
theorem ET(ok:C.Ok P)(w:World){t e:TypeId}{ts:List TypeId}{ty:TypeId}{size n:Nat}{base:Option Addr}{sLen sCap:Nat}{x':Value}(hu:C.iL t=some (.slice e))(hs:C.size e=some size)
  (o:∀p,ts.head?=some p->∃d,C.iL p=some d/\Mt d=false) (hn:(Builtin.lenOf x').run P w=.ok n w) :
  DA C P w e size n (Builtin.firstCells size n x') base sLen sCap ((Builtin.append_ ⟨t::ts⟩ ty ⟨[.slice base sLen sCap,x']⟩).run P w):=by
 have a0:(⟨t::ts⟩:Array TypeId)[0]?=some t:=rfl;have b0:(⟨[.slice base sLen sCap,x']⟩:Array Value)[0]?=some (.slice base sLen sCap):=rfl;have b1:(⟨[.slice base sLen sCap,x']⟩:Array Value)[1]?=some x':=rfl;cases ts with
 | nil=>
  have R:(⟨[t]⟩:Array TypeId)[1]?=none:=rfl;refine⟨λw' new hle r l=>?_,λz by_ dy new hz hb g I j r ho=>?_⟩
  ·simp only[Builtin.append_,a0,R,b0,b1,Sem.run_bind,run_underlying (aQ ok hu),bV ok hs,Result.andThen_ok,Sem.run_pure,hn,TT,Un,UK,TY,hle,r];cases base with
   | none=>subst l;simp
   | some a=>simp[l]
  ·obtain⟨i,J,h1,h2⟩:=pA (n:=n) ok false hb g I j;refine⟨(Question.appendCap (sLen+n) sCap e).cut (w.tape w.drawn (.appendCap (sLen+n) sCap e)),by simp[Question.cut],?_⟩;have o:w.drew.heap=w.heap:=rfl;have g:¬sLen+n<=sCap:=by omega
   have h1:¬(((sLen+n:Nat):Int) > IntKind.i64.max/\(False\/i.bytes=0)):=λh=>h1 ⟨h.1,h.2.elim False.elim .inr⟩;simp only[Builtin.append_,a0,R,b0,b1,Sem.run_bind,run_underlying (aQ ok hu),bV ok hs,Result.andThen_ok,Sem.run_pure,hn,TT,Un,UK,TY,g,J,h1,Un,h2,run_choose,Question.forced,run_askRoom,eN ok hz,World.drew_eq,newRow,run_newObj,World.alloc_eq,ho w.drew o,r w.drew o,nQ];rfl
 | cons p ts=>
  have R:(⟨t::p::ts⟩:Array TypeId)[1]?=some p:=rfl;obtain⟨d,o,hi⟩:=o p rfl;have U:∀w:World,(underlying p).run P w=.ok d w:=run_underlying (aQ ok o);clear o
  cases d<;>first
   | (cases hi;done)
   | (
      refine⟨λw' new hle r l=>?_,λz by_ dy new hz hb g I j r ho=>?_⟩
      · simp only[Builtin.append_,a0,R,b0,b1,Sem.run_bind,run_underlying (aQ ok hu),U,bV ok hs,Result.andThen_ok,Sem.run_pure,hn,TT,Un,UK,TY,hle,r]
        cases base with
        | none=>subst l;simp
        | some a=>simp[l]
      · obtain⟨i,J,h1,h2⟩:=pA (n:=n) ok false hb g I j
        refine⟨(Question.appendCap (sLen+n) sCap e).cut (w.tape w.drawn (.appendCap (sLen+n) sCap e)),by simp[Question.cut],?_⟩;have o:w.drew.heap=w.heap:=rfl;have g:¬sLen+n<=sCap:=by omega
        have h1:¬(((sLen+n:Nat):Int) > IntKind.i64.max/\(False\/i.bytes=0)):=λh=>h1 ⟨h.1,h.2.elim False.elim .inr⟩;simp only[Builtin.append_,a0,R,b0,b1,Sem.run_bind,run_underlying (aQ ok hu),U,bV ok hs,Result.andThen_ok,Sem.run_pure,hn,TT,Un,UK,TY,g,J,h1,Un,h2,run_choose,Question.forced,run_askRoom,eN ok hz,World.drew_eq,newRow,run_newObj,World.alloc_eq,ho w.drew o,r w.drew o,nQ];rfl)
theorem Eg(ok:C.Ok P)(w:World){t e r:TypeId}{ts:List TypeId}{ty:TypeId}{size by_:Nat}{base:Option Addr}{sLen sCap:Nat}{k ki:IntKind}{n:Int}(hu:C.iL t=some (.slice e))(hs:C.size e=some size)
  (hx:C.iL r=some (.int ki)) (hb:C.bytes e=some by_) (h0:0<=n) (h1:n<1000000) (h2:n.toNat*by_<=140737488355328) :
  DA C P w e size n.toNat (if n.toNat*size=0 then pure #[] else do pure (Builtin.zeroCells (<-zeroValue e).cells n.toNat)) base sLen sCap ((Builtin.append_ ⟨t::r::ts⟩ ty ⟨[.slice base sLen sCap,.int k n]⟩).run P w):=by
 have a0:(⟨t::r::ts⟩:Array TypeId)[0]?=some t:=rfl;have a1:(⟨t::r::ts⟩:Array TypeId)[1]?=some r:=rfl;have b0:(⟨[.slice base sLen sCap,.int k n]⟩:Array Value)[0]?=some (.slice base sLen sCap):=rfl;have b1:(⟨[.slice base sLen sCap,.int k n]⟩:Array Value)[1]?=some (.int k n):=rfl;have I:∀w:World,(underlying r).run P w=.ok (.int ki) w:=run_underlying (aQ ok hx);obtain⟨i,hi,ac⟩:=AA ok hb;have j:∀w:World,(typeInfo e).run P w=.ok i w:=λw=>by{simp[typeInfo,hi]};have g:IntKind.i64.wrap n=n:=by{have hs:IntKind.i64.signed=true:=rfl;have l:IntKind.i64.bits=64:=rfl;simp only[IntKind.wrap,hs,l,Bool.true_and,TQ];have:n % (2 ^ 64:Int)=n:=VT h0 (by omega);rw[this,nw (by omega)]};have J:¬n<0:=by{omega};have R:¬(n*(i.bytes:Int) > 2 ^ 48):=by{rw[ac];obtain⟨m,rfl⟩:=VQ h0;have h3:m*by_<=140737488355328:=by{simpa using h2};have h4:((m:Nat):Int)*(by_:Int)=((m*by_:Nat):Int):=by{rw[Vo]};show ¬(((m:Nat):Int)*(by_:Int) > 281474976710656);rw[h4];omega};refine⟨λw' new hle ha U=>?_,λz by_ dy new hz hb o ae p ha ho=>?_⟩;{simp only[Builtin.append_,a0,a1,b0,b1,Sem.run_bind,run_underlying (aQ ok hu),I,bV ok hs,Result.andThen_ok,Sem.run_pure,asInt,asIntOf,g,J,Un,j,R,TY,Uz,TT,hle,ha];cases base with| none=>{subst U;simp}| some a=>{simp[U]}};{obtain⟨i2,af,h1,h2⟩:=pA (n:=n.toNat) ok true hb o ae p;have a4:i2=i:=by{have hq:=(af w).symm.trans (j w);cases hq;rfl};subst i2;refine⟨(Question.appendCap (sLen+n.toNat) sCap e).cut (w.tape w.drawn (.appendCap (sLen+n.toNat) sCap e)),by simp[Question.cut],?_⟩;have hd:w.drew.heap=w.heap:=rfl;have o:¬sLen+n.toNat<=sCap:=by{omega};have h1:¬(((sLen+n.toNat:Nat):Int) > IntKind.i64.max/\(True\/i.bytes=0)):=λh=>h1 ⟨h.1,.inl rfl⟩;simp only[Builtin.append_,a0,a1,b0,b1,Sem.run_bind,run_underlying (aQ ok hu),I,bV ok hs,Result.andThen_ok,Sem.run_pure,asInt,asIntOf,g,J,Un,j,R,TY,Uz,TT,o,h1,Un,h2,run_choose,Question.forced,run_askRoom,eN ok hz,World.drew_eq,newRow,run_newObj,World.alloc_eq,ho w.drew hd,ha w.drew hd,nQ];rfl}
end
end Go.Abs