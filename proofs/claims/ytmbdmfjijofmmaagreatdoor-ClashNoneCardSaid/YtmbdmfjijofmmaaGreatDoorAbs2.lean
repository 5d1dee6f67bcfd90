/-
  The abstract machine is sound, second part: operators, maps, slices, stores.
-/
import Derived.Test.YtmbdmfjijofmmaaGreatDoorAbs1
/-
 Soundness,sixth part: binary operators whole,map keys,look-ups,map stores.
-/
namespace Go.Abs
open Go
section
variable {C:Ctx}{P:Program}
def tag:Value->Nat
 | .bool _=>0 | .int _ _=>1 | .float _ _=>2 | .complex _ _ _=>3 | .string _=>4 | .pointer _=>5 | .slice _ _ _=>6 | .map _=>7 | .chan _=>8
 | .func _ _ _=>9 | .nilFunc=>10 | .iface _ _=>11 | .nilIface=>12 | .agg _=>13 | .tuple _=>14
theorem aV.tag{σ:bG}:∀{v v':Value},aV σ v v'->tag v'=tag v
 | .bool _,_,h=>by rw[show _=_ from h]
 | .int _ _,_,h=>by rw[show _=_ from h]
 | .float _ _,_,h=>by rw[show _=_ from h]
 | .complex _ _ _,_,h=>by rw[show _=_ from h]
 | .string _,_,h=>by rw[show _=_ from h]
 | .pointer none,_,h=>by rw[show _=_ from h]
 | .pointer (some _),_,⟨l,a,b,e⟩=>by subst e;rfl
 | .slice none _ _,_,⟨a,b,e⟩=>by subst e;rfl
 | .slice (some _) _ _,_,⟨l,i,c,a,b,e,r⟩=>by subst e;rfl
 | .map none,_,h=>by rw[show _=_ from h]
 | .map (some _),_,⟨l,a,e⟩=>by subst e;rfl
 | .func _ ⟨_⟩ ⟨_⟩,_,⟨f,g,e,r,s⟩=>by subst e;rfl
 | .nilFunc,_,h=>by rw[show _=_ from h]
 | .iface _ _,_,⟨u,e,r⟩=>by subst e;rfl
 | .nilIface,_,h=>by rw[show _=_ from h]
 | .agg ⟨_⟩,_,⟨cs,e,r⟩=>by subst e;rfl
 | .tuple ⟨_⟩,_,⟨cs,e,r⟩=>by subst e;rfl
theorem rN{v:Value}(h:tag v=12):v=.nilIface:=by cases v<;>first | rfl | cases h
theorem HZ{v:Value}(h:tag v=13):∃xs,v=.agg xs:=by cases v<;>first | exact⟨_,rfl⟩ | cases h
theorem Ho{σ:bG}{xs:Array Value}{v':Value}(h:aV σ (.agg xs) v'):∃ys,v'=.agg ys:=by cases xs with | mk xs=>obtain⟨ys,rfl,_⟩:=h;exact⟨_,rfl⟩
theorem yK(ok:C.Ok P){σ:bG}(w:World){op:BinOp}{t:TypeId}{g i:Operand}{x x' y j:Value}(l:aV σ x x')(o:aV σ y j)
  (f:op=.eql\/op=.neq) (e:iT C t g i x y=true):(eqGuard op t g i x' j).run P w=.ok () w:=by
 have hm:(op matches .eql | .neq)=true:=by rcases f with rfl | rfl<;>rfl
 unfold iT at e;split at e
 ·obtain rfl:=(show x'=_ from l);obtain rfl:=(show j=_ from o);rcases f with rfl | rfl<;>
  ·split at e
   ·simp[eqGuard]
   ·split at e
    ·cases g<;>simp[eqGuard]
    ·cases e
 ·obtain⟨r,rfl⟩:=Ho l;obtain⟨I,rfl⟩:=Ho o;exact run_eqGuard_agg w op t g i r I (ok.flat t e).2.1
 ·rename_i h1 h2;have key:∀a b:Value,(a=.nilIface->b=.nilIface->False)->(∀p q,a=.agg p->b=.agg q->False)->(eqGuard op t g i a b).run P w=.ok () w:=by
   intro a b g1 g2;rcases f with rfl | rfl<;>
   ·cases a<;>cases b<;>first
     | (simp[eqGuard];done)
     | exact(g1 rfl rfl).elim
     | exact(g2 _ _ rfl rfl).elim
  refine key x' j (λJ R=>?_) (λp q J R=>?_)
  ·exact h1 (rN (by rw[<-l.tag,J];rfl)) (rN (by rw[<-o.tag,R];rfl))
  ·obtain⟨a,U⟩:=HZ (v:=x) (by rw[<-l.tag,J];rfl);obtain⟨b,aa⟩:=HZ (v:=y) (by rw[<-o.tag,R];rfl);exact h2 a b U aa
theorem pj{σ:bG}{x x':Value}{k:IntKind}{n:Int}(p:x'=.int k n)(h:aV σ x x'):x=.int k n:=by subst p;have f:=h.tag;cases x<;>first | (cases (show Value.int k n=_ from h);rfl) | cases f
theorem jk{σ:bG}{x x':Value}{s:ByteArray}(p:x'=.string s)(h:aV σ x x'):x=.string s:=by subst p;have f:=h.tag;cases x<;>first | (cases (show Value.string s=_ from h);rfl) | cases f
theorem oH{h:au}{t:TypeId}{x y:Value}{b:Bool}(e:equalA C h t x y=some b)(f:tag x=2):False:=by (cases x<;>first | cases f | skip);(unfold equalA at e;split at e<;>first | (rename_i q;cases q;done) | skip);(all_goals first | contradiction | skip);unfold qv at e;split at e;{contradiction};{contradiction};{unfold fH at e;split at e<;>first | contradiction | cases e};{cases e}
theorem lR{h:au}{t:TypeId}{x y:Value}{b:Bool}(e:equalA C h t x y=some b)(f:tag x=3):False:=by (cases x<;>first | cases f | skip);(unfold equalA at e;split at e<;>first | (rename_i q;cases q;done) | skip);(all_goals first | contradiction | skip);unfold qv at e;split at e;{contradiction};{contradiction};{unfold fH at e;split at e<;>first | contradiction | cases e};{cases e}
theorem Mt(w:World)(t:TypeId)(a b:Value)(f:∀k n k' m,a=.int k n->b=.int k' m->False)(g:∀c d,a=.string c->b=.string d->False)
  (i:tag a=2->tag b=2->False) (j:tag a=3->tag b=3->False) :
  (binOp .eql t a b).run P w=((Op.equal t a b).run P w).andThen λr w=>.ok (.bool r) w:=by have:binOp .eql t a b=(do pure (.bool (<-Op.equal t a b))):=by{cases a<;>cases b<;>first | rfl | exact(f _ _ _ _ rfl rfl).elim | exact(g _ _ rfl rfl).elim | exact(i rfl rfl).elim | exact(j rfl rfl).elim};rw[this];simp
theorem MN(w:World)(t:TypeId)(a b:Value)(f:∀k n k' m,a=.int k n->b=.int k' m->False)(g:∀c d,a=.string c->b=.string d->False)
  (i:tag a=2->tag b=2->False) (j:tag a=3->tag b=3->False) :
  (binOp .neq t a b).run P w=((Op.equal t a b).run P w).andThen λr w=>.ok (.bool !r) w:=by have:binOp .neq t a b=(do pure (.bool (!(<-Op.equal t a b)))):=by{cases a<;>cases b<;>first | rfl | exact(f _ _ _ _ rfl rfl).elim | exact(g _ _ rfl rfl).elim | exact(i rfl rfl).elim | exact(j rfl rfl).elim};rw[this];simp
theorem Oh(ok:C.Ok P){σ:bG}{g:Nat->Option aC}{w:World}(s:dT σ g w){h:au}{op:BinOp}{t:TypeId}{J R:Operand}{x x' y r v:Value}
  (f:aV σ x x') (i:aV σ y r) (U:∀a,x=.pointer (some a)->g a.block=h.get a.block) (aa:∀a,y=.pointer (some a)->g a.block=h.get a.block)
  (e:jL C h op t J R x y=some v) :
  (eqGuard op t J R x' r).run P w=.ok () w/\(binOp op t x' r).run P w=.ok v w/\plain v=true:=by
 have gd:∀{op:BinOp} {a b:Value},(op≠.eql/\op≠.neq)\/(∀c d:Value,¬(a=.nilIface/\b=.nilIface))/\(∀p q,¬(a=.agg p/\b=.agg q))->(eqGuard op t J R a b).run P w=.ok () w:=by
  intro op a b hh;rcases hh with ⟨j,l⟩ | ⟨j,l⟩
  ·cases op<;>first | exact absurd rfl j | exact absurd rfl l | simp[eqGuard]
  ·cases op<;>first
    | (simp[eqGuard];done)
    | (cases a<;>cases b<;>first
      | (simp[eqGuard];done)
      | exact absurd ⟨rfl,rfl⟩ (j .nilFunc .nilFunc)
      | exact absurd ⟨rfl,rfl⟩ (l _ _))
 unfold jL at e;split at e
 ·obtain rfl:=(show x'=_ from f);obtain rfl:=(show r=_ from i);obtain⟨j,l⟩:=Ep (P:=P) w t e;exact⟨gd (.inl ⟨by simp,by simp⟩),j,l⟩
 ·obtain rfl:=(show x'=_ from f);obtain rfl:=(show r=_ from i);obtain⟨j,l⟩:=Ep (P:=P) w t e;exact⟨gd (.inl ⟨by simp,by simp⟩),j,l⟩
 ·rename_i op k a k' b n1 n2;obtain rfl:=(show x'=_ from f);obtain rfl:=(show r=_ from i);split at e
  ·rename_i hk;subst hk;obtain⟨j,l⟩:=Ij (P:=P) w (λh=>n1 h) (λh=>n2 h) t e;exact⟨gd (.inr ⟨by simp,by simp⟩),j,l⟩
  ·cases e
 ·obtain rfl:=(show x'=_ from f);obtain rfl:=(show r=_ from i);obtain⟨j,l⟩:=C7 (P:=P) w t e;exact⟨gd (.inr ⟨by simp,by simp⟩),j,l⟩
 ·rename_i n1 n2 n3;cases I:iT C t J R x y with
  | false=>simp[I] at e
  | true=>
   simp only[I,xf] at e;cases o:equalA C h t x y with
   | none=>simp[o] at e
   | some b=>
    simp[o] at e;subst e;refine⟨yK ok w f i (.inl rfl) I,?_,rfl⟩;have:=ET ok s f i U aa o;rw[Mt w t x' r (λk a k' b p q=>n2 k a k' b (pj p f) (pj q i)) (λa b p q=>n3 a b (jk p f) (jk q i))
     (λp q=>oH o (by rw[<-f.tag];exact p)) (λp q=>lR o (by rw[<-f.tag];exact p))]
    simp[this]
 ·rename_i n1 n2 n3;cases I:iT C t J R x y with
  | false=>simp[I] at e
  | true=>
   simp only[I,xf] at e;cases o:equalA C h t x y with
   | none=>simp[o] at e
   | some b=>
    simp[o] at e;subst e;refine⟨yK ok w f i (.inr rfl) I,?_,rfl⟩;have:=ET ok s f i U aa o;rw[MN w t x' r (λk a k' b p q=>n2 k a k' b (pj p f) (pj q i)) (λa b p q=>n3 a b (jk p f) (jk q i))
     (λp q=>oH o (by rw[<-f.tag];exact p)) (λp q=>lR o (by rw[<-f.tag];exact p))]
    simp[this]
 ·cases e
end
end Go.Abs
/-
 Soundness,seventh part: keys,look-ups and stores of maps.
-/
namespace Go.Abs
open Go
section
variable {C:Ctx}{P:Program}
theorem DM{σ:bG}{x x':Value}{b:Bool}(p:x'=.bool b)(h:aV σ x x'):x=.bool b:=by subst p;have f:=h.tag;cases x<;>first | (cases (show Value.bool b=_ from h);rfl) | cases f
theorem sR(ok:C.Ok P){σ:bG}(w:World)(empty:Bool){d:Nat}{g:TypeId->Value->Bool}
  (I:∀t x x',aV σ x x'->g t x=true->(Instr.checkKey empty d t x').run P w=.ok () w) {xs i:List Value} (J:aZ σ xs i) :
  ∀(j:List Field),km C g j xs=true->
   (forIn j PUnit.unit (λf _=>if f.name≠ "_" then (do
    let x <-part f.type ⟨i⟩ f.offset
    Instr.checkKey empty d f.type x
    pure (ForInStep.yield PUnit.unit)) else (pure (ForInStep.yield PUnit.unit):Sem (ForInStep PUnit)))).run P w=.ok () w
 | [],_=>by simp
 | f::j,e=>by{unfold km at e;simp only[ti] at e;obtain⟨o,U⟩:=e;split at o;{rename_i a h1;obtain⟨u,p,r⟩:=gn (P:=P) (w:=w) ok J h1;have h3:=I f.type a u r o;have l:=sR ok w empty I J j U;rw[List.forIn_cons];by_cases R:f.name≠ "_";{simp[R,p,h3] at l |-;exact l};{simp[R] at l |-;exact l}};{cases o}}
theorem u9(ok:C.Ok P){σ:bG}(w:World)(empty:Bool){d el s:Nat}(hs:C.size el=some s){f:Value->Bool}
  (p:∀x x',aV σ x x'->f x=true->(Instr.checkKey empty d el x').run P w=.ok () w) {xs g:List Value} (r:aZ σ xs g) :
  ∀(is:List Nat),mj C f el s xs is=true->
   (forIn is PUnit.unit (λi _=>(do
    let n <-sizeOf el;let x <-part el ⟨g⟩ (i*n)
    Instr.checkKey empty d el x
    pure (ForInStep.yield PUnit.unit):Sem (ForInStep PUnit)))).run P w=.ok () w
 | [],_=>by simp
 | i::is,e=>by{unfold mj at e;simp only[ti] at e;obtain⟨j,I⟩:=e;split at j;{rename_i a J;obtain⟨u,l,o⟩:=gn (P:=P) (w:=w) ok r J;have R:=p a u o j;have t:=u9 ok w empty hs p r is I;rw[List.forIn_cons];simp[bP ok hs,l,R] at t |-;exact t};{cases j}}
theorem ug(ok:C.Ok P){σ:bG}(w:World)(empty:Bool):∀(n d:Nat) (t:TypeId) (x x':Value),n<=d->aV σ x x'->eA C n t x=true->
  (Instr.checkKey empty d t x').run P w=.ok () w
 | 0,_,_,_,_,_,_,e=>by cases e
 | n+1,0,_,_,_,h,_,_=>by omega
 | n+1,d+1,t,x,x',h,g,e=>by
  unfold eA at e;split at e
  ·rename_i j xs hu;cases xs with | mk xs=>
   obtain⟨i,rfl,f⟩:=g;have:=sR ok w empty (λt x x' g e=>ug ok w empty n d t x x' (by omega) g e) f j.toList e;simp only[Instr.checkKey,Sem.run_bind,run_underlying (aL ok hu),Result.andThen_ok];rw[<-Array.forIn_toList,this];simp
  ·rename_i len el xs hu;split at e
   ·rename_i s hs;cases xs with | mk xs=>
    obtain⟨i,rfl,f⟩:=g;have:=u9 ok w empty hs (λx x' g e=>ug ok w empty n d el x x' (by omega) g e) f (List.range len) e;simp only[Instr.checkKey,Sem.run_bind,run_underlying (aL ok hu),Result.andThen_ok];simp only[Std.Legacy.Range.forIn_eq_forIn_range',Std.Legacy.Range.size,Nat.sub_zero,Nat.add_one_sub_one,Nat.div_one];rw[<-List.range_eq_range'];rw[this];simp
   ·cases e
  ·rename_i l hu _ _;cases l<;>first | (simp[rk] at e;done) | (simp[Instr.checkKey,run_underlying (aL ok hu)])
  ·cases e
def Og(σ:bG):Option (Nat×Value)->Option (Nat×Value)->Prop
 | none,q=>q=none
 | some (j,v),q=>∃v',q=some (j,v')/\aV σ v v'
theorem ql(ok:C.Ok P){σ:bG}(w:World){t:TypeId}{k k':Value}(hk:aV σ k k'):∀(es:List (Value×Value)) (f:List MapEntry) (i:Nat) (r:Option (Nat×Value)),
  cK σ es f->eZ C t k es i=some r->∃q,(Instr.findAsking t k' f i).run P w=.ok q w/\Og σ r q
 | [],f,i,r,h,e=>by{rw[show f=[] from h];simp[eZ] at e;subst e;exact⟨none,by simp[Instr.findAsking],rfl⟩}
 | (k2,v)::es,f,i,r,h,e=>by{obtain⟨g,rest,rfl,l,o,p⟩:=h;unfold eZ at e;split at e;{rename_i j;cases e;have:=xP ok w 8 10000 t k k2 k' g.key true (by omega) hk l j;exact⟨_,by simp[Instr.findAsking,Op.equal,Op.maxDepth,this],⟨g.val,rfl,o⟩⟩};{rename_i j;have:=xP ok w 8 10000 t k k2 k' g.key false (by omega) hk l j;obtain⟨q,I,J⟩:=ql ok w hk es rest (i+1) r p e;exact⟨q,by simpa [Instr.findAsking,Op.equal,Op.maxDepth,this] using I,J⟩};{cases e}}
theorem GQ{σ:bG}{t:TypeId}{d:TypeDesc}(hu:C.g9 t=some d){k x k2 y:Value}{b:Bool}(hk:aV σ k x)(g:aV σ k2 y)(f:Instr.sameNow d x y=some b) :
  qv C 8 t k k2=some b:=by unfold Instr.sameNow at f;split at f;{obtain rfl:=pj rfl hk;obtain rfl:=pj rfl g;simp[qv,hu,fH,f]};{obtain rfl:=jk rfl hk;obtain rfl:=jk rfl g;simp[qv,hu,fH,f]};{obtain rfl:=DM rfl hk;obtain rfl:=DM rfl g;simp[qv,hu,fH,f]};{cases f}
theorem zG{σ:bG}{t:TypeId}{d:TypeDesc}(hu:C.g9 t=some d){k k':Value}(hk:aV σ k k'):∀(es:List (Value×Value)) (f:List MapEntry) (i:Nat)
  (r:Option (Nat×Value)) (q:Option (Nat×Value)),cK σ es f->eZ C t k es i=some r->Instr.findNow d k' f i=some q->Og σ r q
 | [],f,i,r,q,h,e,g=>by{rw[show f=[] from h] at g;simp[eZ] at e;subst e;simp[Instr.findNow] at g;exact g.symm}
 | (k2,v)::es,f,i,r,q,h,e,g=>by{obtain⟨j,rest,rfl,l,o,p⟩:=h;unfold eZ at e;unfold Instr.findNow at g;cases hs:Instr.sameNow d k' j.key with| none=>{simp[hs] at g}| some b=>{have I:=GQ (C:=C) hu hk l hs;rw[I] at e;cases b with| true=>{simp[hs] at e g;subst e;exact⟨j.val,g.symm,o⟩}| false=>{simp only[hs] at e g;exact zG hu hk es rest (i+1) r q p e g}}}
theorem gv(ok:C.Ok P){σ:bG}(w:World){t:TypeId}{k k':Value}(hk:aV σ k k'){es:List (Value×Value)}{f:List MapEntry}{r:Option (Nat×Value)}
  (h:cK σ es f) (e:eZ C t k es 0=some r) (d:TypeDesc) (hu:C.g9 t=some d):∃q,(Instr.findKey t k' f).run P w=.ok q w/\Og σ r q:=by cases g:Instr.findNow d k' f 0 with| none=>{obtain⟨q,i,j⟩:=ql ok w hk es f 0 r h e;exact⟨q,by simpa [Instr.findKey,run_underlying (aL ok hu),g] using i,j⟩}| some q=>{exact⟨q,by simp[Instr.findKey,run_underlying (aL ok hu),g],zG hu hk es f 0 r q h e g⟩}
theorem pG{n:Nat}{t:TypeId}{x:Value}(e:eA C n t x=true):∃d,C.g9 t=some d:=by cases n with| zero=>{cases e}| succ n=>{unfold eA at e;cases h:C.g9 t with| none=>{simp[h] at e}| some d=>{exact⟨d,rfl⟩}}
theorem nm:∀{n:Nat} {t:TypeId} {x:Value},eA C n t x=true->bX x=false
 | 0,_,_,e=>by cases e
 | n+1,t,x,e=>by{unfold eA at e;split at e;{rfl};{rfl};{simp only[ti,Tw] at e;exact e.2};{cases e}}
theorem pd{x:Value×Value}(f:bX x.1=false):∀(es:List (Value×Value)) (j:Nat),alive (aJ x es j)=(alive es).set j x
 | [],j=>by simp[alive,aJ]
 | (k,v)::es,j=>by{cases hk:bX k with| true=>{cases j<;>simp[alive,aJ,hk,pd f es]}| false=>{cases j with| zero=>{obtain⟨a,b⟩:=x;simp only at f;simp[alive,aJ,hk,f]}| succ j=>{simp[alive,aJ,hk,pd f es j]}}}
theorem qX{x:Value×Value}(f:bX x.1=true):∀(es:List (Value×Value)) (j:Nat),alive (aJ x es j)=(alive es).eraseIdx j
 | [],j=>by simp[alive,aJ]
 | (k,v)::es,j=>by{cases hk:bX k with| true=>{cases j<;>simp[alive,aJ,hk,qX f es]}| false=>{cases j with| zero=>{obtain⟨a,b⟩:=x;simp only at f;simp[alive,aJ,hk,f]}| succ j=>{simp[alive,aJ,hk,qX f es j]}}}
theorem m7{x:Value×Value}(f:bX x.1=false):∀(es:List (Value×Value)) (n j:Nat),stamps n (aJ x es j)=stamps n es
 | [],n,j=>by simp[aJ]
 | (k,v)::es,n,j=>by{cases hk:bX k with| true=>{cases j<;>simp[stamps,aJ,hk,m7 f es]}| false=>{cases j with| zero=>{obtain⟨a,b⟩:=x;simp only at f;simp[stamps,aJ,hk,f]}| succ j=>{simp[stamps,aJ,hk,m7 f es _ j]}}}
theorem oE{x:Value×Value}(f:bX x.1=true):∀(es:List (Value×Value)) (n j:Nat),stamps n (aJ x es j)=(stamps n es).eraseIdx j
 | [],n,j=>by simp[stamps,aJ]
 | (k,v)::es,n,j=>by{cases hk:bX k with| true=>{cases j<;>simp[stamps,aJ,hk,oE f es]}| false=>{cases j with| zero=>{obtain⟨a,b⟩:=x;simp only at f;simp[stamps,aJ,hk,f]}| succ j=>{simp[stamps,aJ,hk,oE f es _ j]}}}
theorem iU{x:Value×Value}:∀(es:List (Value×Value)) (j:Nat),(aJ x es j).length=es.length
 | [],j=>by simp[aJ]
 | (k,v)::es,j=>by{cases hk:bX k with| true=>{cases j<;>simp[aJ,hk,iU es]}| false=>{cases j<;>simp[aJ,hk,iU es]}}
theorem ry{k v:Value}(hk:bX k=false):∀(es:List (Value×Value)),alive (es++[(k,v)])=alive es++[(k,v)]
 | []=>by simp[alive,hk]
 | (f,v0)::es=>by cases g:bX f<;>simp[alive,g,ry hk es]
theorem oL{k v:Value}(hk:bX k=false):∀(es:List (Value×Value)) (n:Nat),stamps n (es++[(k,v)])=stamps n es++[n+es.length]
 | [],n=>by simp[stamps,hk]
 | (f,v0)::es,n=>by{have:=oL (k:=k) (v:=v) hk es (n+1);cases g:bX f<;>simp[stamps,g,this]<;>omega}
theorem yy:∀(es:List (Value×Value)),∀p∈alive es,bX p.1=false
 | [],p,h=>by cases h
 | (k,v)::es,p,h=>by{cases hk:bX k with| true=>{simp[alive,hk] at h;exact yy es p h}| false=>{simp[alive,hk] at h;rcases h with rfl | h;{exact hk};{exact yy es p h}}}
theorem G8{σ:bG}{g:Nat->Option aC}{w:World}(s:dT σ g w){h:au}{x x':Value}(i:aV σ x x')(j:∀r,x=.map (some r)->g r=h.get r)
  {es:List (Value×Value)} (e:ed h x=some es) :
  ∃f:Array MapEntry,cK σ es f.toList/\((x'=.map none/\f=#[])\/∃r clock,x'=.map (some r)/\w.heap[r]?=some (.map f clock)):=by unfold ed at e;split at e;{cases e;obtain rfl:=(show _=_ from i);exact⟨#[],rfl,.inl ⟨rfl,rfl⟩⟩};{rename_i r;split at e;{rename_i o he;cases e;obtain⟨l,p,rfl⟩:=i;obtain⟨f,t,I,_⟩:=s.A1 ((j _ rfl).trans he) p;exact⟨f,I,.inr ⟨_,_,rfl,t⟩⟩};{cases e}};{cases e}
theorem Jr(ok:C.Ok P){σ:bG}{g:Nat->Option aC}{w:World}(s:dT σ g w){h:au}{t:TypeId}{x x' k k' v:Value}{b:Bool}(hx:aV σ x x')(hk:aV σ k k')
  (hg:∀r,x=.map (some r)->g r=h.get r) (e:fC C h t x k b=some v) :
  ∃v',(Instr.lookup t x' k' b).run P w=.ok v' w/\aV σ v v':=by
 unfold fC at e;split at e
 ·rename_i kt et es hu he;obtain⟨R,U,i⟩:=G8 s hx hg he;cases l:eA C 8 kt k with
  | false=>simp[l] at e
  | true=>
   simp only[l,Ti,zy] at e;have J:=λem=>ug ok w em 8 10000 kt k k' (by omega) hk l;obtain⟨d,hd⟩:=pG l;have o:∀r clock,w.heap[r]?=some (.map R clock)->(getObj r).run P w=.ok (.map R clock) w:=λr clock hw=>by simp[getObj,Sem.run,hw]
   split at e
   ·rename_i j v0 hf;obtain⟨q,p,v',rfl,q2⟩:=gv ok w hk U hf d hd;cases b with
    | true=>
     cases e
     exact⟨.tuple #[v',.bool true],(by
      rcases i with ⟨rfl,rfl⟩ | ⟨r,clock,rfl,hw⟩
      ·have f:=p;simp at f;simp[Instr.lookup,run_underlying (aL ok hu),J,f]
      ·simp[Instr.lookup,run_underlying (aL ok hu),o r clock hw,J,p]),⟨_,rfl,⟨v',_,rfl,q2,⟨_,_,rfl,rfl,rfl⟩⟩⟩⟩
    | false=>
     cases e
     exact⟨v',(by
      rcases i with ⟨rfl,rfl⟩ | ⟨r,clock,rfl,hw⟩
      ·have f:=p;simp at f;simp[Instr.lookup,run_underlying (aL ok hu),J,f]
      ·simp[Instr.lookup,run_underlying (aL ok hu),o r clock hw,J,p]),q2⟩
   ·rename_i hf;obtain⟨q,p,q2⟩:=gv ok w hk U hf d hd;obtain rfl:=(show q=none from q2);split at e
    ·rename_i z hz;have I:=eK ok hz w;have aa:=gz σ z (ij ok hz);cases b with
     | true=>
      cases e;exact⟨.tuple #[z,.bool false],(by
      rcases i with ⟨rfl,rfl⟩ | ⟨r,clock,rfl,hw⟩
      ·have f:=p;simp at f;simp[Instr.lookup,run_underlying (aL ok hu),J,f,I]
      ·simp[Instr.lookup,run_underlying (aL ok hu),o r clock hw,J,p,I]),⟨_,rfl,⟨z,_,rfl,aa,⟨_,_,rfl,rfl,rfl⟩⟩⟩⟩
     | false=>
      cases e;exact⟨z,(by
      rcases i with ⟨rfl,rfl⟩ | ⟨r,clock,rfl,hw⟩
      ·have f:=p;simp at f;simp[Instr.lookup,run_underlying (aL ok hu),J,f,I]
      ·simp[Instr.lookup,run_underlying (aL ok hu),o r clock hw,J,p,I]),aa⟩
    ·cases e
   ·cases e
 ·cases e
end
end Go.Abs
/-
 Soundness,eighth part: a map is written;what two values that read alike are.
-/
namespace Go.Abs
open Go
mutual
theorem jz:∀{a b:Value},bU a b=true->a=b
 | .bool a,b,h=>by cases b<;>first | (simp[bU] at h;done) | (simp[bU] at h;subst h;rfl)
 | .int k a,b,h=>by cases b<;>first | (simp[bU] at h;done) | (simp[bU] at h;obtain⟨rfl,rfl⟩:=h;rfl)
 | .float k a,b,h=>by cases b<;>first | (simp[bU] at h;done) | (simp[bU] at h;obtain⟨rfl,rfl⟩:=h;rfl)
 | .complex k a c,b,h=>by cases b<;>first | (simp[bU] at h;done) | (simp[bU] at h;obtain⟨⟨rfl,rfl⟩,rfl⟩:=h;rfl)
 | .string a,b,h=>by
  cases b<;>first | (simp[bU] at h;done) | skip
  rename_i b;cases a with | mk a=>
  cases b with | mk b=>
  simp[bU] at h;rw[h]
 | .pointer a,b,h=>by cases b<;>first | (simp[bU] at h;done) | (simp[bU] at h;subst h;rfl)
 | .slice a n c,b,h=>by cases b<;>first | (simp[bU] at h;done) | (simp[bU] at h;obtain⟨⟨rfl,rfl⟩,rfl⟩:=h;rfl)
 | .map a,b,h=>by cases b<;>first | (simp[bU] at h;done) | (simp[bU] at h;subst h;rfl)
 | .chan a,b,h=>by cases b<;>first | (simp[bU] at h;done) | (simp[bU] at h;subst h;rfl)
 | .func f ⟨xs⟩ ⟨ys⟩,b,h=>by
  cases b<;>first | (simp[bU] at h;done) | skip
  rename_i g i j;cases i with | mk i=>
  cases j with | mk j=>
  simp only[bU,ti,S6] at h;obtain⟨⟨rfl,l⟩,o⟩:=h;rw[gF l,gF o]
 | .nilFunc,b,h=>by cases b<;>first | (simp[bU] at h;done) | rfl
 | .iface t v,b,h=>by
  cases b<;>first | (simp[bU] at h;done) | skip
  simp only[bU,ti,S6] at h;obtain⟨rfl,l⟩:=h;rw[jz l]
 | .nilIface,b,h=>by cases b<;>first | (simp[bU] at h;done) | rfl
 | .agg ⟨xs⟩,b,h=>by
  cases b<;>first | (simp[bU] at h;done) | skip
  rename_i ys;cases ys with | mk ys=>
  simp only[bU] at h;rw[gF h]
 | .tuple ⟨xs⟩,b,h=>by
  cases b<;>first | (simp[bU] at h;done) | skip
  rename_i ys;cases ys with | mk ys=>
  simp only[bU] at h;rw[gF h]
theorem gF:∀{a b:List Value},iz a b=true->a=b
 | [],b,h=>by cases b<;>first | rfl | simp[iz] at h
 | x::xs,b,h=>by{cases b with| nil=>{simp[iz] at h}| cons y ys=>{simp only[iz,ti] at h;rw[jz h.1,gF h.2]}}
end
theorem AV:∀{a b:List (Value×Value)},nY a b=true->a=b
 | [],b,h=>by cases b<;>first | rfl | simp[nY] at h
 | (x,y)::xs,b,h=>by{cases b with| nil=>{simp[nY] at h}| cons z zs=>{obtain⟨f,g⟩:=z;simp only[nY,ti] at h;rw[jz h.1.1,jz h.1.2,AV h.2]}}
theorem sv{a b:Option aC}(h:kL a b=true):a=b:=by unfold kL at h;split at h;{rfl};{simp only[ti,S6] at h;rw[h.1,gF h.2]};{rw[AV h]};{cases h}
section
variable {C:Ctx}{P:Program}
theorem dT.change{σ:bG}{g:Nat->Option aC}{w J:World}(s:dT σ g w){i:Nat}{b b':aC}{l:Loc}(hg:g i=some b)(p:b.ro=false)(t:b'.ro=false)(hl:σ i=some l)
  (hw:∀k,k≠l.cf->J.heap[k]?=w.heap[k]?) (hb:nU σ J l b'):dT σ (db g i (some b')) J where
 cf:=λj c f=>by
  by_cases o:j=i
  ·subst o;rw[cj] at f;cases f;exact⟨l,hl,hb⟩
  ·rw[dp _ _ o] at f;obtain⟨m,hm,r⟩:=s.cf j c f;exact⟨m,hm,r.world (hw m.cf (s.inj j i c b m l f hg o (.inr p) hm hl))⟩
 inj:=λj k c d lj lk f hd R hr U aa=>by
  have key:∀j c,db g i (some b') j=some c->∃I,g j=some I/\I.ro=c.ro:=by
   intro j c f;by_cases o:j=i
   ·subst o;rw[cj] at f;cases f;exact⟨_,hg,by rw[p,t]⟩
   ·rw[dp _ _ o] at f;exact⟨c,f,rfl⟩
  obtain⟨I,h1,h2⟩:=key j c f;obtain⟨d0,h3,h4⟩:=key k d hd;exact s.inj j k I d0 lj lk h1 h3 R (by rw[h2,h4];exact hr) U aa
theorem Ev.change{σ:bG}{g:Nat->Option aC}{w o:World}{i:Nat}{b b':aC}{l:Loc}(n:Nat)(J:g i=some b)(p:b.ro=false)(hl:σ i=some l)
  (t:o.heap.size=w.heap.size) (hw:∀k,k≠l.cf->o.heap[k]?=w.heap[k]?) (I:o.os=w.os) (r:o.output=w.output) (f:o.tape=w.tape) :
  Ev σ g n w σ (db g i (some b')) n o where
 size:=Nat.le_of_eq t.symm
 os:=I
 out:=r
 tape:=f
 qT:=λk _ hn=>hw k (Ne.symm (hn i _ l J p hl))
 own:=λj B m R hr hs=>by
  by_cases U:j=i
  ·subst U;exact .inr ⟨j,_,m,J,p,hs,rfl⟩
  ·rw[dp _ _ U] at R;exact .inr ⟨j,B,m,R,hr,hs,rfl⟩
 sig:=λ_ _=>rfl
theorem nP(w:World)(a b:Value):∃k f,(Instr.keyThatStays a b).run P w=.ok k f/\(k=a\/k=b)/\f.heap=w.heap/\f.os=w.os/\f.output=w.output/\f.tape=w.tape:=by unfold Instr.keyThatStays;by_cases h:Instr.sameBits 10000 a b=true;{exact⟨b,w,by simp[h],.inr rfl,rfl,rfl,rfl,rfl⟩};{simp only[h,S8,Sem.run_bind,run_choose,SD];split;{refine⟨_,_,rfl,?_,rfl,rfl,rfl,rfl⟩;simp};{refine⟨_,_,rfl,?_,rfl,rfl,rfl,rfl⟩;split<;>simp}}
theorem cK.get{σ:bG}:∀{es:List (Value×Value)} {l:List MapEntry},cK σ es l->∀(i:Nat) (k v:Value),es[i]?=some (k,v)->∃e,l[i]?=some e/\aV σ k e.key/\aV σ v e.val
 | [],_,_,i,k,v,h=>by simp at h
 | (f,v0)::es,_,⟨e,r,q,a,b,s⟩,i,k,v,h=>by{subst q;cases i with| zero=>{simp at h;obtain⟨rfl,rfl⟩:=h;exact⟨e,rfl,a,b⟩}| succ i=>{exact cK.get s i k v (by simpa using h)}}
theorem cK.set{σ:bG}{k v:Value}{e:MapEntry}(hk:aV σ k e.key)(f:aV σ v e.val):∀{es:List (Value×Value)} {l:List MapEntry} (i:Nat),cK σ es l->cK σ (es.set i (k,v)) (l.set i e)
 | [],_,_,h=>by rw[show _=[] from h];simp[cK]
 | (_,_)::_,_,0,⟨a,r,q,_,_,s⟩=>by subst q;exact⟨e,r,rfl,hk,f,s⟩
 | (_,_)::_,_,i+1,⟨a,r,q,x,y,s⟩=>by subst q;exact⟨a,r.set i e,rfl,x,y,cK.set hk f i s⟩
theorem cK.push{σ:bG}{k v:Value}{e:MapEntry}(hk:aV σ k e.key)(f:aV σ v e.val):∀{es:List (Value×Value)} {l:List MapEntry},cK σ es l->cK σ (es++[(k,v)]) (l++[e])
 | [],_,h=>by rw[show _=[] from h];exact⟨e,[],rfl,hk,f,rfl⟩
 | (_,_)::_,_,⟨a,r,q,x,y,s⟩=>by subst q;exact⟨a,r++[e],rfl,x,y,cK.push hk f s⟩
theorem Ff{α:Type}{l:List α}{i:Nat}{x:α}(h:l[i]?=some x):l.set i x=l:=by apply Sb;intro j;by_cases f:j=i;{subst f;rw[sj (No.1 h).1,h]};{rw[tj (Ne.symm f)]}
theorem xJ{l:List MapEntry}{i:Nat}{e:MapEntry}(h:l[i]?=some e):(l.map (·.born)).set i e.born=l.map (·.born):=by apply Sb;intro j;by_cases g:j=i;{subst g;have f:=(No.1 h).1;rw[sj (by simpa using f),zm,h];rfl};{rw[tj (Ne.symm g)]}
theorem map_eraseIdx{α β:Type}(f:α->β):∀(l:List α) (i:Nat),(l.eraseIdx i).map f=(l.map f).eraseIdx i
 | [],_=>by simp
 | a::l,0=>by simp
 | a::l,i+1=>by simp[map_eraseIdx f l i]
theorem qO{α:Type}(a:Array α)(i:Nat)(f:α->α)(x:α)(h:a.toList[i]?=some x):(a.modify i f).toList=a.toList.set i (f x):=by apply Sb;intro j;rw[Sx,Array.getElem?_modify,Tn];have hi:i<a.toList.length:=(No.1 h).1;split;{rename_i g;subst g;rw[Sx] at h;rw[h];rfl};{rw[Sx]}
theorem run_setObj_map(w:World)(r:Nat)(es:Array MapEntry)(clock:Nat)(hw:w.heap[r]?=some (.map es clock))(o:Obj) :
  (setObj r o).run P w=.ok () { w with heap:=w.heap.setIfInBounds r o }:=by simp[setObj,Sem.run,hw]
theorem rY(ok:C.Ok P){σ:bG}{h I:au}{w:World}(s:dT σ h.get w){t:TypeId}{m m' k k' v v':Value}(hm:aV σ m m')(hk:aV σ k k')(hv:aV σ v v')
  (e:bW C h t m k v=some I) :
  ∃w',(Instr.mapUpdate t m' k' v').run P w=.ok () w'/\I.next=h.next/\dT σ I.get w'/\Ev σ h.get h.next w σ I.get I.next w':=by
 unfold bW at e;split at e
 ·rename_i kt et r hu;split at e
  ·rename_i es he;cases o:eA C 8 kt k with
   | false=>simp[o] at e
   | true=>
    simp only[o,Ti,zy] at e;obtain⟨l,hl,rfl⟩:=hm;obtain⟨f,h1,h2,af⟩:=s.A1 he hl;have J:=nm o;obtain⟨d,hd⟩:=pG o;have ag:=ug ok w false 8 10000 kt k k' (by omega) hk o;have al:(getObj l.cf).run P w=.ok (.map f es.length) w:=by simp[getObj,Sem.run,h1]
    have az:l.cf<w.heap.size:=(Sc.1 h1).1;have put:∀(g:World) (x:List (Value×Value)) (y:Array MapEntry) (c:Nat),g.heap=w.heap->g.os=w.os->g.output=w.output->g.tape=w.tape->c=x.length->cK σ (alive x) y.toList->y.toList.map (·.born)=stamps 0 x->
      let I:=h.put r (some (.map x));let w':World:={ g with heap:=g.heap.setIfInBounds l.cf (.map y c) }
      I.next=h.next/\dT σ I.get w'/\Ev σ h.get h.next w σ I.get I.next w':=by
     intro g x y c hh ho hp ht hc hx hb;subst hc;have R:∀j,j≠l.cf->(g.heap.setIfInBounds l.cf (.map y x.length))[j]?=w.heap[j]?:=by
      intro j hj;rw[hh,SM (Ne.symm hj)]
     have an:(g.heap.setIfInBounds l.cf (.map y x.length))[l.cf]?=some (.map y x.length):=by
      rw[hh,TA,nw az]
     refine⟨rfl,?_,?_⟩
     ·rw[au.eB];exact s.change he rfl rfl hl R ⟨y,an,hx,hb⟩
     ·rw[au.eB];exact Ev.change _ he rfl hl (by simp[hh]) R ho hp ht
    split at e
    ·rename_i i v0 hf;obtain⟨q,q1,v1,rfl,q2⟩:=gv ok w hk h2 hf d hd;split at e
     ·rename_i k2 v2 a3;cases aa:bU k2 k with
      | false=>simp[aa] at e
      | true=>
       simp only[aa,xf,pr] at e;subst e;obtain rfl:=jz aa;obtain⟨en,ab,b0,b1⟩:=h2.get i k2 v2 a3;have ap:f[i]?=some en:=by simpa using ab
       obtain⟨key,g,kr,a4,kh,ko,kp,a5⟩:=nP (P:=P) w en.key k';have ar:aV σ k2 key:=by rcases a4 with rfl | rfl<;>assumption
       have U:=qO f i (λe=>{ e with key,val:=v' }) en (by simpa using ab);have p:cK σ (alive (aJ (k2,v) es i)) (f.modify i λe=>{ e with key,val:=v' }).toList:=by
        rw[U,pd J];exact cK.set (e:={ en with key,val:=v' }) ar hv i h2
       have ac:(f.modify i λe=>{ e with key,val:=v' }).toList.map (·.born)=stamps 0 (aJ (k2,v) es i):=by
        rw[U,m7 J,<-af,SW];exact xJ (e:=en) ab
       obtain⟨p1,p2,p3⟩:=put g _ _ es.length kh ko kp a5 (iU _ _).symm p ac;refine⟨_,?_,p1,p2,p3⟩;have bb:g.heap[l.cf]?=some (.map f es.length):=by rw[kh];exact h1
       simp[Instr.mapUpdate,run_underlying (aL ok hu),al,ag,q1,ap,kr,run_setObj_map (P:=P) g l.cf f es.length bb]
     ·cases e
    ·rename_i hf;obtain⟨q,q1,q2⟩:=gv ok w hk h2 hf d hd;obtain rfl:=(show q=none from q2);cases e;have p:cK σ (alive (es++[(k,v)])) (f.push { key:=k',val:=v',born:=es.length }).toList:=by
      rw[UK,ry J];exact cK.push (e:={ key:=k',val:=v',born:=es.length }) hk hv h2
     have ac:(f.push { key:=k',val:=v',born:=es.length }).toList.map (·.born)=stamps 0 (es++[(k,v)]):=by
      rw[UK,R1,af,oL J];simp
     obtain⟨p1,p2,p3⟩:=put w _ _ (es.length+1) rfl rfl rfl rfl (by simp) p ac;refine⟨_,?_,p1,p2,p3⟩;simp[Instr.mapUpdate,run_underlying (aL ok hu),al,ag,q1,run_setObj_map (P:=P) w l.cf f es.length h1]
    ·cases e
  ·cases e
 ·cases e
theorem cK.erase{σ:bG}:∀{es:List (Value×Value)} {l:List MapEntry} (i:Nat),cK σ es l->cK σ (es.eraseIdx i) (l.eraseIdx i)
 | [],l,i,h=>by rw[show l=[] from h];simp;rfl
 | (k,v)::es,l,0,h=>by{obtain⟨g,rest,rfl,j,o,f⟩:=h;simpa using f}
 | (k,v)::es,l,i+1,h=>by{obtain⟨g,rest,rfl,j,o,f⟩:=h;simp only[List.eraseIdx_cons_succ];exact⟨g,_,rfl,j,o,cK.erase i f⟩}
theorem Iw(ok:C.Ok P){σ:bG}{h o:au}{w:World}(s:dT σ h.get w){t:TypeId}{ts:List TypeId}(ty:TypeId){m m' k k':Value}(hm:aV σ m m')(hk:aV σ k k')
  (e:hZ C h t m k=some o) :
  ∃I,(Builtin.delete_ ⟨t::ts⟩ ty #[m',k']).run P w=.ok (.tuple #[]) I/\o.next=h.next/\dT σ o.get I/\Ev σ h.get h.next w σ o.get o.next I:=by
 unfold hZ at e;split at e
 ·rename_i kt et r hu;split at e
  ·rename_i es he;cases g:eA C 8 kt k with
   | false=>simp[g] at e
   | true=>
    simp only[g,Ti,zy] at e;obtain⟨l,hl,rfl⟩:=hm;obtain⟨f,h1,h2,J⟩:=s.A1 he hl;have a2:=nm g;obtain⟨d,hd⟩:=pG g;have R:=λb=>ug ok w b 8 10000 kt k k' (by omega) hk g;have U:(getObj l.cf).run P w=.ok (.map f es.length) w:=by simp[getObj,Sem.run,h1]
    have ag:l.cf<w.heap.size:=(Sc.1 h1).1;have put:∀(x:List (Value×Value)) (y:Array MapEntry),es.length=x.length->cK σ (alive x) y.toList->y.toList.map (·.born)=stamps 0 x->
      let o:=h.put r (some (.map x));let I:World:={ w with heap:=w.heap.setIfInBounds l.cf (.map y es.length) }
      o.next=h.next/\dT σ o.get I/\Ev σ h.get h.next w σ o.get o.next I:=by
     intro x y hc hx hb;have p:∀j,j≠l.cf->(w.heap.setIfInBounds l.cf (.map y es.length))[j]?=w.heap[j]?:=by
      intro j hj;rw[SM (Ne.symm hj)]
     have aa:(w.heap.setIfInBounds l.cf (.map y es.length))[l.cf]?=some (.map y es.length):=by
      rw[TA,nw ag]
     refine⟨rfl,?_,?_⟩
     ·rw[au.eB];exact s.change he rfl rfl hl p ⟨y,by rw[<-hc];exact aa,hx,hb⟩
     ·rw[au.eB];exact Ev.change _ he rfl hl (by simp) p rfl rfl rfl
    split at e
    ·rename_i i v0 hf;obtain⟨q,q1,v1,rfl,q2⟩:=gv ok w hk h2 hf d hd;simp only[pr] at e;subst e;have ab:(f.eraseIdxIfInBounds i).toList=f.toList.eraseIdx i:=by simp
     have ac:cK σ (alive (aJ (cl,cl) es i)) (f.eraseIdxIfInBounds i).toList:=by
      rw[ab,qX rfl];exact cK.erase i h2
     have ao:(f.eraseIdxIfInBounds i).toList.map (·.born)=stamps 0 (aJ (cl,cl) es i):=by
      rw[ab,oE rfl,<-J,map_eraseIdx]
     obtain⟨p1,p2,p3⟩:=put _ _ (iU _ _).symm ac ao;refine⟨_,?_,p1,p2,p3⟩;simp[Builtin.delete_,run_underlying (aL ok hu),U,R,q1,run_setObj_map (P:=P) w l.cf f es.length h1]
    ·rename_i hf;obtain⟨q,q1,q2⟩:=gv ok w hk h2 hf d hd;obtain rfl:=(show q=none from q2);simp only[pr] at e;subst e;obtain⟨p1,p2,p3⟩:=put _ _ rfl h2 J;refine⟨_,?_,p1,p2,p3⟩;simp[Builtin.delete_,run_underlying (aL ok hu),U,R,q1,run_setObj_map (P:=P) w l.cf f es.length h1]
    ·cases e
  ·cases e
 ·cases e
theorem Dn(ok:C.Ok P){σ:bG}{h h':au}{w:World}(s:dT σ h.get w){t:TypeId}{m m' k k' v:Value}(hm:aV σ m m')(hk:aV σ k k')
  (e:dI C h t m k=some (v,h')) :
  ∃v' w',(Instr.mapEntry t m' k').run P w=.ok v' w'/\aV σ v v'/\h'.next=h.next/\dT σ h'.get w'/\Ev σ h.get h.next w σ h'.get h'.next w':=by
 unfold dI at e;split at e
 ·rename_i kt et r hu;split at e
  ·rename_i es he;cases o:eA C 8 kt k with
   | false=>simp[o] at e
   | true=>
    simp only[o,Ti,zy] at e;obtain⟨l,hl,rfl⟩:=hm;obtain⟨f,h1,h2,aa⟩:=s.A1 he hl;have an:=nm o;obtain⟨d,hd⟩:=pG o;have ao:=ug ok w false 8 10000 kt k k' (by omega) hk o;have ap:(getObj l.cf).run P w=.ok (.map f es.length) w:=by simp[getObj,Sem.run,h1]
    have a5:l.cf<w.heap.size:=(Sc.1 h1).1;have put:∀(g:World) (g2:Nat->Option aC) (x:List (Value×Value)) (y:Array MapEntry) (c:Nat),g.heap=w.heap->g.os=w.os->g.output=w.output->g.tape=w.tape->g2=db h.get r (some (.map x))->c=x.length->cK σ (alive x) y.toList->y.toList.map (·.born)=stamps 0 x->
      let w':World:={ g with heap:=g.heap.setIfInBounds l.cf (.map y c) }
      dT σ g2 w'/\Ev σ h.get h.next w σ g2 h.next w':=by
     intro g g2 x y c hh ho hp ht ab hc hx hb;subst hc;subst ab;have R:∀j,j≠l.cf->(g.heap.setIfInBounds l.cf (.map y x.length))[j]?=w.heap[j]?:=by
      intro j hj;rw[hh,SM (Ne.symm hj)]
     have ar:(g.heap.setIfInBounds l.cf (.map y x.length))[l.cf]?=some (.map y x.length):=by
      rw[hh,TA,nw a5]
     exact⟨s.change he rfl rfl hl R ⟨y,ar,hx,hb⟩,Ev.change _ he rfl hl (by simp[hh]) R ho hp ht⟩
    split at e
    ·rename_i i v0 hf;obtain⟨q,q1,v1,rfl,q2⟩:=gv ok w hk h2 hf d hd;split at e
     ·rename_i k2 v2 n av ax;cases ac:bU k2 k with
      | false=>simp[ac] at e
      | true=>
       simp only[ac,xf,pr,R7] at e;obtain⟨rfl,rfl⟩:=e;obtain rfl:=jz ac;obtain⟨I,J,b6,bd⟩:=h2.get i k2 v2 av;have az:f[i]?=some I:=by simpa using J
       have ad:I.born=n:=by
        rw[<-aa,zm,J] at ax;simpa using ax
       obtain⟨key,g,kr,be,kh,ko,kp,bf⟩:=nP (P:=P) w I.key k';have a0:aV σ k2 key:=by rcases be with rfl | rfl<;>assumption
       have U:=qO f i (λe=>{ e with key }) I (by simpa using J);have p:cK σ (alive es) (f.modify i λe=>{ e with key }).toList:=by
        rw[U];have:=cK.set (e:={ I with key }) a0 bd i h2
        rwa [show (alive es).set i (k2,v2)=alive es from Ff av] at this
       have ae:(f.modify i λe=>{ e with key }).toList.map (·.born)=stamps 0 es:=by
        rw[U,<-aa,SW];exact xJ (e:=I) J
       have ab:h.get=db h.get r (some (.map es)):=by
        funext j;unfold db;split
        ·rename_i hj;rw[hj];exact he
        ·rfl
       obtain⟨p2,p3⟩:=put g h.get es _ es.length kh ko kp bf ab rfl p ae;have bn:g.heap[l.cf]?=some (.map f es.length):=by rw[kh];exact h1
       refine⟨.tuple #[v1,.int .i64 I.born],_,?_,?_,rfl,p2,p3⟩
       ·simp[Instr.mapEntry,run_underlying (aL ok hu),ap,ao,q1,az,kr,run_setObj_map (P:=P) g l.cf f es.length bn,goInt]
       ·exact⟨[v1,.int .i64 I.born],rfl,v1,_,rfl,q2,.int .i64 I.born,[],rfl,by rw[ad];rfl,rfl⟩
     ·cases e
    ·rename_i hf;obtain⟨q,q1,q2⟩:=gv ok w hk h2 hf d hd;obtain rfl:=(show q=none from q2);split at e
     ·rename_i z hz;simp only[pr,R7] at e;obtain⟨rfl,rfl⟩:=e;have bo:=eK ok hz w;have a1:=gz σ z (ij ok hz);have p:cK σ (alive (es++[(k,z)])) (f.push { key:=k',val:=z,born:=es.length }).toList:=by
       rw[UK,ry an];exact cK.push (e:={ key:=k',val:=z,born:=es.length }) hk a1 h2
      have ae:(f.push { key:=k',val:=z,born:=es.length }).toList.map (·.born)=stamps 0 (es++[(k,z)]):=by
       rw[UK,R1,aa,oL an];simp
      obtain⟨p2,p3⟩:=put w _ (es++[(k,z)]) _ (es.length+1) rfl rfl rfl rfl (au.eB ..) (by simp) p ae;refine⟨.tuple #[z,.int .i64 es.length],_,?_,?_,rfl,p2,p3⟩
      ·simp[Instr.mapEntry,run_underlying (aL ok hu),ap,ao,q1,bo,run_setObj_map (P:=P) w l.cf f es.length h1,goInt]
      ·exact⟨[z,.int .i64 es.length],rfl,z,_,rfl,a1,.int .i64 es.length,[],rfl,rfl,rfl⟩
     ·cases e
    ·cases e
  ·cases e
 ·cases e
theorem zM{σ:bG}{h I:au}{w:World}(s:dT σ h.get w)(t:TypeId){m m' n n' v v':Value}(hm:aV σ m m')(hn:aV σ n n')(hv:aV σ v v')
  (e:dg h m n v=some I) :
  ∃w',(Instr.entryStore t m' n' v').run P w=.ok () w'/\I.next=h.next/\dT σ I.get w'/\Ev σ h.get h.next w σ I.get I.next w':=by
 unfold dg at e;split at e
 ·rename_i r kd b;obtain rfl:=(show n'=_ from hn);split at e
  ·rename_i es he;obtain⟨l,hl,rfl⟩:=hm;obtain⟨f,h1,h2,J⟩:=s.A1 he hl;have an:(getObj l.cf).run P w=.ok (.map f es.length) w:=by simp[getObj,Sem.run,h1]
   have ao:l.cf<w.heap.size:=(Sc.1 h1).1;split at e
   ·rename_i j hj;split at e
    ·rename_i k v0 R;cases e;have U:=yy es _ (SL R);have aa:bX (k,v).1=false:=U;obtain⟨en,ab,ar,_⟩:=h2.get j k v0 R;have p:f.findIdx? (λe=>((e.born:Int)==b))=some j:=by
      rw[<-J,List.findIdx?_map] at hj;cases f with | mk l0=>
      rw[List.findIdx?_toArray];exact hj
     have g:=qO f j (λe=>{ e with val:=v' }) en (by simpa using ab);have ac:cK σ (alive (aJ (k,v) es j)) (f.modify j λe=>{ e with val:=v' }).toList:=by
      rw[g,pd aa];exact cK.set (e:={ en with val:=v' }) ar hv j h2
     have av:(f.modify j λe=>{ e with val:=v' }).toList.map (·.born)=stamps 0 (aJ (k,v) es j):=by
      rw[g,m7 aa,<-J,SW];exact xJ (e:=en) ab
     have ax:=iU (x:=(k,v)) es j;have o:∀i,i≠l.cf->(w.heap.setIfInBounds l.cf (.map (f.modify j λe=>{ e with val:=v' }) es.length))[i]?=w.heap[i]?:=by
      intro i hi;rw[SM (Ne.symm hi)]
     have ad:(w.heap.setIfInBounds l.cf (.map (f.modify j λe=>{ e with val:=v' }) es.length))[l.cf]?=some (.map (f.modify j λe=>{ e with val:=v' }) es.length):=by
      rw[TA,nw ao]
     refine⟨{ w with heap:=w.heap.setIfInBounds l.cf (.map (f.modify j λe=>{ e with val:=v' }) es.length) },?_,rfl,?_,?_⟩
     ·have az:(asInt (.int kd b)).run P w=.ok b w:=rfl;unfold Instr.entryStore;simp only[Sem.run_bind,an,Result.andThen_ok,az,p,run_setObj_map (P:=P) w l.cf f es.length h1]
     ·rw[au.eB];exact s.change he rfl rfl hl o ⟨_,by rw[ax];exact ad,ac,av⟩
     ·rw[au.eB];exact Ev.change _ he rfl hl (by simp) o rfl rfl rfl
    ·cases e
   ·cases e
  ·cases e
 ·cases e
end
end Go.Abs
/-
 Soundness,ninth part: stores,struct and slice literals,make.
-/
namespace Go.Abs
open Go
section
variable {C:Ctx}{P:Program}
theorem C9{σ:bG}:∀{vs f:List Value},aZ σ vs f->vs.all one=true->∀v∈f,v.oneCell'=true
 | [],_,h,_,v,hv=>by rw[show _=[] from h] at hv;cases hv
 | x::xs,_,⟨a,b,q,r,s⟩,g,v,hv=>by{subst q;simp only[List.all_cons,ti] at g;rcases IN.1 hv with rfl | hv;{exact r.one g.1};{exact C9 s g.2 v hv}}
theorem uU{σ:bG}{g:Nat->Option aC}{w:World}(s:dT σ g w){b off:Nat}{cs vs f:List Value}{l:Loc}(j:g b=some (.cells false cs))(o:σ b=some l)
  (p:aZ σ vs f) (i:vs.all one=true) (hle:off+vs.length<=cs.length) (n:Nat) :
  ∃r,(storeCells ⟨l.cf,l.off+off,none⟩ f).run P w=.ok () r/\dT σ (db g b (some (.cells false (bp cs off vs)))) r/\
   Ev σ g n w σ (db g b (some (.cells false (bp cs off vs)))) n r:=by obtain⟨arr,ty,fr,I,h2,J,R,U⟩:=s.cells j o;obtain rfl:=J rfl;have hlen:=p.length;have t:=run_storeCells_at P l.cf (l.off+off) ty f 0 arr w I (by omega) (C9 p i);refine⟨_,t,?_,Ev.write n j o _⟩;refine s.write j o I _ ?_ ?_ ?_;{simp;omega};{rw[kC cs vs off hle];simp;omega};{rw[kC cs vs off hle];have:=GZ arr.toList f cs l.off off (by rw[hlen];exact hle) (by simpa using R);simp only[Tc];rw[this];exact U.Lk off p}
theorem Lv(ok:C.Ok P){σ:bG}{g:Nat->Option aC}{w:World}(s:dT σ g w){h h':au}{t:TypeId}{p p' v v':Value}(hp:aV σ p p')(hv:aV σ v v')
  (e:mW C h t p v=some h') (hg:∀a,p=.pointer (some a)->g a.block=h.get a.block) (n:Nat) :
  ∃b cs,(∃o,p=.pointer (some ⟨b,o,none⟩))/\h'=h.put b (some (.cells false cs))/\
   ∃f,(Instr.storeAt t p' v').run P w=.ok () f/\dT σ (db g b (some (.cells false cs))) f/\Ev σ g n w σ (db g b (some (.cells false cs))) n f:=by unfold mW at e;split at e;{rename_i b off;split at e;{rename_i cs r hb hs;cases j:(v.cells.toList.length==r&&v.cells.toList.all one&&Nat.ble (off+r) cs.length) with| false=>{simp only[j,zy] at e;cases e}| true=>{simp only[j,xf,pr] at e;simp only[ti,S6,T1] at j;obtain⟨⟨I,J⟩,ag⟩:=j;obtain⟨l,hl,_,rfl⟩:=hp;have i:=hv.cells;have R:σ b=some l:=hl;obtain⟨f,q1,q2,q3⟩:=uU (P:=P) (off:=off) s ((hg _ rfl).trans hb) R i J (by omega) n;refine⟨b,_,⟨off,rfl⟩,e.symm,f,?_,q2,q3⟩;have U:v'.cells.size=r:=by{have:=i.length;simp only[T7] at this I;omega};simp[Instr.storeAt,Instr.sureAddr,storeVar,bP ok hs,U,q1]}};{cases e}};{cases e}
theorem sT(off:Nat):∀(vs:List Value) (j:Nat) (cs:Array Value),off+j+vs.length<=cs.size->
  ((vs.zipIdx j).foldl (λcs (p:Value×Nat)=>cs.setIfInBounds (off+p.2) p.1) cs).toList=bp cs.toList (off+j) vs
 | [],j,cs,_=>by simp[bp]
 | v::vs,j,cs,h=>by{simp only[List.zipIdx_cons,List.foldl_cons];simp only[If] at h;rw[sT off vs (j+1) (cs.setIfInBounds (off+j) v) (by simp;omega)];have e:=list_seg_step cs.toList (off+j) v vs (by simp;omega);simp only[bp,Array.toList_setIfInBounds,If];simpa [Ts] using e}
theorem wE{σ:bG}{place place':Nat->Option (Nat×Nat)}(j:∀i x,place i=some x->place' i=some x):∀(parts:List (Nat×Value)) (parts':List (Nat×Value)) (cs:List Value) (f:Array Value) (r:List Value),
  parts'.map (·.1)=parts.map (·.1)->aZ σ (parts.map (·.2)) (parts'.map (·.2))->aZ σ cs f.toList->lZ place cs parts=some r->
  ∃o,Instr.fill place' f parts'=some o/\aZ σ r o.toList
 | [],parts',cs,f,r,g,_,t,e=>by{have:parts'=[]:=by{simpa using g};subst this;cases e;exact⟨f,rfl,t⟩}
 | (i,v)::parts,parts',cs,f,r,g,h2,t,e=>by{cases parts' with| nil=>{simp at g}| cons p parts'=>{obtain⟨i',v'⟩:=p;simp only[y2,Te] at g;obtain⟨rfl,g⟩:=g;simp only[y2] at h2;obtain⟨a,b,q,hv,J⟩:=h2;simp only[Te] at q;obtain⟨rfl,rfl⟩:=q;unfold lZ at e;cases R:place i' with| none=>{simp[R] at e}| some x=>{obtain⟨off,size⟩:=x;simp only[R] at e;cases I:(v.cells.toList.length==size&&Nat.ble (off+size) cs.length) with| false=>{simp only[I,zy] at e;cases e}| true=>{simp only[I,xf] at e;simp only[ti,S6,T1] at I;have l:=hv.cells;have U:=l.length;have aa:=t.length;simp only[T7] at U aa I;have ab:(v'.cells.zipIdx.foldl (λcs (p:Value×Nat)=>cs.setIfInBounds (off+p.2) p.1) f).toList=bp f.toList off v'.cells.toList:=by{have:=sT off v'.cells.toList 0 f (by simp;omega);rw[<-Array.foldl_toList,Array.toList_zipIdx];simpa using this};obtain⟨o,q1,q2⟩:=wE j parts parts' (bp cs off v.cells.toList) (v'.cells.zipIdx.foldl (λcs (p:Value×Nat)=>cs.setIfInBounds (off+p.2) p.1) f) r g J (by rw[ab];exact t.Lk off l) e;refine⟨o,?_,q2⟩;simp only[Instr.fill,j i' _ R];rw[mb (by simp only[SO,SC];omega)];exact q1}}}}
theorem wQ(z:Array Value):∀n,((Array.range (n*z.size)).map (λi=>z[i % z.size]!)).toList=dy z.toList n:=by intro n;rw[Array.toList_map,Array.toList_range];induction n with| zero=>{simp[dy]}| succ n f=>{have:(n+1)*z.size=z.size+n*z.size:=by{rw[Sq];omega};rw[this,List.range_add,R1,dy];congr 1;{apply Sb;intro i;rw[zm];by_cases hi:i<z.size;{rw[SQ hi];simp[Nat.mod_eq_of_lt hi,hi]};{rw[D2 (by simp;omega),D2 (by simp;omega)];rfl}};{rw[<-f,Tj];apply SY;intro i _;simp}}
theorem jB{z:List Value}(h:gh z=true):∀n,gh (dy z n)=true
 | 0=>rfl
 | n+1=>by{have:∀(a b:List Value),gh a=true->gh b=true->gh (a++b)=true:=by{intro a b f g;induction a with| nil=>{simpa using g}| cons x xs i=>{simp only[gh,ti,SR] at f |-;exact⟨f.1,i f.2⟩}};exact this _ _ h (jB h n)}
theorem gk{z:Value}(h:plain z=true):gh z.cells.toList=true:=by cases z<;>first|(rename_i cs;cases cs;simpa only[plain,Value.cells] using h)|(simp only[Value.cells,gh,h,Tk];done)|(simp[plain] at h;done)
theorem Av(ok:C.Ok P):∀(g:List Field) (ps:List (Nat×Nat)),places C g=some ps->∀w,(g.mapM (λf=>do pure (f.offset,<-sizeOf f.type):Field->Sem (Nat×Nat))).run P w=.ok ps w
 | [],ps,e,w=>by cases e;simp
 | f::g,ps,e,w=>by{unfold places at e;split at e;{rename_i n r i j;cases e;have:=Av ok g r j w;simp only[List.mapM_cons,Sem.run_bind,bP ok i,Result.andThen_ok,Sem.run_pure,this]};{cases e}}
theorem J2(ok:C.Ok P){σ:bG}(w:World){t:TypeId}{parts:List (Nat×Value)}{parts':Array (Nat×Value)}{v:Value}
  (R:parts'.toList.map (·.1)=parts.map (·.1)) (U:aZ σ (parts.map (·.2)) (parts'.toList.map (·.2))) (e:tV C t parts=some v) :
  ∃v',(Instr.build t parts').run P w=.ok v' w/\aV σ v v':=by unfold tV at e;split at e;{rename_i z fields l hu;split at e;{rename_i ps p;cases g:lZ (λi=>ps[i]?) z.cells.toList parts with| none=>{simp[g] at e}| some cs=>{simp[g] at e;subst e;obtain⟨o,r,I⟩:=wE (σ:=σ) (place:=λi=>ps[i]?) (place':=(ps.toArray[·]?)) (by intro i x h;simpa using h) parts parts'.toList _ z.cells _ R U (dn σ _ (gk (ij ok l))) g;have J:(fields.mapM (λf=>do pure (f.offset,<-sizeOf f.type):Field->Sem (Nat×Nat))).run P w=.ok ps.toArray w:=by{have:=Av ok fields.toList ps p w;rw[Array.mapM_eq_mapM_toList,Sem.run_map,this];rfl};refine⟨.agg o,?_,⟨o.toList,rfl,I⟩⟩;simp only[Instr.build,Sem.run_bind,eK ok l,Result.andThen_ok,run_underlying (aL ok hu),J,r,Sem.run_pure]}};{cases e}};{rename_i z n el l hu;split at e;{rename_i j hs;cases g:lZ (λi=>some (i*j,j)) z.cells.toList parts with| none=>{simp[g] at e}| some cs=>{simp[g] at e;subst e;obtain⟨o,r,I⟩:=wE (σ:=σ) (place:=λi=>some (i*j,j)) (place':=λi=>some (i*j,j)) (by intro i x h;exact h) parts parts'.toList _ z.cells _ R U (dn σ _ (gk (ij ok l))) g;refine⟨.agg o,?_,⟨o.toList,rfl,I⟩⟩;simp only[Instr.build,Sem.run_bind,eK ok l,Result.andThen_ok,run_underlying (aL ok hu),bP ok hs,r,Sem.run_pure]}};{cases e}};{cases e}
end
end Go.Abs
/-
 Soundness,tenth part: operations that lay a block.
-/
namespace Go.Abs
open Go
section
variable {C:Ctx}{P:Program}
def GO(P:Program)(σ:bG)(g:Nat->Option aC)(n:Nat)(w:World)(b:aC)(v:Value)(i:Sem Value):Prop:=
 ∃l v' f,i.run P w=.ok v' f/\aV (db σ n (some l)) v v'/\dT (db σ n (some l)) (db g n (some b)) f/\Ev σ g n w (db σ n (some l)) (db g n (some b)) (n+1) f/\
  l.cf=w.heap.size/\f.heap.size=w.heap.size+1
theorem mB{σ:bG}{g:Nat->Option aC}{w:World}(s:dT σ g w){n:Nat}(l:σ n=none)(elem:TypeId){cs:List Value}{i:Array Value}(o:aZ σ cs i.toList)
  {j:Sem Value} {v:Value} {f:Value} (p:j.run P w=.ok f (w.alloc (.cells i elem))) (r:aV (db σ n (some ⟨w.heap.size,0,i.size⟩)) v f) :
  GO P σ g n w (.cells false cs) v j:=by obtain⟨t,I⟩:=DQ s l elem o;exact⟨⟨w.heap.size,0,i.toList.length⟩,f,_,p,by simpa using r,t,I,rfl,by simp⟩
theorem Kh(ok:C.Ok P){σ:bG}{g:Nat->Option aC}{w:World}(s:dT σ g w){n:Nat}(j:σ n=none){t:TypeId}{z:Value}(i:C.zero t=some z) :
  GO P σ g n w (.cells false z.cells.toList) (.pointer (some ⟨n,0,none⟩)) (Instr.alloc t true (.tuple #[])):=by refine mB s j t (dn σ _ (gk (ij ok i))) (f:=.pointer (some ⟨w.heap.size,0,none⟩)) ?_ (HC σ n _ rfl);simp[Instr.alloc,eK ok i,newVar,newRow]
theorem N5{σ:bG}{g:Nat->Option aC}{w:World}(s:dT σ g w){n:Nat}(i:σ n=none)(t:TypeId){x x':Value}(j:aV σ x x') :
  GO P σ g n w (.cells false x.cells.toList) (.pointer (some ⟨n,0,none⟩)) (Instr.box t x'):=by refine mB s i t j.cells (f:=.pointer (some ⟨w.heap.size,0,none⟩)) ?_ (HC σ n _ rfl);simp[Instr.box,newVar,newRow]
theorem Hm{σ:bG}{g:Nat->Option aC}{w:World}(s:dT σ g w){n:Nat}(f:σ n=none)(t:TypeId) :
  GO P σ g n w (.map []) (.map (some n)) (Instr.makeMap t none):=by have hold:∀b,b<w.heap.size->(w.alloc (.map #[] 0)).heap[b]?=w.heap[b]?:=λb i=>heap_alloc_old w _ b i;refine⟨⟨w.heap.size,0,0⟩,.map (some w.heap.size),w.alloc (.map #[] 0),?_,⟨_,cj _ _ _,rfl⟩,s.alloc f rfl hold ⟨#[],heap_alloc_new w _,rfl,rfl⟩, Ev.alloc rfl (by simp) hold rfl rfl rfl _,rfl,by simp⟩;simp[Instr.makeMap]
theorem lV(σ:bG)(n:Nat)(b len cap c size:Nat)(hle:len<=cap)(g:c=0->cap=0)(f:cap*c<=size) :
  aV (db σ n (some ⟨b,0,size⟩)) (.slice (some ⟨n,0,none⟩) len c) (.slice (some ⟨b,0,none⟩) len cap):=
 ⟨⟨b,0,size⟩,⟨b,0,none⟩,cap,cj _ _ _,rfl,rfl,hle,g,λ_=>⟨rfl,by simpa using f⟩⟩
theorem nj(z:List Value):∀n,(dy z n).length=n*z.length
 | 0=>by simp[dy]
 | n+1=>by rw[dy,q0,nj z n,Sq];omega
theorem sE{place:Nat->Option (Nat×Nat)}:∀{parts:List (Nat×Value)} {cs r:List Value},lZ place cs parts=some r->r.length=cs.length
 | [],cs,r,e=>by cases e;rfl
 | (i,v)::parts,cs,r,e=>by{unfold lZ at e;split at e;{cases e};{rename_i off size g;cases f:(v.cells.toList.length==size&&Nat.ble (off+size) cs.length) with| false=>{simp only[f,zy] at e;cases e}| true=>{simp only[f,xf] at e;simp only[ti,S6,T1] at f;rw[sE e,kC _ _ _ (by omega)]}}}
theorem zW(ok:C.Ok P){σ:bG}{g:Nat->Option aC}{w:World}(s:dT σ g w){h h':au}(hn:σ h.next=none){t:TypeId}{len:Nat}{parts:List (Nat×Value)}
  {parts':Array (Nat×Value)} {v:Value} (h1:parts'.toList.map (·.1)=parts.map (·.1)) (h2:aZ σ (parts.map (·.2)) (parts'.toList.map (·.2)))
  (e:eI C h t len parts=some (v,h')) :
  ∃b,b.ro=false/\h'=h.alloc b/\GO P σ g h.next w b v (Instr.buildSlice t len parts'):=by unfold eI at e;split at e;{rename_i el hu;split at e;{rename_i n z hs hz;cases U:(Nat.ble (len*n) 16777216&&Nat.blt 0 n) with| false=>{simp only[U,zy] at e;cases e}| true=>{simp only[U,xf] at e;simp only[ti,T1,Nat.blt_eq] at U;obtain⟨ap,ar⟩:=U;split at e;{rename_i cs hf;cases e;obtain⟨i,hi,av,ab,ax⟩:=pt ok hz;obtain⟨i2,r,az⟩:=pM ok hs;rw[hi] at r;cases r;have I:z.cells.size=n:=by{omega};refine⟨_,rfl,rfl,?_⟩;have j:∀l:Array Value,l.toList=dy z.cells.toList len->∃o,Instr.fill (λi=>some (i*n,n)) l parts'.toList=some o/\aZ σ cs o.toList:=λl h0=> wE (σ:=σ) (place:=λi=>some (i*n,n)) (place':=λi=>some (i*n,n)) (by intro i x h;exact h) parts parts'.toList _ l _ h1 h2 (by rw[h0];exact dn σ _ (jB (gk ab) len)) hf;have hlen:cs.length=len*n:=by{rw[sE hf,nj];simp[I]};have J:¬(len*n > 2 ^ 24):=by{simp;omega};by_cases p:len=0;{subst p;obtain⟨o,R,q2⟩:=j ((Array.range (0*n)).map (λi=>(#[]:Array Value)[i % (#[]:Array Value).size]!)) (by simp[dy]);refine mB s hn el q2 (f:=.slice (some ⟨w.heap.size,0,none⟩) 0 0) ?_ (by simpa using lV σ h.next w.heap.size 0 0 0 o.size (mc _) (λ_=>rfl) (by simp));simp only[UG] at R J;simp[Instr.buildSlice,run_underlying (aL ok hu),bP ok hs,newRow] at R |-;simp[R]};{obtain⟨o,R,q2⟩:=j ((Array.range (len*n)).map (λi=>z.cells[i % z.cells.size]!)) (by rw[<-I];exact wQ z.cells len);have a1:o.size=len*n:=by{have:=q2.length;simp only[T7] at this;omega};have ac:(len==0)=false:=by{simpa using p};refine mB s hn el q2 (f:=.slice (some ⟨w.heap.size,0,none⟩) len len) ?_ ?_;{have ad:¬(len*n=0):=Nat.mul_ne_zero p (by omega);simp only[Instr.buildSlice,Sem.run_bind,run_underlying (aL ok hu),Result.andThen_ok,bP ok hs,J,S8,ad,Sem.run_ite,eK ok hz,Sem.run_pure,R,newRow,run_newObj];rfl};{rw[ac];exact lV σ h.next w.heap.size len len n o.size (mc _) (by omega) (by omega)}}};{cases e}}};{cases e}};{cases e}
theorem CO(ok:C.Ok P){σ:bG}{g:Nat->Option aC}{w:World}(s:dT σ g w){h h':au}(hn:σ h.next=none){t:TypeId}{x x' y y' v:Value}(hx:aV σ x x')(hy:aV σ y y')
  (e:fI C h t x y=some (v,h')) :
  ∃b,b.ro=false/\h'=h.alloc b/\GO P σ g h.next w b v (Instr.makeSlice t x' y'):=by unfold fI at e;split at e;{rename_i el k1 l k2 c hu;obtain rfl:=(show x'=_ from hx);obtain rfl:=(show y'=_ from hy);split at e;{rename_i n z by_ hs hz hb;split at e;{rename_i hc;obtain⟨ae,rfl,a3,a4,a5⟩:=hc;cases e;obtain⟨i,hi,a8,af,a9⟩:=pt ok hz;obtain⟨i2,U,ba⟩:=pM ok hs;rw[hi] at U;cases U;obtain⟨i3,aa,ag⟩:=yZ ok hb;rw[hi] at aa;cases aa;have ab:z.cells.size=n:=by{omega};have j:IntKind.i64.wrap l=l:=by{have hs:IntKind.i64.signed=true:=rfl;have I:IntKind.i64.bits=64:=rfl;simp only[IntKind.wrap,hs,I,Bool.true_and,SC];have:l % (2 ^ 64:Int)=l:=Ul ae (by omega);rw[this,mb (by omega)]};refine⟨_,rfl,rfl,?_⟩;have o:=wQ z.cells l.toNat;rw[ab] at o;have r:aZ σ (dy z.cells.toList l.toNat) ((Array.range (l.toNat*n)).map (λi=>z.cells[i % z.cells.size]!)).toList:=by{rw[ab,o];exact dn σ _ (jB (gk af) _)};have al:((Array.range (l.toNat*n)).map (λi=>z.cells[i % z.cells.size]!)).size=l.toNat*n:=by{simp};have an:¬l<0:=by{omega};have ao:¬(i.bytes*l > 2 ^ 48):=by{rw[ag];simp;omega};have ac:(typeInfo el).run P w=.ok i w:=by{simp[typeInfo,hi]};by_cases p:l.toNat=0;{refine mB s hn el r (f:=.slice (some ⟨w.heap.size,0,none⟩) l.toNat l.toNat) ?_ ?_;{have:l=0:=by{omega};subst this;simp[Instr.makeSlice,run_underlying (aL ok hu),asInt,asIntOf,ac,j,newRow,bP ok hs,show Array.range 0=#[] from rfl]};{have J:(l.toNat==0)=true:=by{simpa using p};rw[J];exact lV σ h.next w.heap.size l.toNat l.toNat 0 _ (mc _) (λ_=>p) (by simp)}};{have J:(l.toNat==0)=false:=by{simpa using p};refine mB s hn el r (f:=.slice (some ⟨w.heap.size,0,none⟩) l.toNat l.toNat) ?_ ?_;{have ap:¬(l.toNat*n=0):=Nat.mul_ne_zero p (by omega);simp only[Instr.makeSlice,Sem.run_bind,run_underlying (aL ok hu),Result.andThen_ok,asInt,asIntOf,Sem.run_pure,ac,j];have R:(decide (l<0)||decide ((i.bytes:Int)*l > 2 ^ 48)||decide (l<0)||decide (l > l))=false:=by{rw[TY an,TY ao,TY (Int.lt_irrefl l)];rfl};rw[R];simp only[SD,S8,Sem.run_bind,run_askRoom,Result.andThen_ok,bP ok hs,ap,eK ok hz,Sem.run_pure,newRow,run_newObj];rfl};{rw[J];exact lV σ h.next w.heap.size l.toNat l.toNat n _ (mc _) (by omega) (by rw[al];exact mc _)}}};{cases e}};{cases e}};{cases e}
end
end Go.Abs
/-
 Soundness,eleventh part: append,copy,clear.
-/
namespace Go.Abs
open Go
section
variable {C:Ctx}{P:Program}
theorem D4{σ:bG}(w:World){x x':Value}{n:Nat}(f:aV σ x x')(e:gP x=some n):(Builtin.lenOf x').run P w=.ok n w:=by unfold gP at e;split at e;{cases e;rename_i a _;cases a with| none=>{obtain⟨rfl,rfl,rfl⟩:=f;simp[Builtin.lenOf]}| some a=>{obtain⟨l,g,cap,_,_,rfl,_⟩:=f;simp[Builtin.lenOf]}};{cases e;obtain rfl:=(show x'=_ from f);simp[Builtin.lenOf]};{cases e}
theorem Cc(l:List UInt8):gh (l.map λb=>.int .u8 b.toNat)=true:=by induction l with| nil=>{rfl}| cons x xs f=>{simp only[y2,gh,plain,f,Tk]}
theorem y3{σ:bG}{g:Nat->Option aC}{w:World}(s:dT σ g w){h:au}{x x':Value}{o n m:Nat}{new:List Value}(t:aV σ x x')
  (hg:∀a n c,x=.slice (some a) n c->g a.block=h.get a.block) (hm:gP x=some m) (hle:n<=m) (e:eg h o n x=some new) :
  ∃p,aZ σ new p/\∀f:World,f.heap=w.heap->(Builtin.firstCells o n x').run P f=.ok ⟨p⟩ f:=by unfold eg at e;split at e;{obtain⟨rfl,rfl,rfl⟩:=t;cases e;exact⟨[],rfl,λf _=>by simp[Builtin.firstCells]⟩};{rename_i b off ln c;by_cases I:n=0;{subst I;obtain⟨l,a',cap,hl,_,rfl,ac,h0,J⟩:=t;simp only[beq_self_eq_true,xf,pr] at e;subst e;exact⟨[],rfl,λf _=>by simp[Builtin.firstCells,loadCells,loadCellsFrom]⟩};rw[show (n==0)=false by simpa using I] at e;simp only[zy] at e;split at e;{rename_i cs hc;obtain⟨ro,hb⟩:=mV hc;obtain⟨l,a',cap,hl,_,rfl,ac,h0,J⟩:=t;simp only[gP,pr] at hm;obtain⟨arr,ty,fr,h1,h2,h3,h4,h5⟩:=s.cells ((hg _ _ _ rfl).trans hb) hl;by_cases R:cap=0;{have hn:n=0:=by{omega};subst hn;obtain⟨rfl,a1⟩:=fE e;have:(cs.drop off).take (0*o)=[]:=by{simp};rw[this];exact⟨[],rfl,λf _=>by simp[Builtin.firstCells,loadCells,loadCellsFrom]⟩};{obtain⟨rfl,_⟩:=J R;have key:∀f:World,f.heap=w.heap->∃x',(loadCells ⟨l.cf,l.off+off,none⟩ (n*o)).run P f=.ok ⟨x'⟩ f/\aZ σ new x':=λf hw=> sO (P:=P) (w:=f) (by rw[hw];exact h1) h5 off (n*o) new e;obtain⟨x0,ae,U⟩:=key w rfl;refine⟨x0,U,λf hw=>?_⟩;have:=run_loadCells_list (P:=P) f ⟨l.cf,l.off+off,none⟩ x0 (λj v i=>?_);{obtain⟨_,hlen⟩:=fE e;rw[U.length,hlen] at this;simpa [Builtin.firstCells] using this};{obtain⟨aa,hlen⟩:=fE e;have ab:x0=(((arr.toList.drop l.off).take cs.length).drop off).take (n*o):=by{have t:=ae;have hh:=run_loadCells_list (P:=P) w ⟨l.cf,l.off+off,none⟩ ((((arr.toList.drop l.off).take cs.length).drop off).take (n*o)) (λj v i=>by{have r:j<n*o:=by{have:=(No.1 i).1;simp only[R5] at this;omega};rw[iI,cell_of_row w l.cf _ arr ty fr h1];rw[Sg,nw r,Sj,Sg] at i;split at i;{rw[Sj] at i;rw[<-Sx,show l.off+off+j=l.off+(off+j) from by omega];exact i};{cases i}});have af:((((arr.toList.drop l.off).take cs.length).drop off).take (n*o)).length=n*o:=by{have:=((h5.drop off).take (n*o)).length;rw[this,<-aa,hlen]};rw[af,t] at hh;cases hh;rfl};subst ab;have r:j<n*o:=by{have:=(No.1 i).1;simp only[R5] at this;omega};rw[iI,cell_of_row f l.cf _ arr ty fr (by rw[hw];exact h1)];rw[Sg,nw r,Sj,Sg] at i;split at i;{rw[Sj] at i;rw[<-Sx,show l.off+off+j=l.off+(off+j) from by omega];exact i};{cases i}}}};{cases e}};{rename_i str;obtain rfl:=(show x'=_ from t);cases e;refine⟨_,dn σ _ (Cc _),λf _=>?_⟩;simp only[Builtin.firstCells,Sem.run_pure];congr 1;apply TI;simp};{cases e}
structure Cm(C:Ctx)(P:Program)(w:World)(e:TypeId)(size n:Nat)(appended:Sem (Array Value))(base:Option Addr)(sLen sCap:Nat)(r:Result Value):Prop where
 room:∀(w':World) (new:List Value),sLen+n<=sCap->appended.run P w=.ok ⟨new⟩ w->(match base with | some a=>(storeCells (a.add (sLen*size)) new).run P w=.ok () w' | none=>w'=w)->
  r=.ok (.slice base (sLen+n) sCap) w'
 grow:∀(z:Value) (by_:Nat) (cU new:List Value),C.zero e=some z->C.bytes e=some by_->sCap<sLen+n->0<by_->(sLen+n)*by_<=140737488355328->
  (∀w1:World,w1.heap=w.heap->appended.run P w1=.ok ⟨new⟩ w1)->(∀w1:World,w1.heap=w.heap->(Builtin.firstCells size sLen (.slice base sLen sCap)).run P w1=.ok ⟨cU⟩ w1)->
  ∃cap,sLen+n<=cap/\r=.ok (.slice (some ⟨w.heap.size,0,none⟩) (sLen+n) cap) (w.drew.alloc (.cells ⟨cU++new++(Builtin.zeroCells z.cells (cap-(sLen+n))).toList⟩ e))
theorem oy(ok:C.Ok P){e:TypeId}{by_ sLen n sCap:Nat}(g:Bool)(t:C.bytes e=some by_)(j:sCap<sLen+n)(l:0<by_)(f:(sLen+n)*by_<=140737488355328) :
  ∃i:TypeInfo,(∀w:World,(typeInfo e).run P w=.ok i w)/\¬(((sLen+n:Nat):Int) > IntKind.i64.max/\(g=true\/i.bytes=0))/\¬(Builtin.nextslicecap (sLen+n) sCap*i.bytes > 2 ^ 48):=by obtain⟨i,hi,o⟩:=yZ ok t;have r:=growslice_fits (bytes:=by_) j f;have p:sLen+n<=140737488355328:=LN (UI _ l) f;refine⟨i,λw=>by simp[typeInfo,hi],?_,by rw[o];simp;omega⟩;have hm:IntKind.i64.max=9223372036854775807:=by{decide};rw[hm];omega
theorem mZ(cU new:List Value)(Z:Array Value):((⟨cU⟩:Array Value)++⟨new⟩++Z)=⟨cU++new++Z.toList⟩:=TI (by simp)
def LV:TypeDesc->Bool
 | .int _=>true
 | _=>false
theorem DN(ok:C.Ok P)(w:World){t e:TypeId}{ts:List TypeId}{ty:TypeId}{size n:Nat}{base:Option Addr}{sLen sCap:Nat}{x':Value}(hu:C.g9 t=some (.slice e))(hs:C.size e=some size)
  (l:∀o,ts.head?=some o->∃d,C.g9 o=some d/\LV d=false) (hn:(Builtin.lenOf x').run P w=.ok n w) :
  Cm C P w e size n (Builtin.firstCells size n x') base sLen sCap ((Builtin.append_ ⟨t::ts⟩ ty ⟨[.slice base sLen sCap,x']⟩).run P w):=by
 have a0:(⟨t::ts⟩:Array TypeId)[0]?=some t:=rfl;have b0:(⟨[.slice base sLen sCap,x']⟩:Array Value)[0]?=some (.slice base sLen sCap):=rfl;have b1:(⟨[.slice base sLen sCap,x']⟩:Array Value)[1]?=some x':=rfl;cases ts with
 | nil=>
  have R:(⟨[t]⟩:Array TypeId)[1]?=none:=rfl;refine⟨λw' new hle p j=>?_,λz by_ cU new hz hb f r g p ho=>?_⟩
  ·simp only[Builtin.append_,a0,R,b0,b1,Sem.run_bind,run_underlying (aL ok hu),bP ok hs,Result.andThen_ok,Sem.run_pure,hn,SD,S8,TD,SN,hle,p];cases base with
   | none=>subst j;simp
   | some a=>simp[j]
  ·obtain⟨i,I,J,h2⟩:=oy (n:=n) ok false hb f r g;refine⟨(Question.appendCap (sLen+n) sCap e).cut (w.tape w.drawn (.appendCap (sLen+n) sCap e)),by simp[Question.cut],?_⟩;have l:w.drew.heap=w.heap:=rfl;have f:¬sLen+n<=sCap:=by omega
   have J:¬(((sLen+n:Nat):Int) > IntKind.i64.max/\(False\/i.bytes=0)):=λh=>J ⟨h.1,h.2.elim False.elim .inr⟩;simp only[Builtin.append_,a0,R,b0,b1,Sem.run_bind,run_underlying (aL ok hu),bP ok hs,Result.andThen_ok,Sem.run_pure,hn,SD,S8,TD,SN,f,I,J,S8,h2,run_choose,Question.forced,run_askRoom,eK ok hz,World.drew_eq,newRow,run_newObj,World.alloc_eq,ho w.drew l,p w.drew l,mZ];rfl
 | cons o ts=>
  have R:(⟨t::o::ts⟩:Array TypeId)[1]?=some o:=rfl;obtain⟨d,l,hi⟩:=l o rfl;have U:∀w:World,(underlying o).run P w=.ok d w:=run_underlying (aL ok l);clear l
  cases d<;>first
   | (cases hi;done)
   | (
      refine⟨λw' new hle p j=>?_,λz by_ cU new hz hb f r g p ho=>?_⟩
      · simp only[Builtin.append_,a0,R,b0,b1,Sem.run_bind,run_underlying (aL ok hu),U,bP ok hs,Result.andThen_ok,Sem.run_pure,hn,SD,S8,TD,SN,hle,p]
        cases base with
        | none=>subst j;simp
        | some a=>simp[j]
      · obtain⟨i,I,J,h2⟩:=oy (n:=n) ok false hb f r g
        refine⟨(Question.appendCap (sLen+n) sCap e).cut (w.tape w.drawn (.appendCap (sLen+n) sCap e)),by simp[Question.cut],?_⟩;have l:w.drew.heap=w.heap:=rfl;have f:¬sLen+n<=sCap:=by omega
        have J:¬(((sLen+n:Nat):Int) > IntKind.i64.max/\(False\/i.bytes=0)):=λh=>J ⟨h.1,h.2.elim False.elim .inr⟩;simp only[Builtin.append_,a0,R,b0,b1,Sem.run_bind,run_underlying (aL ok hu),U,bP ok hs,Result.andThen_ok,Sem.run_pure,hn,SD,S8,TD,SN,f,I,J,S8,h2,run_choose,Question.forced,run_askRoom,eK ok hz,World.drew_eq,newRow,run_newObj,World.alloc_eq,ho w.drew l,p w.drew l,mZ];rfl)
theorem C8(ok:C.Ok P)(w:World){t e p:TypeId}{ts:List TypeId}{ty:TypeId}{size by_:Nat}{base:Option Addr}{sLen sCap:Nat}{k ki:IntKind}{n:Int}(hu:C.g9 t=some (.slice e))(hs:C.size e=some size)
  (hx:C.g9 p=some (.int ki)) (hb:C.bytes e=some by_) (h0:0<=n) (U:n<1000000) (h2:n.toNat*by_<=140737488355328) :
  Cm C P w e size n.toNat (if n.toNat*size=0 then pure #[] else do pure (Builtin.zeroCells (<-zeroValue e).cells n.toNat)) base sLen sCap ((Builtin.append_ ⟨t::p::ts⟩ ty ⟨[.slice base sLen sCap,.int k n]⟩).run P w):=by have a0:(⟨t::p::ts⟩:Array TypeId)[0]?=some t:=rfl;have a1:(⟨t::p::ts⟩:Array TypeId)[1]?=some p:=rfl;have b0:(⟨[.slice base sLen sCap,.int k n]⟩:Array Value)[0]?=some (.slice base sLen sCap):=rfl;have b1:(⟨[.slice base sLen sCap,.int k n]⟩:Array Value)[1]?=some (.int k n):=rfl;have r:∀w:World,(underlying p).run P w=.ok (.int ki) w:=run_underlying (aL ok hx);obtain⟨i,hi,ac⟩:=yZ ok hb;have g:∀w:World,(typeInfo e).run P w=.ok i w:=λw=>by{simp[typeInfo,hi]};have f:IntKind.i64.wrap n=n:=by{have hs:IntKind.i64.signed=true:=rfl;have j:IntKind.i64.bits=64:=rfl;simp only[IntKind.wrap,hs,j,Bool.true_and,SC];have:n % (2 ^ 64:Int)=n:=Ul h0 (by omega);rw[this,mb (by omega)]};have I:¬n<0:=by{omega};have J:¬(n*(i.bytes:Int) > 2 ^ 48):=by{rw[ac];obtain⟨m,rfl⟩:=UJ h0;have h3:m*by_<=140737488355328:=by{simpa using h2};have h4:((m:Nat):Int)*(by_:Int)=((m*by_:Nat):Int):=by{rw[Ud]};show ¬(((m:Nat):Int)*(by_:Int) > 281474976710656);rw[h4];omega};refine⟨λw' new hle ha R=>?_,λz by_ cU new hz hb l ae o ha ho=>?_⟩;{simp only[Builtin.append_,a0,a1,b0,b1,Sem.run_bind,run_underlying (aL ok hu),r,bP ok hs,Result.andThen_ok,Sem.run_pure,asInt,asIntOf,f,I,S8,g,J,SN,Ti,SD,hle,ha];cases base with| none=>{subst R;simp}| some a=>{simp[R]}};{obtain⟨i2,af,U,h2⟩:=oy (n:=n.toNat) ok true hb l ae o;have a4:i2=i:=by{have hq:=(af w).symm.trans (g w);cases hq;rfl};subst i2;refine⟨(Question.appendCap (sLen+n.toNat) sCap e).cut (w.tape w.drawn (.appendCap (sLen+n.toNat) sCap e)),by simp[Question.cut],?_⟩;have hd:w.drew.heap=w.heap:=rfl;have l:¬sLen+n.toNat<=sCap:=by{omega};have U:¬(((sLen+n.toNat:Nat):Int) > IntKind.i64.max/\(True\/i.bytes=0)):=λh=>U ⟨h.1,.inl rfl⟩;simp only[Builtin.append_,a0,a1,b0,b1,Sem.run_bind,run_underlying (aL ok hu),r,bP ok hs,Result.andThen_ok,Sem.run_pure,asInt,asIntOf,f,I,S8,g,J,SN,Ti,SD,l,U,S8,h2,run_choose,Question.forced,run_askRoom,eK ok hz,World.drew_eq,newRow,run_newObj,World.alloc_eq,ho w.drew hd,ha w.drew hd,mZ];rfl}
end
end Go.Abs