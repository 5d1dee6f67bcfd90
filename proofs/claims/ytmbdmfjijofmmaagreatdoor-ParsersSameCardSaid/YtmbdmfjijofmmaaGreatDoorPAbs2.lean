/-
  The abstract machine is sound, second part: operators, maps, slices, stores.
-/
import Derived.Test.YtmbdmfjijofmmaaGreatDoorPAbs1
/-
 Soundness,sixth part: binary operators whole,map keys,look-ups,map stores.
-/
namespace Go.Abs
open Go
section
variable {C:Ctx}{P:Program}
def tag:Value->Nat
 | .bool _=>0 | .int _ _=>1 | .float _ _=>2 | .complex _ _ _=>3 | .string _=>4 | .pointer _=>5 | .slice _ _ _=>6 | .map _=>7 | .chan _=>8
 | .func _ _ _=>9 | .nilFunc=>10 | .iface _ _=>11 | .nilIface=>12 | .agg _=>13 | .tuple _=>14
theorem aL.tag{σ:aY}:∀{v v':Value},aL σ v v'->tag v'=tag v
 | .bool _,_,h=>by rw[show _=_ from h]
 | .int _ _,_,h=>by rw[show _=_ from h]
 | .float _ _,_,h=>by rw[show _=_ from h]
 | .complex _ _ _,_,h=>by rw[show _=_ from h]
 | .string _,_,h=>by rw[show _=_ from h]
 | .pointer none,_,h=>by rw[show _=_ from h]
 | .pointer (some _),_,⟨l,a,b,e⟩=>by subst e;rfl
 | .slice none _ _,_,⟨a,b,e⟩=>by subst e;rfl
 | .slice (some _) _ _,_,⟨l,a',c,a,b,e,r⟩=>by subst e;rfl
 | .map none,_,h=>by rw[show _=_ from h]
 | .map (some _),_,⟨l,a,e⟩=>by subst e;rfl
 | .func _ ⟨_⟩ ⟨_⟩,_,⟨xs',ys',e,r,s⟩=>by subst e;rfl
 | .nilFunc,_,h=>by rw[show _=_ from h]
 | .iface _ _,_,⟨u,e,r⟩=>by subst e;rfl
 | .nilIface,_,h=>by rw[show _=_ from h]
 | .agg ⟨_⟩,_,⟨cs,e,r⟩=>by subst e;rfl
 | .tuple ⟨_⟩,_,⟨cs,e,r⟩=>by subst e;rfl
theorem qK{v:Value}(h:tag v=12):v=.nilIface:=by cases v<;>first | rfl | cases h
theorem FL{v:Value}(h:tag v=13):∃xs,v=.agg xs:=by cases v<;>first | exact⟨_,rfl⟩ | cases h
theorem EZ{σ:aY}{xs:Array Value}{v':Value}(h:aL σ (.agg xs) v'):∃ys,v'=.agg ys:=by
 cases xs with | mk xs=>obtain⟨ys,rfl,_⟩:=h;exact⟨_,rfl⟩
theorem wV(ok:C.Ok P){σ:aY}(w:World){op:BinOp}{t:TypeId}{xo yo:Operand}{x x' y y':Value}(hx:aL σ x x')(hy:aL σ y y')
  (hop:op=.eql\/op=.neq) (e:jD C t xo yo x y=true):(eqGuard op t xo yo x' y').run P w=.ok () w:=by
 have hm:(op matches .eql | .neq)=true:=by rcases hop with rfl | rfl<;>rfl
 unfold jD at e;split at e
 ·obtain rfl:=(show x'=_ from hx);obtain rfl:=(show y'=_ from hy);rcases hop with rfl | rfl<;>
  ·split at e
   ·simp[eqGuard]
   ·split at e
    ·cases xo<;>simp[eqGuard]
    ·cases e
 ·obtain⟨xs',rfl⟩:=EZ hx;obtain⟨ys',rfl⟩:=EZ hy;exact run_eqGuard_agg w op t xo yo xs' ys' (ok.flat t e).2.1
 ·rename_i h1 h2;have key:∀a b:Value,(a=.nilIface->b=.nilIface->False)->(∀p q,a=.agg p->b=.agg q->False)->(eqGuard op t xo yo a b).run P w=.ok () w:=by
   intro a b g1 g2;rcases hop with rfl | rfl<;>
   ·cases a<;>cases b<;>first
     | (simp[eqGuard];done)
     | exact(g1 rfl rfl).elim
     | exact(g2 _ _ rfl rfl).elim
  refine key x' y' (λha hb=>?_) (λp q ha hb=>?_)
  ·exact h1 (qK (by rw[<-hx.tag,ha];rfl)) (qK (by rw[<-hy.tag,hb];rfl))
  ·obtain⟨a,ha'⟩:=FL (v:=x) (by rw[<-hx.tag,ha];rfl);obtain⟨b,hb'⟩:=FL (v:=y) (by rw[<-hy.tag,hb];rfl);exact h2 a b ha' hb'
theorem oQ{σ:aY}{x x':Value}{k:IntKind}{n:Int}(p:x'=.int k n)(h:aL σ x x'):x=.int k n:=by
 subst p;have ht:=h.tag;cases x<;>first | (cases (show Value.int k n=_ from h);rfl) | cases ht
theorem iZ{σ:aY}{x x':Value}{s:ByteArray}(p:x'=.string s)(h:aL σ x x'):x=.string s:=by
 subst p;have ht:=h.tag;cases x<;>first | (cases (show Value.string s=_ from h);rfl) | cases ht
theorem og{h:aq}{t:TypeId}{x y:Value}{b:Bool}(e:equalA C h t x y=some b)(ht:tag x=2):False:=by
 cases x<;>first | cases ht | skip
 unfold equalA at e;split at e<;>first | (rename_i q;cases q;done) | skip
 all_goals first | contradiction | skip
 unfold uA at e;split at e
 ·contradiction
 ·contradiction
 ·unfold gr at e;split at e<;>first | contradiction | cases e
 ·cases e
theorem k9{h:aq}{t:TypeId}{x y:Value}{b:Bool}(e:equalA C h t x y=some b)(ht:tag x=3):False:=by
 cases x<;>first | cases ht | skip
 unfold equalA at e;split at e<;>first | (rename_i q;cases q;done) | skip
 all_goals first | contradiction | skip
 unfold uA at e;split at e
 ·contradiction
 ·contradiction
 ·unfold gr at e;split at e<;>first | contradiction | cases e
 ·cases e
theorem Ku(w:World)(t:TypeId)(a b:Value)(g1:∀k n k' m,a=.int k n->b=.int k' m->False)(g2:∀c d,a=.string c->b=.string d->False)
  (g3:tag a=2->tag b=2->False) (g4:tag a=3->tag b=3->False) :
  (binOp .eql t a b).run P w=((Op.equal t a b).run P w).andThen λr w=>.ok (.bool r) w:=by
 have:binOp .eql t a b=(do pure (.bool (<-Op.equal t a b))):=by
  cases a<;>cases b<;>first | rfl | exact(g1 _ _ _ _ rfl rfl).elim | exact(g2 _ _ rfl rfl).elim | exact(g3 rfl rfl).elim | exact(g4 rfl rfl).elim
 rw[this];simp
theorem KX(w:World)(t:TypeId)(a b:Value)(g1:∀k n k' m,a=.int k n->b=.int k' m->False)(g2:∀c d,a=.string c->b=.string d->False)
  (g3:tag a=2->tag b=2->False) (g4:tag a=3->tag b=3->False) :
  (binOp .neq t a b).run P w=((Op.equal t a b).run P w).andThen λr w=>.ok (.bool !r) w:=by
 have:binOp .neq t a b=(do pure (.bool (!(<-Op.equal t a b)))):=by
  cases a<;>cases b<;>first | rfl | exact(g1 _ _ _ _ rfl rfl).elim | exact(g2 _ _ rfl rfl).elim | exact(g3 rfl rfl).elim | exact(g4 rfl rfl).elim
 rw[this];simp
theorem MA(ok:C.Ok P){σ:aY}{g:Nat->Option aE}{w:World}(s:cU σ g w){h:aq}{op:BinOp}{t:TypeId}{xo yo:Operand}{x x' y y' v:Value}
  (hx:aL σ x x') (hy:aL σ y y') (hgx:∀a,x=.pointer (some a)->g a.block=h.get a.block) (hgy:∀a,y=.pointer (some a)->g a.block=h.get a.block)
  (e:kW C h op t xo yo x y=some v) :
  (eqGuard op t xo yo x' y').run P w=.ok () w/\(binOp op t x' y').run P w=.ok v w/\plain v=true:=by
 have gd:∀{op:BinOp} {a b:Value},(op≠.eql/\op≠.neq)\/(∀c d:Value,¬(a=.nilIface/\b=.nilIface))/\(∀p q,¬(a=.agg p/\b=.agg q))->(eqGuard op t xo yo a b).run P w=.ok () w:=by
  intro op a b hh;rcases hh with ⟨h1,h2⟩ | ⟨h1,h2⟩
  ·cases op<;>first | exact absurd rfl h1 | exact absurd rfl h2 | simp[eqGuard]
  ·cases op<;>first
    | (simp[eqGuard];done)
    | (cases a<;>cases b<;>first
      | (simp[eqGuard];done)
      | exact absurd ⟨rfl,rfl⟩ (h1 .nilFunc .nilFunc)
      | exact absurd ⟨rfl,rfl⟩ (h2 _ _))
 unfold kW at e;split at e
 ·obtain rfl:=(show x'=_ from hx);obtain rfl:=(show y'=_ from hy);obtain⟨h1,h2⟩:=Cn (P:=P) w t e;exact⟨gd (.inl ⟨by simp,by simp⟩),h1,h2⟩
 ·obtain rfl:=(show x'=_ from hx);obtain rfl:=(show y'=_ from hy);obtain⟨h1,h2⟩:=Cn (P:=P) w t e;exact⟨gd (.inl ⟨by simp,by simp⟩),h1,h2⟩
 ·rename_i op k a k' b n1 n2;obtain rfl:=(show x'=_ from hx);obtain rfl:=(show y'=_ from hy);split at e
  ·rename_i hk;subst hk;obtain⟨h1,h2⟩:=FY (P:=P) w (λh=>n1 h) (λh=>n2 h) t e;exact⟨gd (.inr ⟨by simp,by simp⟩),h1,h2⟩
  ·cases e
 ·obtain rfl:=(show x'=_ from hx);obtain rfl:=(show y'=_ from hy);obtain⟨h1,h2⟩:=A9 (P:=P) w t e;exact⟨gd (.inr ⟨by simp,by simp⟩),h1,h2⟩
 ·rename_i n1 n2 n3;cases hl:jD C t xo yo x y with
  | false=>simp[hl] at e
  | true=>
   simp only[hl,RH] at e;cases hq:equalA C h t x y with
   | none=>simp[hq] at e
   | some b=>
    simp[hq] at e;subst e;refine⟨wV ok w hx hy (.inl rfl) hl,?_,rfl⟩;have:=CP ok s hx hy hgx hgy hq;rw[Ku w t x' y' (λk a k' b p q=>n2 k a k' b (oQ p hx) (oQ q hy)) (λa b p q=>n3 a b (iZ p hx) (iZ q hy))
     (λp q=>og hq (by rw[<-hx.tag];exact p)) (λp q=>k9 hq (by rw[<-hx.tag];exact p))]
    simp[this]
 ·rename_i n1 n2 n3;cases hl:jD C t xo yo x y with
  | false=>simp[hl] at e
  | true=>
   simp only[hl,RH] at e;cases hq:equalA C h t x y with
   | none=>simp[hq] at e
   | some b=>
    simp[hq] at e;subst e;refine⟨wV ok w hx hy (.inr rfl) hl,?_,rfl⟩;have:=CP ok s hx hy hgx hgy hq;rw[KX w t x' y' (λk a k' b p q=>n2 k a k' b (oQ p hx) (oQ q hy)) (λa b p q=>n3 a b (iZ p hx) (iZ q hy))
     (λp q=>og hq (by rw[<-hx.tag];exact p)) (λp q=>k9 hq (by rw[<-hx.tag];exact p))]
    simp[this]
 ·cases e
end
end Go.Abs
/-
 Soundness,seventh part: keys,look-ups and stores of maps.
-/
namespace Go.Abs
open Go
section
variable {C:Ctx}{P:Program}
theorem BO{σ:aY}{x x':Value}{b:Bool}(p:x'=.bool b)(h:aL σ x x'):x=.bool b:=by
 subst p;have ht:=h.tag;cases x<;>first | (cases (show Value.bool b=_ from h);rfl) | cases ht
theorem rL(ok:C.Ok P){σ:aY}(w:World)(empty:Bool){d:Nat}{kok:TypeId->Value->Bool}
  (ih:∀t x x',aL σ x x'->kok t x=true->(Instr.checkKey empty d t x').run P w=.ok () w) {xs xs':List Value} (hx:aJ σ xs xs') :
  ∀(fs:List Field),jZ C kok fs xs=true->
   (forIn fs PUnit.unit (λf _=>if f.name≠ "_" then (do
    let x <-part f.type ⟨xs'⟩ f.offset
    Instr.checkKey empty d f.type x
    pure (ForInStep.yield PUnit.unit)) else (pure (ForInStep.yield PUnit.unit):Sem (ForInStep PUnit)))).run P w=.ok () w
 | [],_=>by simp
 | f::fs,e=>by
  unfold jZ at e;simp only[IN] at e;obtain⟨e1,e2⟩:=e;split at e1
  ·rename_i a h1;obtain⟨u,hu1,hu2⟩:=fN (P:=P) (w:=w) ok hx h1;have h3:=ih f.type a u hu2 e1;have h4:=rL ok w empty ih hx fs e2;rw[List.forIn_cons];by_cases hn:f.name≠ "_"
   ·simp[hn,hu1,h3] at h4 ⊢;exact h4
   ·simp[hn] at h4 ⊢;exact h4
  ·cases e1
theorem ui(ok:C.Ok P){σ:aY}(w:World)(empty:Bool){d el s:Nat}(hs:C.size el=some s){kok:Value->Bool}
  (ih:∀x x',aL σ x x'->kok x=true->(Instr.checkKey empty d el x').run P w=.ok () w) {xs xs':List Value} (hx:aJ σ xs xs') :
  ∀(is:List Nat),rp C kok el s xs is=true->
   (forIn is PUnit.unit (λi _=>(do
    let n <-sizeOf el;let x <-part el ⟨xs'⟩ (i*n)
    Instr.checkKey empty d el x
    pure (ForInStep.yield PUnit.unit):Sem (ForInStep PUnit)))).run P w=.ok () w
 | [],_=>by simp
 | i::is,e=>by
  unfold rp at e;simp only[IN] at e;obtain⟨e1,e2⟩:=e;split at e1
  ·rename_i a h1;obtain⟨u,hu1,hu2⟩:=fN (P:=P) (w:=w) ok hx h1;have h3:=ih a u hu2 e1;have h4:=ui ok w empty hs ih hx is e2;rw[List.forIn_cons];simp[bF ok hs,hu1,h3] at h4 ⊢;exact h4
  ·cases e1
theorem sZ(ok:C.Ok P){σ:aY}(w:World)(empty:Bool):∀(n d:Nat) (t:TypeId) (x x':Value),n<=d->aL σ x x'->fm C n t x=true->
  (Instr.checkKey empty d t x').run P w=.ok () w
 | 0,_,_,_,_,_,_,e=>by cases e
 | n+1,0,_,_,_,h,_,_=>by omega
 | n+1,d+1,t,x,x',h,hx,e=>by
  unfold fm at e;split at e
  ·rename_i fs xs hu;cases xs with | mk xs=>
   obtain⟨xs',rfl,hxs⟩:=hx;have:=rL ok w empty (λt x x' hx e=>sZ ok w empty n d t x x' (by omega) hx e) hxs fs.toList e;simp only[Instr.checkKey,Sem.run_bind,run_underlying (aD ok hu),Result.andThen_ok];rw[<-Array.forIn_toList,this];simp
  ·rename_i len el xs hu;split at e
   ·rename_i s hs;cases xs with | mk xs=>
    obtain⟨xs',rfl,hxs⟩:=hx;have:=ui ok w empty hs (λx x' hx e=>sZ ok w empty n d el x x' (by omega) hx e) hxs (List.range len) e;simp only[Instr.checkKey,Sem.run_bind,run_underlying (aD ok hu),Result.andThen_ok];simp only[Std.Legacy.Range.forIn_eq_forIn_range',Std.Legacy.Range.size,Nat.sub_zero,Nat.add_one_sub_one,Nat.div_one];rw[<-List.range_eq_range'];rw[this];simp
   ·cases e
  ·rename_i dd hu _ _;cases dd<;>first | (simp[wH] at e;done) | (simp[Instr.checkKey,run_underlying (aD ok hu)])
  ·cases e
def My(σ:aY):Option (Nat×Value)->Option (Nat×Value)->Prop
 | none,q=>q=none
 | some (j,v),q=>∃v',q=some (j,v')/\aL σ v v'
theorem pJ(ok:C.Ok P){σ:aY}(w:World){t:TypeId}{k k':Value}(hk:aL σ k k'):∀(es:List (Value×Value)) (es':List MapEntry) (i:Nat) (r:Option (Nat×Value)),
  cj σ es es'->gw C t k es i=some r->∃q,(Instr.findAsking t k' es' i).run P w=.ok q w/\My σ r q
 | [],es',i,r,h,e=>by
  rw[show es'=[] from h];simp[gw] at e;subst e;exact⟨none,by simp[Instr.findAsking],rfl⟩
 | (k2,v)::es,es',i,r,h,e=>by
  obtain⟨en,rest,rfl,h1,h2,h3⟩:=h;unfold gw at e;split at e
  ·rename_i hq;cases e;have:=wh ok w 8 10000 t k k2 k' en.key true (by omega) hk h1 hq;exact⟨_,by simp[Instr.findAsking,Op.equal,Op.maxDepth,this],⟨en.val,rfl,h2⟩⟩
  ·rename_i hq;have:=wh ok w 8 10000 t k k2 k' en.key false (by omega) hk h1 hq;obtain⟨q,q1,q2⟩:=pJ ok w hk es rest (i+1) r h3 e;exact⟨q,by simpa [Instr.findAsking,Op.equal,Op.maxDepth,this] using q1,q2⟩
  ·cases e
theorem EA{σ:aY}{t:TypeId}{d:TypeDesc}(hu:C.gZ t=some d){k x k2 y:Value}{b:Bool}(hk:aL σ k x)(h2:aL σ k2 y)(hb:Instr.sameNow d x y=some b) :
  uA C 8 t k k2=some b:=by
 unfold Instr.sameNow at hb;split at hb
 ·obtain rfl:=oQ rfl hk;obtain rfl:=oQ rfl h2;simp[uA,hu,gr,hb]
 ·obtain rfl:=iZ rfl hk;obtain rfl:=iZ rfl h2;simp[uA,hu,gr,hb]
 ·obtain rfl:=BO rfl hk;obtain rfl:=BO rfl h2;simp[uA,hu,gr,hb]
 ·cases hb
theorem xE{σ:aY}{t:TypeId}{d:TypeDesc}(hu:C.gZ t=some d){k k':Value}(hk:aL σ k k'):∀(es:List (Value×Value)) (es':List MapEntry) (i:Nat)
  (r:Option (Nat×Value)) (q:Option (Nat×Value)),cj σ es es'->gw C t k es i=some r->Instr.findNow d k' es' i=some q->My σ r q
 | [],es',i,r,q,h,e,e2=>by
  rw[show es'=[] from h] at e2;simp[gw] at e;subst e;simp[Instr.findNow] at e2;exact e2.symm
 | (k2,v)::es,es',i,r,q,h,e,e2=>by
  obtain⟨en,rest,rfl,h1,h2,h3⟩:=h;unfold gw at e;unfold Instr.findNow at e2;cases hs:Instr.sameNow d k' en.key with
  | none=>simp[hs] at e2
  | some b=>
   have hq:=EA (C:=C) hu hk h1 hs;rw[hq] at e;cases b with
   | true=>
    simp[hs] at e e2;subst e;exact⟨en.val,e2.symm,h2⟩
   | false=>
    simp only[hs] at e e2;exact xE hu hk es rest (i+1) r q h3 e e2
theorem fU(ok:C.Ok P){σ:aY}(w:World){t:TypeId}{k k':Value}(hk:aL σ k k'){es:List (Value×Value)}{es':List MapEntry}{r:Option (Nat×Value)}
  (h:cj σ es es') (e:gw C t k es 0=some r) (d:TypeDesc) (hu:C.gZ t=some d):∃q,(Instr.findKey t k' es').run P w=.ok q w/\My σ r q:=by
 cases hn:Instr.findNow d k' es' 0 with
 | none=>
  obtain⟨q,q1,q2⟩:=pJ ok w hk es es' 0 r h e;exact⟨q,by simpa [Instr.findKey,run_underlying (aD ok hu),hn] using q1,q2⟩
 | some q=>exact⟨q,by simp[Instr.findKey,run_underlying (aD ok hu),hn],xE hu hk es es' 0 r q h e hn⟩
theorem o6{n:Nat}{t:TypeId}{x:Value}(e:fm C n t x=true):∃d,C.gZ t=some d:=by
 cases n with
 | zero=>cases e
 | succ n=>
  unfold fm at e;cases h:C.gZ t with
  | none=>simp[h] at e
  | some d=>exact⟨d,rfl⟩
theorem mD:∀{n:Nat} {t:TypeId} {x:Value},fm C n t x=true->cH x=false
 | 0,_,_,e=>by cases e
 | n+1,t,x,e=>by
  unfold fm at e;split at e
  ·rfl
  ·rfl
  ·simp only[IN,Tu] at e;exact e.2
  ·cases e
theorem oO{x:Value×Value}(hx:cH x.1=false):∀(es:List (Value×Value)) (j:Nat),alive (aR x es j)=(alive es).set j x
 | [],j=>by simp[alive,aR]
 | (k,v)::es,j=>by
  cases hk:cH k with
  | true=>cases j<;>simp[alive,aR,hk,oO hx es]
  | false=>
   cases j with
   | zero=>obtain⟨a,b⟩:=x;simp only at hx;simp[alive,aR,hk,hx]
   | succ j=>simp[alive,aR,hk,oO hx es j]
theorem qg{x:Value×Value}(hx:cH x.1=true):∀(es:List (Value×Value)) (j:Nat),alive (aR x es j)=(alive es).eraseIdx j
 | [],j=>by simp[alive,aR]
 | (k,v)::es,j=>by
  cases hk:cH k with
  | true=>cases j<;>simp[alive,aR,hk,qg hx es]
  | false=>
   cases j with
   | zero=>obtain⟨a,b⟩:=x;simp only at hx;simp[alive,aR,hk,hx]
   | succ j=>simp[alive,aR,hk,qg hx es j]
theorem mu{x:Value×Value}(hx:cH x.1=false):∀(es:List (Value×Value)) (n j:Nat),stamps n (aR x es j)=stamps n es
 | [],n,j=>by simp[aR]
 | (k,v)::es,n,j=>by
  cases hk:cH k with
  | true=>cases j<;>simp[stamps,aR,hk,mu hx es]
  | false=>
   cases j with
   | zero=>obtain⟨a,b⟩:=x;simp only at hx;simp[stamps,aR,hk,hx]
   | succ j=>simp[stamps,aR,hk,mu hx es _ j]
theorem nV{x:Value×Value}(hx:cH x.1=true):∀(es:List (Value×Value)) (n j:Nat),stamps n (aR x es j)=(stamps n es).eraseIdx j
 | [],n,j=>by simp[stamps,aR]
 | (k,v)::es,n,j=>by
  cases hk:cH k with
  | true=>cases j<;>simp[stamps,aR,hk,nV hx es]
  | false=>
   cases j with
   | zero=>obtain⟨a,b⟩:=x;simp only at hx;simp[stamps,aR,hk,hx]
   | succ j=>simp[stamps,aR,hk,nV hx es _ j]
theorem iH{x:Value×Value}:∀(es:List (Value×Value)) (j:Nat),(aR x es j).length=es.length
 | [],j=>by simp[aR]
 | (k,v)::es,j=>by
  cases hk:cH k with
  | true=>cases j<;>simp[aR,hk,iH es]
  | false=>cases j<;>simp[aR,hk,iH es]
theorem qu{k v:Value}(hk:cH k=false):∀(es:List (Value×Value)),alive (es++[(k,v)])=alive es++[(k,v)]
 | []=>by simp[alive,hk]
 | (k0,v0)::es=>by cases h0:cH k0<;>simp[alive,h0,qu hk es]
theorem oq{k v:Value}(hk:cH k=false):∀(es:List (Value×Value)) (n:Nat),stamps n (es++[(k,v)])=stamps n es++[n+es.length]
 | [],n=>by simp[stamps,hk]
 | (k0,v0)::es,n=>by
  have:=oq (k:=k) (v:=v) hk es (n+1);cases h0:cH k0<;>simp[stamps,h0,this]<;>omega
theorem wK:∀(es:List (Value×Value)),∀p∈alive es,cH p.1=false
 | [],p,h=>by cases h
 | (k,v)::es,p,h=>by
  cases hk:cH k with
  | true=>simp[alive,hk] at h;exact wK es p h
  | false=>
   simp[alive,hk] at h;rcases h with rfl | h
   ·exact hk
   ·exact wK es p h
theorem EI{σ:aY}{g:Nat->Option aE}{w:World}(s:cU σ g w){h:aq}{x x':Value}(hx:aL σ x x')(hg:∀r,x=.map (some r)->g r=h.get r)
  {es:List (Value×Value)} (e:iD h x=some es) :
  ∃es':Array MapEntry,cj σ es es'.toList/\((x'=.map none/\es'=#[])\/∃r clock,x'=.map (some r)/\w.heap[r]?=some (.map es' clock)):=by
 unfold iD at e;split at e
 ·cases e;obtain rfl:=(show _=_ from hx);exact⟨#[],rfl,.inl ⟨rfl,rfl⟩⟩
 ·rename_i r;split at e
  ·rename_i es0 he;cases e;obtain⟨l,hl,rfl⟩:=hx;obtain⟨es',h1,h2,_⟩:=s.pQ ((hg _ rfl).trans he) hl;exact⟨es',h2,.inr ⟨_,_,rfl,h1⟩⟩
  ·cases e
 ·cases e
theorem Hb(ok:C.Ok P){σ:aY}{g:Nat->Option aE}{w:World}(s:cU σ g w){h:aq}{t:TypeId}{x x' k k' v:Value}{b:Bool}(hx:aL σ x x')(hk:aL σ k k')
  (hg:∀r,x=.map (some r)->g r=h.get r) (e:ji C h t x k b=some v) :
  ∃v',(Instr.lookup t x' k' b).run P w=.ok v' w/\aL σ v v':=by
 unfold ji at e;split at e
 ·rename_i kt et es hu he;obtain⟨es',hes,hor⟩:=EI s hx hg he;cases hko:fm C 8 kt k with
  | false=>simp[hko] at e
  | true=>
   simp only[hko,Tp,RO] at e;have h1:=λem=>sZ ok w em 8 10000 kt k k' (by omega) hk hko;obtain⟨d,hd⟩:=o6 hko;have hgo:∀r clock,w.heap[r]?=some (.map es' clock)->(getObj r).run P w=.ok (.map es' clock) w:=λr clock hw=>by simp[getObj,Sem.run,hw]
   split at e
   ·rename_i j v0 hf;obtain⟨q,q1,v',rfl,q2⟩:=fU ok w hk hes hf d hd;cases b with
    | true=>
     cases e
     exact⟨.tuple #[v',.bool true],(by
      rcases hor with ⟨rfl,rfl⟩ | ⟨r,clock,rfl,hw⟩
      ·have q1':=q1;simp at q1';simp[Instr.lookup,run_underlying (aD ok hu),h1,q1']
      ·simp[Instr.lookup,run_underlying (aD ok hu),hgo r clock hw,h1,q1]),⟨_,rfl,⟨v',_,rfl,q2,⟨_,_,rfl,rfl,rfl⟩⟩⟩⟩
    | false=>
     cases e
     exact⟨v',(by
      rcases hor with ⟨rfl,rfl⟩ | ⟨r,clock,rfl,hw⟩
      ·have q1':=q1;simp at q1';simp[Instr.lookup,run_underlying (aD ok hu),h1,q1']
      ·simp[Instr.lookup,run_underlying (aD ok hu),hgo r clock hw,h1,q1]),q2⟩
   ·rename_i hf;obtain⟨q,q1,q2⟩:=fU ok w hk hes hf d hd;obtain rfl:=(show q=none from q2);split at e
    ·rename_i z hz;have hzr:=eg ok hz w;have hzp:=gj σ z (gK ok hz);cases b with
     | true=>
      cases e;exact⟨.tuple #[z,.bool false],(by
      rcases hor with ⟨rfl,rfl⟩ | ⟨r,clock,rfl,hw⟩
      ·have q1':=q1;simp at q1';simp[Instr.lookup,run_underlying (aD ok hu),h1,q1',hzr]
      ·simp[Instr.lookup,run_underlying (aD ok hu),hgo r clock hw,h1,q1,hzr]),⟨_,rfl,⟨z,_,rfl,hzp,⟨_,_,rfl,rfl,rfl⟩⟩⟩⟩
     | false=>
      cases e;exact⟨z,(by
      rcases hor with ⟨rfl,rfl⟩ | ⟨r,clock,rfl,hw⟩
      ·have q1':=q1;simp at q1';simp[Instr.lookup,run_underlying (aD ok hu),h1,q1',hzr]
      ·simp[Instr.lookup,run_underlying (aD ok hu),hgo r clock hw,h1,q1,hzr]),hzp⟩
    ·cases e
   ·cases e
 ·cases e
end
end Go.Abs
/-
 Soundness,eighth part: a map is written;what two values that read alike are.
-/
namespace Go.Abs
open Go
mutual
theorem jo:∀{a b:Value},bN a b=true->a=b
 | .bool a,b,h=>by cases b<;>first | (simp[bN] at h;done) | (simp[bN] at h;subst h;rfl)
 | .int k a,b,h=>by cases b<;>first | (simp[bN] at h;done) | (simp[bN] at h;obtain⟨rfl,rfl⟩:=h;rfl)
 | .float k a,b,h=>by cases b<;>first | (simp[bN] at h;done) | (simp[bN] at h;obtain⟨rfl,rfl⟩:=h;rfl)
 | .complex k a c,b,h=>by cases b<;>first | (simp[bN] at h;done) | (simp[bN] at h;obtain⟨⟨rfl,rfl⟩,rfl⟩:=h;rfl)
 | .string a,b,h=>by
  cases b<;>first | (simp[bN] at h;done) | skip
  rename_i b;cases a with | mk a=>
  cases b with | mk b=>
  simp[bN] at h;rw[h]
 | .pointer a,b,h=>by cases b<;>first | (simp[bN] at h;done) | (simp[bN] at h;subst h;rfl)
 | .slice a n c,b,h=>by cases b<;>first | (simp[bN] at h;done) | (simp[bN] at h;obtain⟨⟨rfl,rfl⟩,rfl⟩:=h;rfl)
 | .map a,b,h=>by cases b<;>first | (simp[bN] at h;done) | (simp[bN] at h;subst h;rfl)
 | .chan a,b,h=>by cases b<;>first | (simp[bN] at h;done) | (simp[bN] at h;subst h;rfl)
 | .func f ⟨xs⟩ ⟨ys⟩,b,h=>by
  cases b<;>first | (simp[bN] at h;done) | skip
  rename_i g xs' ys';cases xs' with | mk xs'=>
  cases ys' with | mk ys'=>
  simp only[bN,IN,SK] at h;obtain⟨⟨rfl,h1⟩,h2⟩:=h;rw[jW h1,jW h2]
 | .nilFunc,b,h=>by cases b<;>first | (simp[bN] at h;done) | rfl
 | .iface t v,b,h=>by
  cases b<;>first | (simp[bN] at h;done) | skip
  simp only[bN,IN,SK] at h;obtain⟨rfl,h1⟩:=h;rw[jo h1]
 | .nilIface,b,h=>by cases b<;>first | (simp[bN] at h;done) | rfl
 | .agg ⟨xs⟩,b,h=>by
  cases b<;>first | (simp[bN] at h;done) | skip
  rename_i ys;cases ys with | mk ys=>
  simp only[bN] at h;rw[jW h]
 | .tuple ⟨xs⟩,b,h=>by
  cases b<;>first | (simp[bN] at h;done) | skip
  rename_i ys;cases ys with | mk ys=>
  simp only[bN] at h;rw[jW h]
theorem jW:∀{a b:List Value},jF a b=true->a=b
 | [],b,h=>by cases b<;>first | rfl | simp[jF] at h
 | x::xs,b,h=>by
  cases b with
  | nil=>simp[jF] at h
  | cons y ys=>
   simp only[jF,IN] at h;rw[jo h.1,jW h.2]
end
theorem yV:∀{a b:List (Value×Value)},nl a b=true->a=b
 | [],b,h=>by cases b<;>first | rfl | simp[nl] at h
 | (x,y)::xs,b,h=>by
  cases b with
  | nil=>simp[nl] at h
  | cons z zs=>
   obtain⟨z1,z2⟩:=z;simp only[nl,IN] at h;rw[jo h.1.1,jo h.1.2,yV h.2]
theorem BT{a b:Option aE}(h:nJ a b=true):a=b:=by
 unfold nJ at h;split at h
 ·rfl
 ·simp only[IN,SK] at h;rw[h.1,jW h.2]
 ·rw[yV h]
 ·cases h
section
variable {C:Ctx}{P:Program}
theorem cU.change{σ:aY}{g:Nat->Option aE}{w w':World}(s:cU σ g w){i:Nat}{b b':aE}{l:Loc}(hg:g i=some b)(hro:b.ro=false)(hro':b'.ro=false)(hl:σ i=some l)
  (hw:∀k,k≠l.bu->w'.heap[k]?=w.heap[k]?) (hb:kX σ w' l b'):cU σ (dg g i (some b')) w' where
 bu:=λj c hc=>by
  by_cases hj:j=i
  ·subst hj;rw[bL] at hc;cases hc;exact⟨l,hl,hb⟩
  ·rw[cl _ _ hj] at hc;obtain⟨m,hm,r⟩:=s.bu j c hc;exact⟨m,hm,r.world (hw m.bu (s.inj j i c b m l hc hg hj (.inr hro) hm hl))⟩
 inj:=λj k c d lj lk hc hd hjk hr hlj hlk=>by
  have key:∀j c,dg g i (some b') j=some c->∃c0,g j=some c0/\c0.ro=c.ro:=by
   intro j c hc;by_cases hj:j=i
   ·subst hj;rw[bL] at hc;cases hc;exact⟨_,hg,by rw[hro,hro']⟩
   ·rw[cl _ _ hj] at hc;exact⟨c,hc,rfl⟩
  obtain⟨c0,h1,h2⟩:=key j c hc;obtain⟨d0,h3,h4⟩:=key k d hd;exact s.inj j k c0 d0 lj lk h1 h3 hjk (by rw[h2,h4];exact hr) hlj hlk
theorem Ev.change{σ:aY}{g:Nat->Option aE}{w w':World}{i:Nat}{b b':aE}{l:Loc}(n:Nat)(hg:g i=some b)(hro:b.ro=false)(hl:σ i=some l)
  (hsz:w'.heap.size=w.heap.size) (hw:∀k,k≠l.bu->w'.heap[k]?=w.heap[k]?) (hos:w'.os=w.os) (hout:w'.output=w.output) (htape:w'.tape=w.tape) :
  Ev σ g n w σ (dg g i (some b')) n w' where
 size:=Nat.le_of_eq hsz.symm
 os:=hos
 out:=hout
 tape:=htape
 mg:=λk _ hn=>hw k (Ne.symm (hn i _ l hg hro hl))
 own:=λj B m hb hr hs=>by
  by_cases hj:j=i
  ·subst hj;exact .inr ⟨j,_,m,hg,hro,hs,rfl⟩
  ·rw[cl _ _ hj] at hb;exact .inr ⟨j,B,m,hb,hr,hs,rfl⟩
 sig:=λ_ _=>rfl
theorem mZ(w:World)(a b:Value):∃k w',(Instr.keyThatStays a b).run P w=.ok k w'/\(k=a\/k=b)/\w'.heap=w.heap/\w'.os=w.os/\w'.output=w.output/\w'.tape=w.tape:=by
 unfold Instr.keyThatStays;by_cases h:Instr.sameBits 10000 a b=true
 ·exact⟨b,w,by simp[h],.inr rfl,rfl,rfl,rfl,rfl⟩
 ·simp only[h,Te,Sem.run_bind,run_choose,S6];split
  ·refine⟨_,_,rfl,?_,rfl,rfl,rfl,rfl⟩;simp
  ·refine⟨_,_,rfl,?_,rfl,rfl,rfl,rfl⟩;split<;>simp
theorem cj.get{σ:aY}:∀{es:List (Value×Value)} {l:List MapEntry},cj σ es l->∀(i:Nat) (k v:Value),es[i]?=some (k,v)->∃e,l[i]?=some e/\aL σ k e.key/\aL σ v e.val
 | [],_,_,i,k,v,h=>by simp at h
 | (k0,v0)::es,_,⟨e,r,q,a,b,s⟩,i,k,v,h=>by
  subst q;cases i with
  | zero=>simp at h;obtain⟨rfl,rfl⟩:=h;exact⟨e,rfl,a,b⟩
  | succ i=>exact cj.get s i k v (by simpa using h)
theorem cj.set{σ:aY}{k v:Value}{e:MapEntry}(hk:aL σ k e.key)(hv:aL σ v e.val):∀{es:List (Value×Value)} {l:List MapEntry} (i:Nat),cj σ es l->cj σ (es.set i (k,v)) (l.set i e)
 | [],_,_,h=>by rw[show _=[] from h];simp[cj]
 | (_,_)::_,_,0,⟨a,r,q,_,_,s⟩=>by subst q;exact⟨e,r,rfl,hk,hv,s⟩
 | (_,_)::_,_,i+1,⟨a,r,q,x,y,s⟩=>by subst q;exact⟨a,r.set i e,rfl,x,y,cj.set hk hv i s⟩
theorem cj.push{σ:aY}{k v:Value}{e:MapEntry}(hk:aL σ k e.key)(hv:aL σ v e.val):∀{es:List (Value×Value)} {l:List MapEntry},cj σ es l->cj σ (es++[(k,v)]) (l++[e])
 | [],_,h=>by rw[show _=[] from h];exact⟨e,[],rfl,hk,hv,rfl⟩
 | (_,_)::_,_,⟨a,r,q,x,y,s⟩=>by subst q;exact⟨a,r++[e],rfl,x,y,cj.push hk hv s⟩
theorem C9{α:Type}{l:List α}{i:Nat}{x:α}(h:l[i]?=some x):l.set i x=l:=by
 apply SA;intro j;by_cases hj:j=i
 ·subst hj;rw[Sc (R9.1 h).1,h]
 ·rw[SD (Ne.symm hj)]
theorem vR{l:List MapEntry}{i:Nat}{e:MapEntry}(h:l[i]?=some e):(l.map (·.born)).set i e.born=l.map (·.born):=by
 apply SA;intro j;by_cases hj:j=i
 ·subst hj;have hlt:=(R9.1 h).1;rw[Sc (by simpa using hlt),RM,h];rfl
 ·rw[SD (Ne.symm hj)]
theorem map_eraseIdx{α β:Type}(f:α->β):∀(l:List α) (i:Nat),(l.eraseIdx i).map f=(l.map f).eraseIdx i
 | [],_=>by simp
 | a::l,0=>by simp
 | a::l,i+1=>by simp[map_eraseIdx f l i]
theorem qb{α:Type}(a:Array α)(i:Nat)(f:α->α)(x:α)(h:a.toList[i]?=some x):(a.modify i f).toList=a.toList.set i (f x):=by
 apply SA;intro j;rw[R7,Array.getElem?_modify,Ua];have hi:i<a.toList.length:=(R9.1 h).1;split
 ·rename_i hij;subst hij;rw[R7] at h;rw[h];rfl
 ·rw[R7]
theorem run_setObj_map(w:World)(r:Nat)(es:Array MapEntry)(clock:Nat)(hw:w.heap[r]?=some (.map es clock))(o:Obj) :
  (setObj r o).run P w=.ok () { w with heap:=w.heap.setIfInBounds r o }:=by
 simp[setObj,Sem.run,hw]
theorem qT(ok:C.Ok P){σ:aY}{h h':aq}{w:World}(s:cU σ h.get w){t:TypeId}{m m' k k' v v':Value}(hm:aL σ m m')(hk:aL σ k k')(hv:aL σ v v')
  (e:cN C h t m k v=some h') :
  ∃w',(Instr.mapUpdate t m' k' v').run P w=.ok () w'/\h'.next=h.next/\cU σ h'.get w'/\Ev σ h.get h.next w σ h'.get h'.next w':=by
 unfold cN at e;split at e
 ·rename_i kt et r hu;split at e
  ·rename_i es he;cases hko:fm C 8 kt k with
   | false=>simp[hko] at e
   | true=>
    simp only[hko,Tp,RO] at e;obtain⟨l,hl,rfl⟩:=hm;obtain⟨es',h1,h2,hst⟩:=s.pQ he hl;have hkt:=mD hko;obtain⟨d,hd⟩:=o6 hko;have hck:=sZ ok w false 8 10000 kt k k' (by omega) hk hko;have hgo:(getObj l.bu).run P w=.ok (.map es' es.length) w:=by simp[getObj,Sem.run,h1]
    have hlt:l.bu<w.heap.size:=(RV.1 h1).1;have put:∀(w1:World) (x:List (Value×Value)) (y:Array MapEntry) (c:Nat),w1.heap=w.heap->w1.os=w.os->w1.output=w.output->w1.tape=w.tape->c=x.length->cj σ (alive x) y.toList->y.toList.map (·.born)=stamps 0 x->
      let h':=h.put r (some (.map x));let w':World:={ w1 with heap:=w1.heap.setIfInBounds l.bu (.map y c) }
      h'.next=h.next/\cU σ h'.get w'/\Ev σ h.get h.next w σ h'.get h'.next w':=by
     intro w1 x y c hh ho hp ht hc hx hb;subst hc;have hoth:∀j,j≠l.bu->(w1.heap.setIfInBounds l.bu (.map y x.length))[j]?=w.heap[j]?:=by
      intro j hj;rw[hh,Sz (Ne.symm hj)]
     have hnew:(w1.heap.setIfInBounds l.bu (.map y x.length))[l.bu]?=some (.map y x.length):=by
      rw[hh,TE,By hlt]
     refine⟨rfl,?_,?_⟩
     ·rw[aq.dQ];exact s.change he rfl rfl hl hoth ⟨y,hnew,hx,hb⟩
     ·rw[aq.dQ];exact Ev.change _ he rfl hl (by simp[hh]) hoth ho hp ht
    split at e
    ·rename_i i v0 hf;obtain⟨q,q1,v1,rfl,q2⟩:=fU ok w hk h2 hf d hd;split at e
     ·rename_i k2 v2 hei;cases hsv:bN k2 k with
      | false=>simp[hsv] at e
      | true=>
       simp only[hsv,RH,IT] at e;subst e;obtain rfl:=jo hsv;obtain⟨en,hen,hk2,hv2⟩:=h2.get i k2 v2 hei;have hen':es'[i]?=some en:=by simpa using hen
       obtain⟨key,w1,kr,kor,kh,ko,kp,kt'⟩:=mZ (P:=P) w en.key k';have hkey:aL σ k2 key:=by rcases kor with rfl | rfl<;>assumption
       have hmod:=qb es' i (λe=>{ e with key,val:=v' }) en (by simpa using hen);have hrel:cj σ (alive (aR (k2,v) es i)) (es'.modify i λe=>{ e with key,val:=v' }).toList:=by
        rw[hmod,oO hkt];exact cj.set (e:={ en with key,val:=v' }) hkey hv i h2
       have hbn:(es'.modify i λe=>{ e with key,val:=v' }).toList.map (·.born)=stamps 0 (aR (k2,v) es i):=by
        rw[hmod,mu hkt,<-hst,Tb];exact vR (e:=en) hen
       obtain⟨p1,p2,p3⟩:=put w1 _ _ es.length kh ko kp kt' (iH _ _).symm hrel hbn;refine⟨_,?_,p1,p2,p3⟩;have hw1:w1.heap[l.bu]?=some (.map es' es.length):=by rw[kh];exact h1
       simp[Instr.mapUpdate,run_underlying (aD ok hu),hgo,hck,q1,hen',kr,run_setObj_map (P:=P) w1 l.bu es' es.length hw1]
     ·cases e
    ·rename_i hf;obtain⟨q,q1,q2⟩:=fU ok w hk h2 hf d hd;obtain rfl:=(show q=none from q2);cases e;have hrel:cj σ (alive (es++[(k,v)])) (es'.push { key:=k',val:=v',born:=es.length }).toList:=by
      rw[Ut,qu hkt];exact cj.push (e:={ key:=k',val:=v',born:=es.length }) hk hv h2
     have hbn:(es'.push { key:=k',val:=v',born:=es.length }).toList.map (·.born)=stamps 0 (es++[(k,v)]):=by
      rw[Ut,Si,hst,oq hkt];simp
     obtain⟨p1,p2,p3⟩:=put w _ _ (es.length+1) rfl rfl rfl rfl (by simp) hrel hbn;refine⟨_,?_,p1,p2,p3⟩;simp[Instr.mapUpdate,run_underlying (aD ok hu),hgo,hck,q1,run_setObj_map (P:=P) w l.bu es' es.length h1]
    ·cases e
  ·cases e
 ·cases e
theorem cj.erase{σ:aY}:∀{es:List (Value×Value)} {l:List MapEntry} (i:Nat),cj σ es l->cj σ (es.eraseIdx i) (l.eraseIdx i)
 | [],l,i,h=>by rw[show l=[] from h];simp;rfl
 | (k,v)::es,l,0,h=>by
  obtain⟨en,rest,rfl,h1,h2,h3⟩:=h;simpa using h3
 | (k,v)::es,l,i+1,h=>by
  obtain⟨en,rest,rfl,h1,h2,h3⟩:=h;simp only[List.eraseIdx_cons_succ];exact⟨en,_,rfl,h1,h2,cj.erase i h3⟩
theorem Gi(ok:C.Ok P){σ:aY}{h h':aq}{w:World}(s:cU σ h.get w){t:TypeId}{ts:List TypeId}(ty:TypeId){m m' k k':Value}(hm:aL σ m m')(hk:aL σ k k')
  (e:mB C h t m k=some h') :
  ∃w',(Builtin.delete_ ⟨t::ts⟩ ty #[m',k']).run P w=.ok (.tuple #[]) w'/\h'.next=h.next/\cU σ h'.get w'/\Ev σ h.get h.next w σ h'.get h'.next w':=by
 unfold mB at e;split at e
 ·rename_i kt et r hu;split at e
  ·rename_i es he;cases hko:fm C 8 kt k with
   | false=>simp[hko] at e
   | true=>
    simp only[hko,Tp,RO] at e;obtain⟨l,hl,rfl⟩:=hm;obtain⟨es',h1,h2,hst⟩:=s.pQ he hl;have hkt:=mD hko;obtain⟨d,hd⟩:=o6 hko;have hck:=λb=>sZ ok w b 8 10000 kt k k' (by omega) hk hko;have hgo:(getObj l.bu).run P w=.ok (.map es' es.length) w:=by simp[getObj,Sem.run,h1]
    have hlt:l.bu<w.heap.size:=(RV.1 h1).1;have put:∀(x:List (Value×Value)) (y:Array MapEntry),es.length=x.length->cj σ (alive x) y.toList->y.toList.map (·.born)=stamps 0 x->
      let h':=h.put r (some (.map x));let w':World:={ w with heap:=w.heap.setIfInBounds l.bu (.map y es.length) }
      h'.next=h.next/\cU σ h'.get w'/\Ev σ h.get h.next w σ h'.get h'.next w':=by
     intro x y hc hx hb;have hoth:∀j,j≠l.bu->(w.heap.setIfInBounds l.bu (.map y es.length))[j]?=w.heap[j]?:=by
      intro j hj;rw[Sz (Ne.symm hj)]
     have hnew:(w.heap.setIfInBounds l.bu (.map y es.length))[l.bu]?=some (.map y es.length):=by
      rw[TE,By hlt]
     refine⟨rfl,?_,?_⟩
     ·rw[aq.dQ];exact s.change he rfl rfl hl hoth ⟨y,by rw[<-hc];exact hnew,hx,hb⟩
     ·rw[aq.dQ];exact Ev.change _ he rfl hl (by simp) hoth rfl rfl rfl
    split at e
    ·rename_i i v0 hf;obtain⟨q,q1,v1,rfl,q2⟩:=fU ok w hk h2 hf d hd;simp only[IT] at e;subst e;have he2:(es'.eraseIdxIfInBounds i).toList=es'.toList.eraseIdx i:=by simp
     have hrel:cj σ (alive (aR (dv,dv) es i)) (es'.eraseIdxIfInBounds i).toList:=by
      rw[he2,qg rfl];exact cj.erase i h2
     have hbn:(es'.eraseIdxIfInBounds i).toList.map (·.born)=stamps 0 (aR (dv,dv) es i):=by
      rw[he2,nV rfl,<-hst,map_eraseIdx]
     obtain⟨p1,p2,p3⟩:=put _ _ (iH _ _).symm hrel hbn;refine⟨_,?_,p1,p2,p3⟩;simp[Builtin.delete_,run_underlying (aD ok hu),hgo,hck,q1,run_setObj_map (P:=P) w l.bu es' es.length h1]
    ·rename_i hf;obtain⟨q,q1,q2⟩:=fU ok w hk h2 hf d hd;obtain rfl:=(show q=none from q2);simp only[IT] at e;subst e;obtain⟨p1,p2,p3⟩:=put _ _ rfl h2 hst;refine⟨_,?_,p1,p2,p3⟩;simp[Builtin.delete_,run_underlying (aD ok hu),hgo,hck,q1,run_setObj_map (P:=P) w l.bu es' es.length h1]
    ·cases e
  ·cases e
 ·cases e
theorem Bi(ok:C.Ok P){σ:aY}{h h':aq}{w:World}(s:cU σ h.get w){t:TypeId}{m m' k k' v:Value}(hm:aL σ m m')(hk:aL σ k k')
  (e:gh C h t m k=some (v,h')) :
  ∃v' w',(Instr.mapEntry t m' k').run P w=.ok v' w'/\aL σ v v'/\h'.next=h.next/\cU σ h'.get w'/\Ev σ h.get h.next w σ h'.get h'.next w':=by
 unfold gh at e;split at e
 ·rename_i kt et r hu;split at e
  ·rename_i es he;cases hko:fm C 8 kt k with
   | false=>simp[hko] at e
   | true=>
    simp only[hko,Tp,RO] at e;obtain⟨l,hl,rfl⟩:=hm;obtain⟨es',h1,h2,hst⟩:=s.pQ he hl;have hkt:=mD hko;obtain⟨d,hd⟩:=o6 hko;have hck:=sZ ok w false 8 10000 kt k k' (by omega) hk hko;have hgo:(getObj l.bu).run P w=.ok (.map es' es.length) w:=by simp[getObj,Sem.run,h1]
    have hlt:l.bu<w.heap.size:=(RV.1 h1).1;have put:∀(w1:World) (g2:Nat->Option aE) (x:List (Value×Value)) (y:Array MapEntry) (c:Nat),w1.heap=w.heap->w1.os=w.os->w1.output=w.output->w1.tape=w.tape->g2=dg h.get r (some (.map x))->c=x.length->cj σ (alive x) y.toList->y.toList.map (·.born)=stamps 0 x->
      let w':World:={ w1 with heap:=w1.heap.setIfInBounds l.bu (.map y c) }
      cU σ g2 w'/\Ev σ h.get h.next w σ g2 h.next w':=by
     intro w1 g2 x y c hh ho hp ht hg2 hc hx hb;subst hc;subst hg2;have hoth:∀j,j≠l.bu->(w1.heap.setIfInBounds l.bu (.map y x.length))[j]?=w.heap[j]?:=by
      intro j hj;rw[hh,Sz (Ne.symm hj)]
     have hnew:(w1.heap.setIfInBounds l.bu (.map y x.length))[l.bu]?=some (.map y x.length):=by
      rw[hh,TE,By hlt]
     exact⟨s.change he rfl rfl hl hoth ⟨y,hnew,hx,hb⟩,Ev.change _ he rfl hl (by simp[hh]) hoth ho hp ht⟩
    split at e
    ·rename_i i v0 hf;obtain⟨q,q1,v1,rfl,q2⟩:=fU ok w hk h2 hf d hd;split at e
     ·rename_i k2 v2 n hei hsi;cases hsv:bN k2 k with
      | false=>simp[hsv] at e
      | true=>
       simp only[hsv,RH,IT,Sb] at e;obtain⟨rfl,rfl⟩:=e;obtain rfl:=jo hsv;obtain⟨en,hen,hk2,hv2⟩:=h2.get i k2 v2 hei;have hen':es'[i]?=some en:=by simpa using hen
       have hborn:en.born=n:=by
        rw[<-hst,RM,hen] at hsi;simpa using hsi
       obtain⟨key,w1,kr,kor,kh,ko,kp,kt'⟩:=mZ (P:=P) w en.key k';have hkey:aL σ k2 key:=by rcases kor with rfl | rfl<;>assumption
       have hmod:=qb es' i (λe=>{ e with key }) en (by simpa using hen);have hrel:cj σ (alive es) (es'.modify i λe=>{ e with key }).toList:=by
        rw[hmod];have:=cj.set (e:={ en with key }) hkey hv2 i h2
        rwa [show (alive es).set i (k2,v2)=alive es from C9 hei] at this
       have hbn:(es'.modify i λe=>{ e with key }).toList.map (·.born)=stamps 0 es:=by
        rw[hmod,<-hst,Tb];exact vR (e:=en) hen
       have hg2:h.get=dg h.get r (some (.map es)):=by
        funext j;unfold dg;split
        ·rename_i hj;rw[hj];exact he
        ·rfl
       obtain⟨p2,p3⟩:=put w1 h.get es _ es.length kh ko kp kt' hg2 rfl hrel hbn;have hw1:w1.heap[l.bu]?=some (.map es' es.length):=by rw[kh];exact h1
       refine⟨.tuple #[v1,.int .i64 en.born],_,?_,?_,rfl,p2,p3⟩
       ·simp[Instr.mapEntry,run_underlying (aD ok hu),hgo,hck,q1,hen',kr,run_setObj_map (P:=P) w1 l.bu es' es.length hw1,goInt]
       ·exact⟨[v1,.int .i64 en.born],rfl,v1,_,rfl,q2,.int .i64 en.born,[],rfl,by rw[hborn];rfl,rfl⟩
     ·cases e
    ·rename_i hf;obtain⟨q,q1,q2⟩:=fU ok w hk h2 hf d hd;obtain rfl:=(show q=none from q2);split at e
     ·rename_i z hz;simp only[IT,Sb] at e;obtain⟨rfl,rfl⟩:=e;have hzr:=eg ok hz w;have hzp:=gj σ z (gK ok hz);have hrel:cj σ (alive (es++[(k,z)])) (es'.push { key:=k',val:=z,born:=es.length }).toList:=by
       rw[Ut,qu hkt];exact cj.push (e:={ key:=k',val:=z,born:=es.length }) hk hzp h2
      have hbn:(es'.push { key:=k',val:=z,born:=es.length }).toList.map (·.born)=stamps 0 (es++[(k,z)]):=by
       rw[Ut,Si,hst,oq hkt];simp
      obtain⟨p2,p3⟩:=put w _ (es++[(k,z)]) _ (es.length+1) rfl rfl rfl rfl (aq.dQ ..) (by simp) hrel hbn;refine⟨.tuple #[z,.int .i64 es.length],_,?_,?_,rfl,p2,p3⟩
      ·simp[Instr.mapEntry,run_underlying (aD ok hu),hgo,hck,q1,hzr,run_setObj_map (P:=P) w l.bu es' es.length h1,goInt]
      ·exact⟨[z,.int .i64 es.length],rfl,z,_,rfl,hzp,.int .i64 es.length,[],rfl,rfl,rfl⟩
     ·cases e
    ·cases e
  ·cases e
 ·cases e
theorem xK{σ:aY}{h h':aq}{w:World}(s:cU σ h.get w)(t:TypeId){m m' n n' v v':Value}(hm:aL σ m m')(hn:aL σ n n')(hv:aL σ v v')
  (e:eF h m n v=some h') :
  ∃w',(Instr.entryStore t m' n' v').run P w=.ok () w'/\h'.next=h.next/\cU σ h'.get w'/\Ev σ h.get h.next w σ h'.get h'.next w':=by
 unfold eF at e;split at e
 ·rename_i r kd b;obtain rfl:=(show n'=_ from hn);split at e
  ·rename_i es he;obtain⟨l,hl,rfl⟩:=hm;obtain⟨es',h1,h2,hst⟩:=s.pQ he hl;have hgo:(getObj l.bu).run P w=.ok (.map es' es.length) w:=by simp[getObj,Sem.run,h1]
   have hlt:l.bu<w.heap.size:=(RV.1 h1).1;split at e
   ·rename_i j hj;split at e
    ·rename_i k v0 hkj;cases e;have hkt0:=wK es _ (Tc hkj);have hkt:cH (k,v).1=false:=hkt0;obtain⟨en,hen,hk2,_⟩:=h2.get j k v0 hkj;have hfind:es'.findIdx? (λe=>((e.born:Int)==b))=some j:=by
      rw[<-hst,List.findIdx?_map] at hj;cases es' with | mk l0=>
      rw[List.findIdx?_toArray];exact hj
     have hmod:=qb es' j (λe=>{ e with val:=v' }) en (by simpa using hen);have hrel:cj σ (alive (aR (k,v) es j)) (es'.modify j λe=>{ e with val:=v' }).toList:=by
      rw[hmod,oO hkt];exact cj.set (e:={ en with val:=v' }) hk2 hv j h2
     have hbn:(es'.modify j λe=>{ e with val:=v' }).toList.map (·.born)=stamps 0 (aR (k,v) es j):=by
      rw[hmod,mu hkt,<-hst,Tb];exact vR (e:=en) hen
     have hl2:=iH (x:=(k,v)) es j;have hoth:∀i,i≠l.bu->(w.heap.setIfInBounds l.bu (.map (es'.modify j λe=>{ e with val:=v' }) es.length))[i]?=w.heap[i]?:=by
      intro i hi;rw[Sz (Ne.symm hi)]
     have hnew:(w.heap.setIfInBounds l.bu (.map (es'.modify j λe=>{ e with val:=v' }) es.length))[l.bu]?=some (.map (es'.modify j λe=>{ e with val:=v' }) es.length):=by
      rw[TE,By hlt]
     refine⟨{ w with heap:=w.heap.setIfInBounds l.bu (.map (es'.modify j λe=>{ e with val:=v' }) es.length) },?_,rfl,?_,?_⟩
     ·have hai:(asInt (.int kd b)).run P w=.ok b w:=rfl;unfold Instr.entryStore;simp only[Sem.run_bind,hgo,Result.andThen_ok,hai,hfind,run_setObj_map (P:=P) w l.bu es' es.length h1]
     ·rw[aq.dQ];exact s.change he rfl rfl hl hoth ⟨_,by rw[hl2];exact hnew,hrel,hbn⟩
     ·rw[aq.dQ];exact Ev.change _ he rfl hl (by simp) hoth rfl rfl rfl
    ·cases e
   ·cases e
  ·cases e
 ·cases e
end
end Go.Abs
/-
 Soundness,ninth part: stores,struct and slice literals,make.
-/
namespace Go.Abs
open Go
section
variable {C:Ctx}{P:Program}
theorem sG{σ:aY}:∀{vs vs':List Value},aJ σ vs vs'->vs.all one=true->∀v∈vs',v.oneCell'=true
 | [],_,h,_,v,hv=>by rw[show _=[] from h] at hv;cases hv
 | x::xs,_,⟨a,b,q,r,s⟩,ho,v,hv=>by
  subst q;simp only[List.all_cons,IN] at ho;rcases R0.1 hv with rfl | hv
  ·exact r.one ho.1
  ·exact sG s ho.2 v hv
theorem tY{σ:aY}{g:Nat->Option aE}{w:World}(s:cU σ g w){b off:Nat}{cs vs vs':List Value}{l:Loc}(hg:g b=some (.cells false cs))(hl:σ b=some l)
  (hv:aJ σ vs vs') (hone:vs.all one=true) (hle:off+vs.length<=cs.length) (n:Nat) :
  ∃w',(storeCells ⟨l.bu,l.off+off,none⟩ vs').run P w=.ok () w'/\cU σ (dg g b (some (.cells false (bk cs off vs)))) w'/\
   Ev σ g n w σ (dg g b (some (.cells false (bk cs off vs)))) n w':=by
 obtain⟨arr,ty,fr,h1,h2,h3,h4,h5⟩:=s.cells hg hl;obtain rfl:=h3 rfl;have hlen:=hv.length;have hst:=run_storeCells_at P l.bu (l.off+off) ty vs' 0 arr w h1 (by omega) (sG hv hone);refine⟨_,hst,?_,Ev.write n hg hl _⟩;refine s.write hg hl h1 _ ?_ ?_ ?_
 ·simp;omega
 ·rw[j5 cs vs off hle];simp;omega
 ·rw[j5 cs vs off hle];have:=EE arr.toList vs' cs l.off off (by rw[hlen];exact hle) (by simpa using h4);simp only[Tq];rw[this];exact h5.Je off hv
theorem Jt(ok:C.Ok P){σ:aY}{g:Nat->Option aE}{w:World}(s:cU σ g w){h h':aq}{t:TypeId}{p p' v v':Value}(hp:aL σ p p')(hv:aL σ v v')
  (e:sV C h t p v=some h') (hg:∀a,p=.pointer (some a)->g a.block=h.get a.block) (n:Nat) :
  ∃b cs,(∃o,p=.pointer (some ⟨b,o,none⟩))/\h'=h.put b (some (.cells false cs))/\
   ∃w',(Instr.storeAt t p' v').run P w=.ok () w'/\cU σ (dg g b (some (.cells false cs))) w'/\Ev σ g n w σ (dg g b (some (.cells false cs))) n w':=by
 unfold sV at e;split at e
 ·rename_i b off;split at e
  ·rename_i cs sz hb hs;cases hc:(v.cells.toList.length==sz&&v.cells.toList.all one&&Nat.ble (off+sz) cs.length) with
   | false=>simp only[hc,RO] at e;cases e
   | true=>
    simp only[hc,RH,IT] at e;simp only[IN,SK,Th] at hc;obtain⟨⟨hc1,hc2⟩,hc3⟩:=hc;obtain⟨l,hl,_,rfl⟩:=hp;have hvc:=hv.cells;have hl':σ b=some l:=hl;obtain⟨w',q1,q2,q3⟩:=tY (P:=P) (off:=off) s ((hg _ rfl).trans hb) hl' hvc hc2 (by omega) n;refine⟨b,_,⟨off,rfl⟩,e.symm,w',?_,q2,q3⟩;have hsz:v'.cells.size=sz:=by
     have:=hvc.length;simp only[T2] at this hc1;omega
    simp[Instr.storeAt,Instr.sureAddr,storeVar,bF ok hs,hsz,q1]
  ·cases e
 ·cases e
theorem rO(off:Nat):∀(vs:List Value) (j:Nat) (cs:Array Value),off+j+vs.length<=cs.size->
  ((vs.zipIdx j).foldl (λcs (p:Value×Nat)=>cs.setIfInBounds (off+p.2) p.1) cs).toList=bk cs.toList (off+j) vs
 | [],j,cs,_=>by simp[bk]
 | v::vs,j,cs,h=>by
  simp only[List.zipIdx_cons,List.foldl_cons];simp only[R4] at h;rw[rO off vs (j+1) (cs.setIfInBounds (off+j) v) (by simp;omega)];have e:=list_seg_step cs.toList (off+j) v vs (by simp;omega);simp only[bk,Array.toList_setIfInBounds,R4];simpa [T1] using e
theorem uZ{σ:aY}{place place':Nat->Option (Nat×Nat)}(hpl:∀i x,place i=some x->place' i=some x):∀(parts:List (Nat×Value)) (parts':List (Nat×Value)) (cs:List Value) (cs':Array Value) (r:List Value),
  parts'.map (·.1)=parts.map (·.1)->aJ σ (parts.map (·.2)) (parts'.map (·.2))->aJ σ cs cs'.toList->lp place cs parts=some r->
  ∃r',Instr.fill place' cs' parts'=some r'/\aJ σ r r'.toList
 | [],parts',cs,cs',r,h1,_,h3,e=>by
  have:parts'=[]:=by simpa using h1
  subst this;cases e;exact⟨cs',rfl,h3⟩
 | (i,v)::parts,parts',cs,cs',r,h1,h2,h3,e=>by
  cases parts' with
  | nil=>simp at h1
  | cons p parts'=>
   obtain⟨i',v'⟩:=p;simp only[JN,R1] at h1;obtain⟨rfl,h1⟩:=h1;simp only[JN] at h2;obtain⟨a,b,q,hv,hvs⟩:=h2;simp only[R1] at q;obtain⟨rfl,rfl⟩:=q;unfold lp at e;cases hp:place i' with
   | none=>simp[hp] at e
   | some x=>
    obtain⟨off,size⟩:=x;simp only[hp] at e;cases hc:(v.cells.toList.length==size&&Nat.ble (off+size) cs.length) with
    | false=>simp only[hc,RO] at e;cases e
    | true=>
     simp only[hc,RH] at e;simp only[IN,SK,Th] at hc;have hvc:=hv.cells;have hl1:=hvc.length;have hl3:=h3.length;simp only[T2] at hl1 hl3 hc;have hsp:(v'.cells.zipIdx.foldl (λcs (p:Value×Nat)=>cs.setIfInBounds (off+p.2) p.1) cs').toList=bk cs'.toList off v'.cells.toList:=by
      have:=rO off v'.cells.toList 0 cs' (by simp;omega);rw[<-Array.foldl_toList,Array.toList_zipIdx];simpa using this
     obtain⟨r',q1,q2⟩:=uZ hpl parts parts' (bk cs off v.cells.toList) (v'.cells.zipIdx.foldl (λcs (p:Value×Nat)=>cs.setIfInBounds (off+p.2) p.1) cs') r h1 hvs
      (by rw[hsp];exact h3.Je off hvc) e
     refine⟨r',?_,q2⟩;simp only[Instr.fill,hpl i' _ hp];rw[AT (by simp only[SZ,Su];omega)];exact q1
theorem vq(z:Array Value):∀n,((Array.range (n*z.size)).map (λi=>z[i % z.size]!)).toList=c7 z.toList n:=by
 intro n;rw[Array.toList_map,Array.toList_range]
 induction n with
 | zero=>simp[c7]
 | succ n ih=>
  have:(n+1)*z.size=z.size+n*z.size:=by rw[Ss];omega
  rw[this,List.range_add,Si,c7];congr 1
  ·apply SA;intro i;rw[RM];by_cases hi:i<z.size
   ·rw[Tg hi];simp[Nat.mod_eq_of_lt hi,hi]
   ·rw[R3 (by simp;omega),R3 (by simp;omega)];rfl
  ·rw[<-ih,Ti];apply List.map_congr_left;intro i _;simp
theorem jr{z:List Value}(h:fG z=true):∀n,fG (c7 z n)=true
 | 0=>rfl
 | n+1=>by
  have:∀(a b:List Value),fG a=true->fG b=true->fG (a++b)=true:=by
   intro a b ha hb
   induction a with
   | nil=>simpa using hb
   | cons x xs ih=>simp only[fG,IN,T3] at ha ⊢;exact⟨ha.1,ih ha.2⟩
  exact this _ _ h (jr h n)
theorem fM{z:Value}(h:plain z=true):fG z.cells.toList=true:=by
 cases z<;>first
  | (rename_i cs;cases cs;simpa only[plain,Value.cells] using h)
  | (simp only[Value.cells,fG,h,TJ];done)
  | (simp[plain] at h;done)
theorem yx(ok:C.Ok P):∀(fs:List Field) (ps:List (Nat×Nat)),places C fs=some ps->∀w,(fs.mapM (λf=>do pure (f.offset,<-sizeOf f.type):Field->Sem (Nat×Nat))).run P w=.ok ps w
 | [],ps,e,w=>by cases e;simp
 | f::fs,ps,e,w=>by
  unfold places at e;split at e
  ·rename_i n r h1 h2;cases e;have:=yx ok fs r h2 w;simp only[List.mapM_cons,Sem.run_bind,bF ok h1,Result.andThen_ok,Sem.run_pure,this]
  ·cases e
theorem HG(ok:C.Ok P){σ:aY}(w:World){t:TypeId}{parts:List (Nat×Value)}{parts':Array (Nat×Value)}{v:Value}
  (h1:parts'.toList.map (·.1)=parts.map (·.1)) (h2:aJ σ (parts.map (·.2)) (parts'.toList.map (·.2))) (e:sP C t parts=some v) :
  ∃v',(Instr.build t parts').run P w=.ok v' w/\aL σ v v':=by
 unfold sP at e;split at e
 ·rename_i z fields hz hu;split at e
  ·rename_i ps hps;cases hf:lp (λi=>ps[i]?) z.cells.toList parts with
   | none=>simp[hf] at e
   | some cs=>
    simp[hf] at e;subst e
    obtain⟨r',q1,q2⟩:=uZ (σ:=σ) (place:=λi=>ps[i]?) (place':=(ps.toArray[·]?)) (by intro i x h;simpa using h) parts parts'.toList _ z.cells _ h1 h2
     (cX σ _ (fM (gK ok hz))) hf
    have hpl:(fields.mapM (λf=>do pure (f.offset,<-sizeOf f.type):Field->Sem (Nat×Nat))).run P w=.ok ps.toArray w:=by
     have:=yx ok fields.toList ps hps w;rw[Array.mapM_eq_mapM_toList,Sem.run_map,this];rfl
    refine⟨.agg r',?_,⟨r'.toList,rfl,q2⟩⟩;simp only[Instr.build,Sem.run_bind,eg ok hz,Result.andThen_ok,run_underlying (aD ok hu),hpl,q1,Sem.run_pure]
  ·cases e
 ·rename_i z n el hz hu;split at e
  ·rename_i sz hs;cases hf:lp (λi=>some (i*sz,sz)) z.cells.toList parts with
   | none=>simp[hf] at e
   | some cs=>
    simp[hf] at e;subst e
    obtain⟨r',q1,q2⟩:=uZ (σ:=σ) (place:=λi=>some (i*sz,sz)) (place':=λi=>some (i*sz,sz)) (by intro i x h;exact h) parts parts'.toList _ z.cells _ h1 h2
     (cX σ _ (fM (gK ok hz))) hf
    refine⟨.agg r',?_,⟨r'.toList,rfl,q2⟩⟩;simp only[Instr.build,Sem.run_bind,eg ok hz,Result.andThen_ok,run_underlying (aD ok hu),bF ok hs,q1,Sem.run_pure]
  ·cases e
 ·cases e
end
end Go.Abs
/-
 Soundness,tenth part: operations that lay a block.
-/
namespace Go.Abs
open Go
section
variable {C:Ctx}{P:Program}
def Lays(P:Program)(σ:aY)(g:Nat->Option aE)(n:Nat)(w:World)(b:aE)(v:Value)(sem:Sem Value):Prop:=
 ∃l v' w',sem.run P w=.ok v' w'/\aL (dg σ n (some l)) v v'/\cU (dg σ n (some l)) (dg g n (some b)) w'/\Ev σ g n w (dg σ n (some l)) (dg g n (some b)) (n+1) w'/\
  l.bu=w.heap.size/\w'.heap.size=w.heap.size+1
theorem lI{σ:aY}{g:Nat->Option aE}{w:World}(s:cU σ g w){n:Nat}(hn:σ n=none)(elem:TypeId){cs:List Value}{cs':Array Value}(hv:aJ σ cs cs'.toList)
  {sem:Sem Value} {v:Value} {f:Value} (hr:sem.run P w=.ok f (w.alloc (.cells cs' elem))) (hf:aL (dg σ n (some ⟨w.heap.size,0,cs'.size⟩)) v f) :
  Lays P σ g n w (.cells false cs) v sem:=by
 obtain⟨h1,h2⟩:=BU s hn elem hv;exact⟨⟨w.heap.size,0,cs'.toList.length⟩,f,_,hr,by simpa using hf,h1,h2,rfl,by simp⟩
theorem HS(ok:C.Ok P){σ:aY}{g:Nat->Option aE}{w:World}(s:cU σ g w){n:Nat}(hn:σ n=none){t:TypeId}{z:Value}(hz:C.zero t=some z) :
  Lays P σ g n w (.cells false z.cells.toList) (.pointer (some ⟨n,0,none⟩)) (Instr.alloc t true (.tuple #[])):=by
 refine lI s hn t (cX σ _ (fM (gK ok hz))) (f:=.pointer (some ⟨w.heap.size,0,none⟩)) ?_ (Fl σ n _ rfl);simp[Instr.alloc,eg ok hz,newVar,newRow]
theorem Mr{σ:aY}{g:Nat->Option aE}{w:World}(s:cU σ g w){n:Nat}(hn:σ n=none)(t:TypeId){x x':Value}(hx:aL σ x x') :
  Lays P σ g n w (.cells false x.cells.toList) (.pointer (some ⟨n,0,none⟩)) (Instr.box t x'):=by
 refine lI s hn t hx.cells (f:=.pointer (some ⟨w.heap.size,0,none⟩)) ?_ (Fl σ n _ rfl);simp[Instr.box,newVar,newRow]
theorem EV{σ:aY}{g:Nat->Option aE}{w:World}(s:cU σ g w){n:Nat}(hn:σ n=none)(t:TypeId) :
  Lays P σ g n w (.map []) (.map (some n)) (Instr.makeMap t none):=by
 have hold:∀b,b<w.heap.size->(w.alloc (.map #[] 0)).heap[b]?=w.heap[b]?:=λb hb=>heap_alloc_old w _ b hb;refine⟨⟨w.heap.size,0,0⟩,.map (some w.heap.size),w.alloc (.map #[] 0),?_,⟨_,bL _ _ _,rfl⟩,s.alloc hn rfl hold ⟨#[],heap_alloc_new w _,rfl,rfl⟩,
  Ev.alloc rfl (by simp) hold rfl rfl rfl _,rfl,by simp⟩
 simp[Instr.makeMap]
theorem lg(σ:aY)(n:Nat)(b len cap c size:Nat)(hle:len<=cap)(h0:c=0->cap=0)(hroom:cap*c<=size) :
  aL (dg σ n (some ⟨b,0,size⟩)) (.slice (some ⟨n,0,none⟩) len c) (.slice (some ⟨b,0,none⟩) len cap):=
 ⟨⟨b,0,size⟩,⟨b,0,none⟩,cap,bL _ _ _,rfl,rfl,hle,h0,λ_=>⟨rfl,by simpa using hroom⟩⟩
theorem mC(z:List Value):∀n,(c7 z n).length=n*z.length
 | 0=>by simp[c7]
 | n+1=>by rw[c7,RP,mC z n,Ss];omega
theorem rv{place:Nat->Option (Nat×Nat)}:∀{parts:List (Nat×Value)} {cs r:List Value},lp place cs parts=some r->r.length=cs.length
 | [],cs,r,e=>by cases e;rfl
 | (i,v)::parts,cs,r,e=>by
  unfold lp at e;split at e
  ·cases e
  ·rename_i off size hp;cases hc:(v.cells.toList.length==size&&Nat.ble (off+size) cs.length) with
   | false=>simp only[hc,RO] at e;cases e
   | true=>
    simp only[hc,RH] at e;simp only[IN,SK,Th] at hc;rw[rv e,j5 _ _ _ (by omega)]
theorem xV(ok:C.Ok P){σ:aY}{g:Nat->Option aE}{w:World}(s:cU σ g w){h h':aq}(hn:σ h.next=none){t:TypeId}{len:Nat}{parts:List (Nat×Value)}
  {parts':Array (Nat×Value)} {v:Value} (h1:parts'.toList.map (·.1)=parts.map (·.1)) (h2:aJ σ (parts.map (·.2)) (parts'.toList.map (·.2)))
  (e:gV C h t len parts=some (v,h')) :
  ∃b,b.ro=false/\h'=h.alloc b/\Lays P σ g h.next w b v (Instr.buildSlice t len parts'):=by
 unfold gV at e;split at e
 ·rename_i el hu;split at e
  ·rename_i n z hs hz;cases hc:(Nat.ble (len*n) 16777216&&Nat.blt 0 n) with
   | false=>simp only[hc,RO] at e;cases e
   | true=>
    simp only[hc,RH] at e;simp only[IN,Th,Nat.blt_eq] at hc;obtain⟨hc1,hc2⟩:=hc;split at e
    ·rename_i cs hf;cases e;obtain⟨i,hi,hiz,hzp,hzs⟩:=oT ok hz;obtain⟨i2,hi2,hin⟩:=o9 ok hs;rw[hi] at hi2;cases hi2;have hzn:z.cells.size=n:=by omega
     refine⟨_,rfl,rfl,?_⟩;have hfill:∀cs0:Array Value,cs0.toList=c7 z.cells.toList len->∃r',Instr.fill (λi=>some (i*n,n)) cs0 parts'.toList=some r'/\aJ σ cs r'.toList:=λcs0 h0=>
      uZ (σ:=σ) (place:=λi=>some (i*n,n)) (place':=λi=>some (i*n,n)) (by intro i x h;exact h) parts parts'.toList _ cs0 _ h1 h2
       (by rw[h0];exact cX σ _ (jr (fM hzp) len)) hf
     have hlen:cs.length=len*n:=by rw[rv hf,mC];simp[hzn]
     have hno:¬(len*n > 2 ^ 24):=by simp;omega
     by_cases hl0:len=0
     ·subst hl0;obtain⟨r',q1,q2⟩:=hfill ((Array.range (0*n)).map (λi=>(#[]:Array Value)[i % (#[]:Array Value).size]!)) (by simp[c7]);refine lI s hn el q2 (f:=.slice (some ⟨w.heap.size,0,none⟩) 0 0) ?_ (by simpa using lg σ h.next w.heap.size 0 0 0 r'.size (AS _) (λ_=>rfl) (by simp))
      simp only[UN] at q1 hno;simp[Instr.buildSlice,run_underlying (aD ok hu),bF ok hs,newRow] at q1 ⊢;simp[q1]
     ·obtain⟨r',q1,q2⟩:=hfill ((Array.range (len*n)).map (λi=>z.cells[i % z.cells.size]!)) (by rw[<-hzn];exact vq z.cells len);have hr':r'.size=len*n:=by have:=q2.length;simp only[T2] at this;omega
      have hbq:(len==0)=false:=by simpa using hl0
      refine lI s hn el q2 (f:=.slice (some ⟨w.heap.size,0,none⟩) len len) ?_ ?_
      ·have hne:¬(len*n=0):=Nat.mul_ne_zero hl0 (by omega);simp only[Instr.buildSlice,Sem.run_bind,run_underlying (aD ok hu),Result.andThen_ok,bF ok hs,hno,Te,hne,Sem.run_ite,eg ok hz,Sem.run_pure,q1,newRow,run_newObj];rfl
      ·rw[hbq];exact lg σ h.next w.heap.size len len n r'.size (AS _) (by omega) (by omega)
    ·cases e
  ·cases e
 ·cases e
theorem AR(ok:C.Ok P){σ:aY}{g:Nat->Option aE}{w:World}(s:cU σ g w){h h':aq}(hn:σ h.next=none){t:TypeId}{x x' y y' v:Value}(hx:aL σ x x')(hy:aL σ y y')
  (e:je C h t x y=some (v,h')) :
  ∃b,b.ro=false/\h'=h.alloc b/\Lays P σ g h.next w b v (Instr.makeSlice t x' y'):=by
 unfold je at e;split at e
 ·rename_i el k1 l k2 c hu;obtain rfl:=(show x'=_ from hx);obtain rfl:=(show y'=_ from hy);split at e
  ·rename_i n z by_ hs hz hb;split at e
   ·rename_i hc;obtain⟨hc0,rfl,hc2,hc3,hc4⟩:=hc;cases e;obtain⟨i,hi,hiz,hzp,hzs⟩:=oT ok hz;obtain⟨i2,hi2,hin⟩:=o9 ok hs;rw[hi] at hi2;cases hi2;obtain⟨i3,hi3,hib⟩:=xi ok hb;rw[hi] at hi3;cases hi3;have hzn:z.cells.size=n:=by omega
    have hwrap:IntKind.i64.wrap l=l:=by
     have hs:IntKind.i64.signed=true:=rfl;have hbits:IntKind.i64.bits=64:=rfl;simp only[IntKind.wrap,hs,hbits,Bool.true_and,Su];have:l % (2 ^ 64:Int)=l:=Uu hc0 (by omega);rw[this,AT (by omega)]
    refine⟨_,rfl,rfl,?_⟩;have hrows:=vq z.cells l.toNat;rw[hzn] at hrows;have hrel:aJ σ (c7 z.cells.toList l.toNat) ((Array.range (l.toNat*n)).map (λi=>z.cells[i % z.cells.size]!)).toList:=by
     rw[hzn,hrows];exact cX σ _ (jr (fM hzp) _)
    have hsz:((Array.range (l.toNat*n)).map (λi=>z.cells[i % z.cells.size]!)).size=l.toNat*n:=by simp
    have hl0:¬l<0:=by omega
    have hby:¬(i.bytes*l > 2 ^ 48):=by rw[hib];simp;omega
    have hti:(typeInfo el).run P w=.ok i w:=by simp[typeInfo,hi]
    by_cases hz0:l.toNat=0
    ·refine lI s hn el hrel (f:=.slice (some ⟨w.heap.size,0,none⟩) l.toNat l.toNat) ?_ ?_
     ·have:l=0:=by omega
      subst this;simp[Instr.makeSlice,run_underlying (aD ok hu),asInt,asIntOf,hti,hwrap,newRow,bF ok hs,show Array.range 0=#[] from rfl]
     ·have hbq:(l.toNat==0)=true:=by simpa using hz0
      rw[hbq];exact lg σ h.next w.heap.size l.toNat l.toNat 0 _ (AS _) (λ_=>hz0) (by simp)
    ·have hbq:(l.toNat==0)=false:=by simpa using hz0
     refine lI s hn el hrel (f:=.slice (some ⟨w.heap.size,0,none⟩) l.toNat l.toNat) ?_ ?_
     ·have hne:¬(l.toNat*n=0):=Nat.mul_ne_zero hz0 (by omega);simp only[Instr.makeSlice,Sem.run_bind,run_underlying (aD ok hu),Result.andThen_ok,asInt,asIntOf,Sem.run_pure,hti,hwrap];have hcond:(decide (l<0)||decide ((i.bytes:Int)*l > 2 ^ 48)||decide (l<0)||decide (l > l))=false:=by
       rw[U1 hl0,U1 hby,U1 (Int.lt_irrefl l)];rfl
      rw[hcond];simp only[S6,Te,Sem.run_bind,run_askRoom,Result.andThen_ok,bF ok hs,hne,eg ok hz,Sem.run_pure,newRow,run_newObj];rfl
     ·rw[hbq];exact lg σ h.next w.heap.size l.toNat l.toNat n _ (AS _) (by omega) (by rw[hsz];exact AS _)
   ·cases e
  ·cases e
 ·cases e
end
end Go.Abs
/-
 Soundness,eleventh part: append,copy,clear.
-/
namespace Go.Abs
open Go
section
variable {C:Ctx}{P:Program}
theorem Cc{σ:aY}(w:World){x x':Value}{n:Nat}(hx:aL σ x x')(e:jA x=some n):(Builtin.lenOf x').run P w=.ok n w:=by
 unfold jA at e;split at e
 ·cases e;rename_i a _;cases a with
  | none=>obtain⟨rfl,rfl,rfl⟩:=hx;simp[Builtin.lenOf]
  | some a=>obtain⟨l,a',cap,_,_,rfl,_⟩:=hx;simp[Builtin.lenOf]
 ·cases e;obtain rfl:=(show x'=_ from hx);simp[Builtin.lenOf]
 ·cases e
theorem Ak(l:List UInt8):fG (l.map λb=>.int .u8 b.toNat)=true:=by
 induction l with
 | nil=>rfl
 | cons x xs ih=>simp only[JN,fG,plain,ih,TJ]
theorem xl{σ:aY}{g:Nat->Option aE}{w:World}(s:cU σ g w){h:aq}{x x':Value}{sz n m:Nat}{new:List Value}(hx:aL σ x x')
  (hg:∀a n c,x=.slice (some a) n c->g a.block=h.get a.block) (hm:jA x=some m) (hle:n<=m) (e:iE h sz n x=some new) :
  ∃new',aJ σ new new'/\∀w1:World,w1.heap=w.heap->(Builtin.firstCells sz n x').run P w1=.ok ⟨new'⟩ w1:=by
 unfold iE at e;split at e
 ·obtain⟨rfl,rfl,rfl⟩:=hx;cases e;exact⟨[],rfl,λw1 _=>by simp[Builtin.firstCells]⟩
 ·rename_i b off ln c;by_cases hn0:n=0
  ·subst hn0;obtain⟨l,a',cap,hl,_,rfl,hlc,h0,hne⟩:=hx;simp only[beq_self_eq_true,RH,IT] at e;subst e;exact⟨[],rfl,λw1 _=>by simp[Builtin.firstCells,loadCells,loadCellsFrom]⟩
  rw[show (n==0)=false by simpa using hn0] at e;simp only[RO] at e;split at e
  ·rename_i cs hc;obtain⟨ro,hb⟩:=lY hc;obtain⟨l,a',cap,hl,_,rfl,hlc,h0,hne⟩:=hx;simp only[jA,IT] at hm;obtain⟨arr,ty,fr,h1,h2,h3,h4,h5⟩:=s.cells ((hg _ _ _ rfl).trans hb) hl;by_cases hcap:cap=0
   ·have hn:n=0:=by omega
    subst hn;obtain⟨rfl,hl0⟩:=eV e;have:(cs.drop off).take (0*sz)=[]:=by simp
    rw[this];exact⟨[],rfl,λw1 _=>by simp[Builtin.firstCells,loadCells,loadCellsFrom]⟩
   ·obtain⟨rfl,_⟩:=hne hcap;have key:∀w1:World,w1.heap=w.heap->∃x',(loadCells ⟨l.bu,l.off+off,none⟩ (n*sz)).run P w1=.ok ⟨x'⟩ w1/\aJ σ new x':=λw1 hw=>
     rI (P:=P) (w:=w1) (by rw[hw];exact h1) h5 off (n*sz) new e
    obtain⟨x0,hx0,hr0⟩:=key w rfl;refine⟨x0,hr0,λw1 hw=>?_⟩;have:=run_loadCells_list (P:=P) w1 ⟨l.bu,l.off+off,none⟩ x0 (λj v hj=>?_)
    ·obtain⟨_,hlen⟩:=eV e;rw[hr0.length,hlen] at this;simpa [Builtin.firstCells] using this
    ·obtain⟨hnew,hlen⟩:=eV e;have hrow:x0=(((arr.toList.drop l.off).take cs.length).drop off).take (n*sz):=by
      have hx:=hx0
      have hh:=run_loadCells_list (P:=P) w ⟨l.bu,l.off+off,none⟩ ((((arr.toList.drop l.off).take cs.length).drop off).take (n*sz)) (λj v hj=>by
       have hjn:j<n*sz:=by
        have:=(R9.1 hj).1;simp only[Sm] at this;omega
       rw[ik,cell_of_row w l.bu _ arr ty fr h1];rw[Sg,By hjn,Se,Sg] at hj;split at hj
       ·rw[Se] at hj;rw[<-R7,show l.off+off+j=l.off+(off+j) from by omega];exact hj
       ·cases hj)
      have hl2:((((arr.toList.drop l.off).take cs.length).drop off).take (n*sz)).length=n*sz:=by
       have:=((h5.drop off).take (n*sz)).length;rw[this,<-hnew,hlen]
      rw[hl2,hx] at hh;cases hh;rfl
     subst hrow;have hjn:j<n*sz:=by
      have:=(R9.1 hj).1;simp only[Sm] at this;omega
     rw[ik,cell_of_row w1 l.bu _ arr ty fr (by rw[hw];exact h1)];rw[Sg,By hjn,Se,Sg] at hj;split at hj
     ·rw[Se] at hj;rw[<-R7,show l.off+off+j=l.off+(off+j) from by omega];exact hj
     ·cases hj
  ·cases e
 ·rename_i str;obtain rfl:=(show x'=_ from hx);cases e;refine⟨_,cX σ _ (Ak _),λw1 _=>?_⟩;simp only[Builtin.firstCells,Sem.run_pure];congr 1;apply TT;simp
 ·cases e
structure Ar(C:Ctx)(P:Program)(w:World)(e:TypeId)(size n:Nat)(appended:Sem (Array Value))(base:Option Addr)(sLen sCap:Nat)(r:Result Value):Prop where
 room:∀(w':World) (new:List Value),sLen+n<=sCap->appended.run P w=.ok ⟨new⟩ w->(match base with | some a=>(storeCells (a.add (sLen*size)) new).run P w=.ok () w' | none=>w'=w)->
  r=.ok (.slice base (sLen+n) sCap) w'
 grow:∀(z:Value) (by_:Nat) (c6 new:List Value),C.zero e=some z->C.bytes e=some by_->sCap<sLen+n->0<by_->(sLen+n)*by_<=140737488355328->
  (∀w1:World,w1.heap=w.heap->appended.run P w1=.ok ⟨new⟩ w1)->(∀w1:World,w1.heap=w.heap->(Builtin.firstCells size sLen (.slice base sLen sCap)).run P w1=.ok ⟨c6⟩ w1)->
  ∃cap,sLen+n<=cap/\r=.ok (.slice (some ⟨w.heap.size,0,none⟩) (sLen+n) cap) (w.drew.alloc (.cells ⟨c6++new++(Builtin.zeroCells z.cells (cap-(sLen+n))).toList⟩ e))
theorem nI(ok:C.Ok P){e:TypeId}{by_ sLen n sCap:Nat}(zeros:Bool)(hb:C.bytes e=some by_)(hgt:sCap<sLen+n)(hby:0<by_)(hroom:(sLen+n)*by_<=140737488355328) :
  ∃i:TypeInfo,(∀w:World,(typeInfo e).run P w=.ok i w)/\¬(((sLen+n:Nat):Int) > IntKind.i64.max/\(zeros=true\/i.bytes=0))/\¬(Builtin.nextslicecap (sLen+n) sCap*i.bytes > 2 ^ 48):=by
 obtain⟨i,hi,hib⟩:=xi ok hb;have hfit:=growslice_fits (bytes:=by_) hgt hroom;have hneed:sLen+n<=140737488355328:=AI (Nat.le_mul_of_pos_right _ hby) hroom;refine⟨i,λw=>by simp[typeInfo,hi],?_,by rw[hib];simp;omega⟩;have hm:IntKind.i64.max=9223372036854775807:=by decide
 rw[hm];omega
theorem mj(c6 new:List Value)(Z:Array Value):((⟨c6⟩:Array Value)++⟨new⟩++Z)=⟨c6++new++Z.toList⟩:=TT (by simp)
def JR:TypeDesc->Bool
 | .int _=>true
 | _=>false
theorem BP(ok:C.Ok P)(w:World){t e:TypeId}{ts:List TypeId}{ty:TypeId}{size n:Nat}{base:Option Addr}{sLen sCap:Nat}{x':Value}(hu:C.gZ t=some (.slice e))(hs:C.size e=some size)
  (hd:∀xt,ts.head?=some xt->∃d,C.gZ xt=some d/\JR d=false) (hn:(Builtin.lenOf x').run P w=.ok n w) :
  Ar C P w e size n (Builtin.firstCells size n x') base sLen sCap ((Builtin.append_ ⟨t::ts⟩ ty ⟨[.slice base sLen sCap,x']⟩).run P w):=by
 have a0:(⟨t::ts⟩:Array TypeId)[0]?=some t:=rfl;have b0:(⟨[.slice base sLen sCap,x']⟩:Array Value)[0]?=some (.slice base sLen sCap):=rfl;have b1:(⟨[.slice base sLen sCap,x']⟩:Array Value)[1]?=some x':=rfl;cases ts with
 | nil=>
  have a1:(⟨[t]⟩:Array TypeId)[1]?=none:=rfl;refine⟨λw' new hle ha hst=>?_,λz by_ c6 new hz hb hgt hby hroom ha ho=>?_⟩
  ·simp only[Builtin.append_,a0,a1,b0,b1,Sem.run_bind,run_underlying (aD ok hu),bF ok hs,Result.andThen_ok,Sem.run_pure,hn,S6,Te,TN,SU,hle,ha];cases base with
   | none=>subst hst;simp
   | some a=>simp[hst]
  ·obtain⟨i,hti,h1,h2⟩:=nI (n:=n) ok false hb hgt hby hroom;refine⟨(Question.appendCap (sLen+n) sCap e).cut (w.tape w.drawn (.appendCap (sLen+n) sCap e)),by simp[Question.cut],?_⟩;have hd:w.drew.heap=w.heap:=rfl;have hgt:¬sLen+n<=sCap:=by omega
   have h1:¬(((sLen+n:Nat):Int) > IntKind.i64.max/\(False\/i.bytes=0)):=λh=>h1 ⟨h.1,h.2.elim False.elim .inr⟩;simp only[Builtin.append_,a0,a1,b0,b1,Sem.run_bind,run_underlying (aD ok hu),bF ok hs,Result.andThen_ok,Sem.run_pure,hn,S6,Te,TN,SU,hgt,hti,h1,Te,h2,run_choose,Question.forced,run_askRoom,eg ok hz,World.drew_eq,newRow,run_newObj,World.alloc_eq,ho w.drew hd,ha w.drew hd,mj];rfl
 | cons xt ts=>
  have a1:(⟨t::xt::ts⟩:Array TypeId)[1]?=some xt:=rfl;obtain⟨d,hd,hi⟩:=hd xt rfl;have hu2:∀w:World,(underlying xt).run P w=.ok d w:=run_underlying (aD ok hd);clear hd
  cases d<;>first
   | (cases hi;done)
   | (
      refine⟨λw' new hle ha hst=>?_,λz by_ c6 new hz hb hgt hby hroom ha ho=>?_⟩
      · simp only[Builtin.append_,a0,a1,b0,b1,Sem.run_bind,run_underlying (aD ok hu),hu2,bF ok hs,Result.andThen_ok,Sem.run_pure,hn,S6,Te,TN,SU,hle,ha]
        cases base with
        | none=>subst hst;simp
        | some a=>simp[hst]
      · obtain⟨i,hti,h1,h2⟩:=nI (n:=n) ok false hb hgt hby hroom
        refine⟨(Question.appendCap (sLen+n) sCap e).cut (w.tape w.drawn (.appendCap (sLen+n) sCap e)),by simp[Question.cut],?_⟩;have hd:w.drew.heap=w.heap:=rfl;have hgt:¬sLen+n<=sCap:=by omega
        have h1:¬(((sLen+n:Nat):Int) > IntKind.i64.max/\(False\/i.bytes=0)):=λh=>h1 ⟨h.1,h.2.elim False.elim .inr⟩;simp only[Builtin.append_,a0,a1,b0,b1,Sem.run_bind,run_underlying (aD ok hu),hu2,bF ok hs,Result.andThen_ok,Sem.run_pure,hn,S6,Te,TN,SU,hgt,hti,h1,Te,h2,run_choose,Question.forced,run_askRoom,eg ok hz,World.drew_eq,newRow,run_newObj,World.alloc_eq,ho w.drew hd,ha w.drew hd,mj];rfl)
theorem Bb(ok:C.Ok P)(w:World){t e xt:TypeId}{ts:List TypeId}{ty:TypeId}{size by_:Nat}{base:Option Addr}{sLen sCap:Nat}{k ki:IntKind}{n:Int}(hu:C.gZ t=some (.slice e))(hs:C.size e=some size)
  (hx:C.gZ xt=some (.int ki)) (hb:C.bytes e=some by_) (h0:0<=n) (h1:n<1000000) (h2:n.toNat*by_<=140737488355328) :
  Ar C P w e size n.toNat (if n.toNat*size=0 then pure #[] else do pure (Builtin.zeroCells (<-zeroValue e).cells n.toNat)) base sLen sCap ((Builtin.append_ ⟨t::xt::ts⟩ ty ⟨[.slice base sLen sCap,.int k n]⟩).run P w):=by
 have a0:(⟨t::xt::ts⟩:Array TypeId)[0]?=some t:=rfl;have a1:(⟨t::xt::ts⟩:Array TypeId)[1]?=some xt:=rfl;have b0:(⟨[.slice base sLen sCap,.int k n]⟩:Array Value)[0]?=some (.slice base sLen sCap):=rfl;have b1:(⟨[.slice base sLen sCap,.int k n]⟩:Array Value)[1]?=some (.int k n):=rfl;have hu2:∀w:World,(underlying xt).run P w=.ok (.int ki) w:=run_underlying (aD ok hx);obtain⟨i,hi,hib⟩:=xi ok hb;have htj:∀w:World,(typeInfo e).run P w=.ok i w:=λw=>by simp[typeInfo,hi]
 have hwrap:IntKind.i64.wrap n=n:=by
  have hs:IntKind.i64.signed=true:=rfl;have hbits:IntKind.i64.bits=64:=rfl;simp only[IntKind.wrap,hs,hbits,Bool.true_and,Su];have:n % (2 ^ 64:Int)=n:=Uu h0 (by omega);rw[this,AT (by omega)]
 have hl0:¬n<0:=by omega
 have hl1:¬(n*(i.bytes:Int) > 2 ^ 48):=by
  rw[hib];obtain⟨m,rfl⟩:=Int.eq_ofNat_of_zero_le h0;have h3:m*by_<=140737488355328:=by simpa using h2
  have h4:((m:Nat):Int)*(by_:Int)=((m*by_:Nat):Int):=by rw[Ui]
  show ¬(((m:Nat):Int)*(by_:Int) > 281474976710656);rw[h4];omega
 refine⟨λw' new hle ha hst=>?_,λz by_ c6 new hz hb hgt hby hroom ha ho=>?_⟩
 ·simp only[Builtin.append_,a0,a1,b0,b1,Sem.run_bind,run_underlying (aD ok hu),hu2,bF ok hs,Result.andThen_ok,Sem.run_pure,asInt,asIntOf,hwrap,hl0,Te,htj,hl1,SU,Tp,S6,hle,ha];cases base with
  | none=>subst hst;simp
  | some a=>simp[hst]
 ·obtain⟨i2,hti,h1,h2⟩:=nI (n:=n.toNat) ok true hb hgt hby hroom;have hii:i2=i:=by
   have hq:=(hti w).symm.trans (htj w);cases hq;rfl
  subst i2;refine⟨(Question.appendCap (sLen+n.toNat) sCap e).cut (w.tape w.drawn (.appendCap (sLen+n.toNat) sCap e)),by simp[Question.cut],?_⟩;have hd:w.drew.heap=w.heap:=rfl;have hgt:¬sLen+n.toNat<=sCap:=by omega
  have h1:¬(((sLen+n.toNat:Nat):Int) > IntKind.i64.max/\(True\/i.bytes=0)):=λh=>h1 ⟨h.1,.inl rfl⟩;simp only[Builtin.append_,a0,a1,b0,b1,Sem.run_bind,run_underlying (aD ok hu),hu2,bF ok hs,Result.andThen_ok,Sem.run_pure,asInt,asIntOf,hwrap,hl0,Te,htj,hl1,SU,Tp,S6,hgt,h1,Te,h2,run_choose,Question.forced,run_askRoom,eg ok hz,World.drew_eq,newRow,run_newObj,World.alloc_eq,ho w.drew hd,ha w.drew hd,mj];rfl
end
end Go.Abs