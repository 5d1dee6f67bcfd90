/-
  The fact parlkeep3.explains: a closed run of the abstract machine returns true; some of its calls are run apart.
-/
import Derived.Test.YtmbdmfjijofmmaaGreatDoorCtx
import Derived.Test.YtmbdmfjijofmmaaGreatDoorChecked
set_option linter.unusedVariables false
set_option maxRecDepth 20000
set_option maxHeartbeats 0
open Go Go.Abs Go.Proofs
namespace Go.Proofs.D
structure ld(h k:au):Prop where
 next:h.next=k.next
 get:∀i b,h.get i=some b->k.get i=some b
 wf:∀i,k.next<=i->k.get i=none
section
variable {C:Ctx}{h k:au}(hk:ld h k)
include hk
theorem ld.alloc(b:aC):ld (h.alloc b) (k.alloc b):=⟨by rw[au.ny,au.ny,hk.next],λi c q=>by
 rw[au.dH] at q |-;rw[<-hk.next]
 split
 ·rename_i e;rw[nw e] at q;exact q
 ·rename_i e;rw[mb e] at q;exact hk.get i c q,λi hi=>by rw[au.ny] at hi;rw[au.dH,mb zo];exact hk.wf i zo⟩
theorem ld.put(i:Nat)(b:Option aC)(g:∃c,h.get i=some c):ld (h.put i b) (k.put i b):=⟨by rw[au.tM,au.tM,hk.next],λj c q=>by
 rw[au.dL] at q |-;split
 ·rename_i e;rw[nw e] at q;exact q
 ·rename_i e;rw[mb e] at q;exact hk.get j c q,λj f=>by
 rw[au.tM] at f;rw[au.dL];split
 ·rename_i e;obtain⟨c,l⟩:=g;have:=hk.get i c l;rw[hk.wf i zo] at this;cases this
 ·exact hk.wf j f⟩
theorem yz{b:Nat}{cs:List Value}(q:eW h b=some cs):eW k b=some cs:=by unfold eW at q |-;cases f:h.get b with|none=>{rw[f] at q;cases q}|some c=>{rw[hk.get b c f];rw[f] at q;exact q}
theorem BP{t:TypeId}{x v:Value}(q:jU C h t x=some v):jU C k t x=some v:=by unfold jU at q |-;split at q;{cases f:eW h _ with|none=>{rw[f] at q;cases q}|some cs=>{rw[f] at q;simp only[yz hk f];exact q}};{cases q}
theorem LQ{t:TypeId}{p v:Value}{f:au}(q:mW C h t p v=some f):∃k',mW C k t p v=some k'/\ld f k':=by unfold mW at q |-;split at q;{split at q;{rename_i g hs;simp only[hk.get _ _ g,hs];simp only[cond_eq_ite] at q |-;split at q;{rename_i i;cases q;rw[nw i];exact⟨_,rfl,hk.put _ _ ⟨_,g⟩⟩};{cases q}};{cases q}};{cases q}
theorem Oa{t:TypeId}{x v:Value}(q:zX C h t x=some v):zX C k t x=some v:=by unfold zX at q |-;split at q;{exact q};{exact q};{exact q};{exact q};{rename_i r _;cases f:h.get r with|none=>{rw[f] at q;cases q}|some b=>{rw[f] at q;simp only[hk.get _ _ f];exact q}};{cases q}
theorem Du{s n:Nat}{x:Value}{l:List Value}(q:eg h s n x=some l):eg k s n x=some l:=by unfold eg at q |-;split at q;{exact q};{simp only[cond_eq_ite] at q |-;split at q;{rename_i f;rw[nw f];exact q};{rename_i f;rw[mb f];cases g:eW h _ with|none=>{rw[g] at q;cases q}|some cs=>{rw[g] at q;simp only[yz hk g];exact q}}};{exact q};{cases q}
theorem tg{s:Nat}{x:Value}{r:Nat×List Value}(q:cS h s x=some r):cS k s x=some r:=by unfold cS at q |-;split at q;{cases f:eg h s _ x with|none=>{rw[f] at q;cases q}|some l=>{rw[f] at q;rw[Du hk f];exact q}};{cases q}
theorem Mw{e:TypeId}{s:Nat}{f:Option TypeId}{x:Value}{r:Nat×List Value}(q:fV C h e s f x=some r):fV C k e s f x=some r:=by cases f with|none=>exact tg hk q|some t=>{simp only[fV] at q |-;cases hu:C.g9 t with|none=>{rw[hu] at q;cases q}|some d=>{simp only[hu] at q |-;cases d<;>first | exact tg hk q | exact q}}
theorem IP{t:TypeId}{g:Option TypeId}{s x v:Value}{I:au}(q:dP C h t g s x=some (v,I)):∃k',dP C k t g s x=some (v,k')/\ld I k':=by
 unfold dP at q |-;cases hu:C.g9 t with
 | none=>simp only[hu] at q;cases q
 | some d=>
 cases d with
 | slice e=>
  cases s with
  | slice base len c=>
   simp only[hu] at q |-;cases hs:C.size e with
   | none=>simp only[hs] at q;cases q
   | some J=>
   cases i:C.zero e with
   | none=>simp only[hs,i] at q;cases q
   | some z=>
   cases P:C.bytes e with
   | none=>simp only[hs,i,P] at q;cases q
   | some by_=>
   simp only[hs,i,P] at q |-;cases j:fV C h e J g x with
   | none=>simp only[j] at q;cases q
   | some r=>
    obtain⟨n,new⟩:=r;simp only[j,Mw hk j,cond_eq_ite] at q |-;split at q
    ·cases q
    ·rename_i h1;rw[mb h1];split at q
     ·rename_i l;rw[nw l];cases q;exact⟨_,rfl,hk⟩
     ·rename_i l;rw[mb l];cases base with
      | none=>
       cases q;exact⟨_,by rw[hk.next],hk.alloc _⟩
      | some a=>
       obtain⟨b,off,R⟩:=a;cases R with
       | some R=>cases q
       | none=>
        dsimp only at q |-;split at q
        ·rename_i o;rw[nw o];split at q
         ·rename_i p;rw[nw p];cases q;exact⟨_,by rw[hk.next],hk.alloc _⟩
         ·cases q
        ·rename_i o;rw[mb o];split at q
         ·cases q
         ·rename_i p;rw[mb p];cases f:h.get b with
          | none=>simp only[f] at q;cases q
          | some bl=>
           simp only[f,hk.get _ _ f] at q |-;cases bl with
           | cells ro cs=>
            cases ro with
            | true=>cases q
            | false=>
             dsimp only at q |-;cases U:bE cs off (len*J) with
             | none=>simp only[U] at q;cases q
             | some cU=>
              simp only[U] at q |-;cases q;exact⟨_,by rw[hk.next],(hk.put _ none ⟨_,f⟩).alloc _⟩
           | _=>cases q
  | _=>simp only[hu] at q;cases q
 | _=>simp only[hu] at q;cases q
theorem ML{t:TypeId}{d x v:Value}{j:au}(q:vw C h t d x=some (v,j)):∃k',vw C k t d x=some (v,k')/\ld j k':=by
 unfold vw at q |-;cases hu:C.g9 t with
 | none=>simp only[hu] at q;cases q
 | some ty=>
 cases ty with
 | slice e=>
  cases d with
  | slice base dl c=>
   cases l:gP x with
   | none=>simp only[hu,l] at q;cases q
   | some n=>
   simp only[hu,l] at q |-;cases hs:C.size e with
   | none=>simp only[hs] at q;cases q
   | some s=>
   simp only[hs] at q |-;cases g:eg h s (Nat.min n dl) x with
   | none=>simp only[g] at q;cases q
   | some new=>
    simp only[g,Du hk g,cond_eq_ite] at q |-;split at q
    ·cases q
    ·rename_i p;rw[mb p];cases base with
     | none=>cases q;exact⟨_,rfl,hk⟩
     | some a=>
      obtain⟨b,off,o⟩:=a;cases o with
      | some o=>cases q
      | none=>
       dsimp only at q |-;split at q
       ·rename_i i;rw[nw i];cases q;exact⟨_,rfl,hk⟩
       ·rename_i i;rw[mb i];cases f:h.get b with
        | none=>simp only[f] at q;cases q
        | some r=>
         simp only[f,hk.get _ _ f] at q |-;cases r with
         | cells ro cs=>
          cases ro with
          | true=>cases q
          | false=>
           dsimp only at q |-;split at q
           ·rename_i I;rw[nw I];cases q;exact⟨_,rfl,hk.put _ _ ⟨_,f⟩⟩
           ·cases q
         | _=>cases q
  | _=>simp only[hu] at q;cases q
 | _=>simp only[hu] at q;cases q
theorem Kf{t:TypeId}{x:Value}{f:au}(q:kQ C h t x=some f):∃k',kQ C k t x=some k'/\ld f k':=by unfold kQ at q |-;split at q;{cases q;exact⟨_,rfl,hk⟩};{cases q;exact⟨_,rfl,hk⟩};{split at q;{rename_i i g;simp only[i,hk.get _ _ g,cond_eq_ite] at q |-;split at q;{rename_i j;rw[nw j];cases q;exact⟨_,rfl,hk.put _ _ ⟨_,g⟩⟩};{cases q}};{cases q}};{cases q}
theorem Cq{t:TypeId}{l c v:Value}{f:au}(q:fI C h t l c=some (v,f)):∃k',fI C k t l c=some (v,k')/\ld f k':=by unfold fI at q |-;split at q;{split at q;{split at q;{rename_i g;simp only[nw g] at q |-;cases q;exact⟨_,by rw[hk.next],hk.alloc _⟩};{cases q}};{cases q}};{cases q}
theorem Af{t:TypeId}{n:Nat}{ps:List (Nat×Value)}{v:Value}{f:au}(q:eI C h t n ps=some (v,f)):∃k',eI C k t n ps=some (v,k')/\ld f k':=by unfold eI at q |-;split at q;{split at q;{simp only[cond_eq_ite] at q |-;split at q;{rename_i g;rw[nw g];split at q;{cases q;exact⟨_,by rw[hk.next],hk.alloc _⟩};{cases q}};{cases q}};{cases q}};{cases q}
theorem GK{x:Value}{l:List (Value×Value)}(q:ed h x=some l):ed k x=some l:=by unfold ed at q |-;split at q;{exact q};{rename_i r;cases f:h.get r with|none=>{rw[f] at q;cases q}|some b=>{rw[f] at q;simp only[hk.get _ _ f];exact q}};{cases q}
theorem IG{t:TypeId}{x y v:Value}{ok:Bool}(q:fC C h t x y ok=some v):fC C k t x y ok=some v:=by unfold fC at q |-;cases he:ed h x with|none=>{simp only[he] at q;split at q<;>first | (rename_i e;cases e;done) | cases q}|some es=>{simp only[he,GK hk he] at q |-;exact q}
theorem rU{t:TypeId}{m y v:Value}{g:au}(q:bW C h t m y v=some g):∃k',bW C k t m y v=some k'/\ld g k':=by unfold bW at q |-;split at q;{rename_i r _;cases f:h.get r with|none=>{simp only[f] at q;cases q}|some b=>{simp only[f,hk.get _ _ f] at q |-;cases b with|map es=>{simp only[cond_eq_ite] at q |-;split at q;{cases q};{rename_i i;rw[mb i];split at q;{split at q;{split at q;{rename_i j;rw[nw j];cases q;exact⟨_,rfl,hk.put _ _ ⟨_,f⟩⟩};{cases q}};{cases q}};{cases q;exact⟨_,rfl,hk.put _ _ ⟨_,f⟩⟩};{cases q}}}| _=>{cases q}}};{cases q}
theorem Iy{t:TypeId}{m y:Value}{g:au}(q:hZ C h t m y=some g):∃k',hZ C k t m y=some k'/\ld g k':=by unfold hZ at q |-;split at q;{rename_i r _;cases f:h.get r with|none=>{simp only[f] at q;cases q}|some b=>{simp only[f,hk.get _ _ f] at q |-;cases b with|map es=>{simp only[cond_eq_ite] at q |-;split at q;{cases q};{rename_i i;rw[mb i];split at q;{cases q;exact⟨_,rfl,hk.put _ _ ⟨_,f⟩⟩};{cases q;exact⟨_,rfl,hk.put _ _ ⟨_,f⟩⟩};{cases q}}}| _=>{cases q}}};{cases q}
theorem Dz{t:TypeId}{m y v:Value}{g:au}(q:dI C h t m y=some (v,g)):∃k',dI C k t m y=some (v,k')/\ld g k':=by unfold dI at q |-;split at q;{rename_i r _;cases f:h.get r with|none=>{simp only[f] at q;cases q}|some b=>{simp only[f,hk.get _ _ f] at q |-;cases b with|map es=>{simp only[cond_eq_ite] at q |-;split at q;{cases q};{rename_i i;rw[mb i];split at q;{split at q;{split at q;{rename_i j;rw[nw j];cases q;exact⟨_,rfl,hk⟩};{cases q}};{cases q}};{split at q;{cases q;exact⟨_,rfl,hk.put _ _ ⟨_,f⟩⟩};{cases q}};{cases q}}}| _=>{cases q}}};{cases q}
theorem Aa{m s v:Value}{g:au}(q:dg h m s v=some g):∃k',dg k m s v=some k'/\ld g k':=by unfold dg at q |-;split at q;{rename_i r _ n;cases f:h.get r with|none=>{simp only[f] at q;cases q}|some b=>{simp only[f,hk.get _ _ f] at q |-;cases b with|map es=>{dsimp only at q |-;split at q;{split at q;{cases q;exact⟨_,rfl,hk.put _ _ ⟨_,f⟩⟩};{cases q}};{cases q}}| _=>{cases q}}};{cases q}
theorem I9{x:Value}{n:String}{r:FuncId×Value}(q:gI C h x n=some r):gI C k x n=some r:=by unfold gI at q |-;split at q;{split at q;{split at q;{simp only[cond_eq_ite] at q |-;split at q;{rename_i f;rw[nw f];split at q;{exact q};{obtain⟨y,g,rfl⟩:=SA.1 q;rw[BP hk g];rfl};{cases q}};{cases q}};{cases q}};{cases q}};{cases q}
theorem Mf{t:TypeId}{x y:Value}{b:Bool}(q:equalA C h t x y=some b):equalA C k t x y=some b:=by have f:∀i,live h i=true->live k i=true:=λi hi=>by{unfold live at hi |-;cases g:h.get i with|none=>{rw[g] at hi;cases hi}|some b=>{rw[g] at hi;simp only[hk.get _ _ g];exact hi}};unfold equalA at q |-;split at q;(any_goals exact q);split at q;{simp only[cond_eq_ite] at q |-;split at q;{cases q};{rename_i o;rw[mb o];split at q;{rename_i j;rw[nw j];exact q};{rename_i j;rw[mb j];split at q;{rename_i l;rw[ti] at l;rw[nw (by rw[f _ l.1,f _ l.2];rfl)];exact q};{cases q}}}};{cases q}
theorem K9{t:TypeId}{x v:Value}{lo hi g:Option Value}(q:gO C h t x lo hi g=some v):gO C k t x lo hi g=some v:=by unfold gO at q |-;split at q;{exact q};{exact q};{rename_i n e b off hu;cases f:eW h b with|none=>{simp only[f] at q;split at q<;>first | (rename_i e;cases e;done) | cases q}|some cs=>{simp only[f,yz hk f] at q |-;exact q}};{exact q};{cases q}
theorem OV{op:BinOp}{t:TypeId}{i j:Operand}{x y v:Value}(q:jL C h op t i j x y=some v):jL C k op t i j x y=some v:=by have key:∀f:Bool->Value,((equalA C h t x y).map λb=>f b)=some v->((equalA C k t x y).map λb=>f b)=some v:=λf l=>by{obtain⟨b,o,p⟩:=SA.1 l;rw[Mf hk o];exact congrArg some p};unfold jL at q |-;split at q;(any_goals exact q);{simp only[cond_eq_ite] at q |-;split at q;{rename_i g;rw[nw g];exact key (λb=>.bool b) q};{cases q}};{simp only[cond_eq_ite] at q |-;split at q;{rename_i g;rw[nw g];exact key (λb=>.bool !b) q};{cases q}}
theorem Gd{b:Builtin}{ts:List TypeId}{g:List Value}{v:Value}{l:au}(q:bD C h b ts g=some (v,l)):∃k',bD C k b ts g=some (v,k')/\ld l k':=by unfold bD at q |-;split at q;{obtain⟨y,f,e⟩:=SA.1 q;cases e;exact⟨k,by rw[Oa hk f];rfl,hk⟩};{obtain⟨y,f,e⟩:=SA.1 q;cases e;exact⟨k,by rw[f];rfl,hk⟩};{exact IP hk q};{exact ML hk q};{obtain⟨y,f,e⟩:=SA.1 q;cases e;obtain⟨k',i,j⟩:=Kf hk f;exact⟨k',by rw[i];rfl,j⟩};{obtain⟨y,f,e⟩:=SA.1 q;cases e;obtain⟨k',i,j⟩:=Iy hk f;exact⟨k',by rw[i];rfl,j⟩};{cases q;exact⟨k,rfl,hk⟩};{cases q;exact⟨k,rfl,hk⟩};{cases q;exact⟨k,rfl,hk⟩};{cases q}
def MK(h k:au)(r:qy)(q:Option qy):Prop:=match r with
 | .val v i=>∃k',q=some (.val v k')/\ld i k'
 | .call f g=>q=some (.call f g)
theorem dR{x y:Option Value}{r:qy}(e:∀v,x=some v->y=some v)(q:(x.map λv=>qy.val v h)=some r):MK h k r (y.map λv=>qy.val v k):=by obtain⟨v,f,rfl⟩:=SA.1 q;exact⟨k,by rw[e v f];rfl,hk⟩
omit hk in
theorem wJ{x y:Option (Value×au)}{r:qy}(e:∀v f,x=some (v,f)->∃k',y=some (v,k')/\ld f k')(q:(x.map λr=>qy.val r.1 r.2)=some r):MK h k r (y.map λr=>qy.val r.1 r.2):=by obtain⟨⟨v,f⟩,g,rfl⟩:=SA.1 q;obtain⟨k',i,j⟩:=e v f g;exact⟨k',by rw[i];rfl,j⟩
omit hk in
theorem wI{x y:Option au}{r:qy}(e:∀f,x=some f->∃k',y=some k'/\ld f k')(q:(x.map λh=>qy.val cl h)=some r):MK h k r (y.map λh=>qy.val cl h):=by obtain⟨f,g,rfl⟩:=SA.1 q;obtain⟨k',i,j⟩:=e f g;exact⟨k',by rw[i];rfl,j⟩
theorem J3{ρ:Operand->Option Value}{op:Op}{r:qy}(q:aQ C ρ h op=some r):MK h k r (aQ C ρ k op):=by
 cases op<;>simp only[aQ] at q |-
 case move x=>exact dR hk (λ_ e=>e) q
 case assign x=>exact dR hk (λ_ e=>e) q
 case pick c a b=>split at q<;>first | exact dR hk (λ_ e=>e) q | cases q
 case alloc e=>
  split at q
  ·cases q;exact⟨_,by rw[hk.next],hk.alloc _⟩
  ·cases q
 case box t x=>
  split at q
  ·cases q;exact⟨_,by rw[hk.next],hk.alloc _⟩
  ·cases q
 case build t ps=>split at q<;>first | exact dR hk (λ_ e=>e) q | cases q
 case buildSlice t n ps=>split at q<;>first | exact wJ (λ_ _ e=>Af hk e) q | cases q
 case load t a=>split at q<;>first | exact dR hk (λ_ e=>BP hk e) q | cases q
 case store t a x=>split at q<;>first | exact wI (λ_ e=>LQ hk e) q | cases q
 case nilCheck x=>split at q<;>first | exact dR hk (λ_ e=>e) q | cases q
 case binOp o t x y _=>split at q<;>first | exact dR hk (λ_ e=>OV hk e) q | cases q
 case unOp o _ x=>split at q<;>first | exact dR hk (λ_ e=>e) q | cases q
 case convert s d x=>split at q<;>first | exact dR hk (λ_ e=>e) q | cases q
 case slice t x lo hi P=>split at q<;>first | exact dR hk (λ_ e=>K9 hk e) q | cases q
 case makeSlice t l c=>split at q<;>first | exact wJ (λ_ _ e=>Cq hk e) q | cases q
 case fieldAddr t x f=>split at q<;>first | exact dR hk (λ_ e=>e) q | cases q
 case field t x f=>split at q<;>first | exact dR hk (λ_ e=>e) q | cases q
 case indexAddr t x i=>split at q<;>first | exact dR hk (λ_ e=>e) q | cases q
 case index t x i=>split at q<;>first | exact dR hk (λ_ e=>e) q | cases q
 case lookup t x y ok=>split at q<;>first | exact dR hk (λ_ e=>IG hk e) q | cases q
 case mapUpdate t m y x=>split at q<;>first | exact wI (λ_ e=>rU hk e) q | cases q
 case insert t m y x=>split at q<;>first | exact wI (λ_ e=>rU hk e) q | cases q
 case mapEntry t m y=>split at q<;>first | exact wJ (λ_ _ e=>Dz hk e) q | cases q
 case entryStore t m s x=>split at q<;>first | exact wI (λ_ e=>Aa hk e) q | cases q
 case extract x i=>split at q<;>first | exact dR hk (λ_ e=>e) q | cases q
 case typeAssert x _ t ok=>split at q<;>first | exact dR hk (λ_ e=>e) q | cases q
 case makeFunc fn xs ys=>split at q<;>first | exact dR hk (λ_ e=>e) q | cases q
 case makeInterface t x=>
  split at q
  ·split at q
   ·cases q
   ·exact dR hk (λ_ e=>e) q
  ·cases q
 case makeMap t n=>
  cases n with
  | none=>
   dsimp only at q |-;cases q;exact⟨_,by rw[hk.next],hk.alloc _⟩
  | some n=>cases q
 case call c=>
  obtain⟨callee,args,ts⟩:=c;cases callee with
  | builtin b=>
   dsimp only at q |-;split at q
   ·exact wJ (λ_ _ e=>Gd hk e) q
   ·cases q
  | value f=>
   dsimp only at q |-;split at q
   ·have I:∀{p:Value} {g:List Value},kO C p g=some r->∃f j,r=.call f j:=λ{p g} e=>by
     unfold kO at e;split at e
     ·split at e
      ·simp only[cond_eq_ite] at e;split at e
       ·cases e;exact⟨_,_,rfl⟩
       ·cases e
      ·cases e
     ·cases e
    obtain⟨f,j,rfl⟩:=I q;exact q
   ·cases q
  | invoke rc n=>
   dsimp only at q |-;split at q
   ·split at q
    ·rename_i hm;simp only[I9 hk hm];split at q
     ·simp only[cond_eq_ite] at q |-;split at q
      ·rename_i J;rw[nw J];cases q;rfl
      ·cases q
     ·cases q
    ·cases q
   ·cases q
 all_goals cases q
end
structure eu where
 f:FuncId
 args:List Value
 next:Nat
 pre:List (Nat×aC)
 v:Value
 L6:Nat
 post:List (Nat×aC)
def rA(n:Nat)(l:List (Nat×aC)):au:=⟨n,iA l⟩
def eu.Km(m:eu)(f:FuncId)(args:List Value)(h:au):Bool:=
 Nat.beq m.f f&&iz m.args args&&Nat.beq m.next h.next&&m.pre.all λp=>kL (h.get p.1) (some p.2)
def FC(look:List Nat)(h f:au):Bool:=look.all λx=>match h.get x,f.get x with
 | some a,some b=>kL (some a) (some b)
 | none,none=>Nat.ble h.next x&&Nat.ble f.next x
 | _,_=>false
def ru(ops:List Oper)(f:List Nat)(tr:List qt):Bool:=
 let rec outer:List qt->Nat->Bool
  | [],_=>true
  | (_,_,look,l)::rest,i=>
   (match look with
    | []=>true
    | look=>
      let mi:=(f[i]?).getD 0;let rec inner:List Oper->List qt->Nat->Bool
        | o::os,(h,g,_,_)::tr,j=>
          (cd o.op||i==j||mi.testBit j||((f[j]?).getD 0).testBit i||FC look h g||(Nat.blt i j&&l g))&&inner os tr (j+1)
        | _,_,_=>true
      inner ops tr 0)&&outer rest (i+1)
 outer tr 0
def wO(C:Ctx)(cal:rJ)(ops:List Oper)(draw:Bool)(e:Env)(h:au):Option (Env×au):=
 bif draw then
  match fz C cal ops ops e h with
  | none=>none
  | some (f,g,tr)=>bif n6 ops&&ru ops (bA [] ops) tr then some (f,g) else none
 else uh C cal ops ops e h
def CX(C:Ctx)(ms:List eu)(g:Jo):rJ:=λf args h=>
 match ms.find? λm=>m.Km f args h with
 | some m=>some (m.v,rA m.L6 m.post)
 | none=>eC C g f args h
def q9(C:Ctx)(ms:List eu)(f:Jo):Jo:=λc e h=>
 match c with
 | .region _ ops draw=>match wO C (CX C ms f) ops.toList draw e h with
  | some (e,h)=>some (.normal,e,h)
  | none=>none
 | c=>aU C f c e h
def vX(C:Ctx)(ms:List eu):Nat->Jo
 | 0=>λ_ _ _=>none
 | n+1=>q9 C ms (vX C ms n)
def HD(C:Ctx)(ms:List eu)(n:Nat):rJ:=eC C (vX C ms n)
def nk(C:Ctx)(f:FuncId)(args:List Value)(h:au)(v:Value)(g:au):Prop:=
 ∀k,ld h k->∃k',ld g k'/\∃m,∀N,m<=N->call C N f args k=some (v,k')
def GN(C:Ctx)(c:Code)(e:Env)(h:au)(x:Ex)(f:Env)(g:au):Prop:=
 ∀k,ld h k->∃k',ld g k'/\∃m,∀N,m<=N->exec C N c e k=some (x,f,k')
def eu.Ok(C:Ctx)(m:eu):Prop:=nk C m.f m.args (rA m.next m.pre) m.v (rA m.L6 m.post)
theorem I2{C:Ctx}{h k:au}(hk:ld h k){e:Env}{r:ResultVar}{v:Value}(q:lC C e h r=some v):lC C e k r=some v:=by unfold lC at q |-;split at q;{exact q};{split at q;{exact BP hk q};{cases q}}
theorem xq{C:Ctx}{h k:au}(hk:ld h k){e:Env}:∀{rs:List ResultVar} {vs:List Value},fQ C e h rs=some vs->fQ C e k rs=some vs
 | [],vs,q=>q
 | r::rs,vs,q=>by{unfold fQ at q |-;split at q;{rename_i f g;rw[I2 hk f,xq hk g];exact q};{cases q}}
end Go.Proofs.D
set_option linter.unusedVariables false
set_option maxRecDepth 20000
set_option maxHeartbeats 0
open Go Go.Abs Go.Proofs
namespace Go.Proofs.D
theorem ld.trans{a b c:au}(g:ld a b)(f:ld b c):ld a c:=⟨g.next.trans f.next,λi x q=>f.get i x (g.get i x q),f.wf⟩
section
variable {C:Ctx}{ms:List eu}
theorem eu.M9{m:eu}{f:FuncId}{args:List Value}{h:au}(q:m.Km f args h=true):m.f=f/\m.args=args/\(rA m.next m.pre).next=h.next/\∀i b,(rA m.next m.pre).get i=some b->h.get i=some b:=by unfold eu.Km at q;simp only[ti] at q;obtain⟨⟨⟨g,j⟩,l⟩,o⟩:=q;refine⟨R6 g,gF j,R6 l,λi b p=>?_⟩;have:=SK.1 o _ (j8 m.pre i b p);exact sv this
def Om(C:Ctx)(ops:List Oper)(o:Oper)(e:Env)(h:au)(g:Env)(i:au):Prop:=
 ∀k,ld h k->∃f,ld i f/\∃m,∀N,m<=N->dj C (call C N) ops o e k=some (g,f)
theorem HB{cal:rJ}(g:∀f args h v l,cal f args h=some (v,l)->nk C f args h v l){ops:List Oper}{o:Oper}{e P:Env}{h R:au}(q:dj C cal ops o e h=some (P,R)):Om C ops o e h P R:=by intro k hk;unfold dj at q;cases hw:qA ops e o with|none=>{rw[hw] at q;cases q}|some b=>{rw[hw] at q;cases b with|false=>{cases q;refine⟨k,hk,0,λN _=>?_⟩;unfold dj;rw[hw]}|true=>{dsimp only at q;cases p:aQ C (e.eval C) h o.op with|none=>{rw[p] at q;cases q}|some r=>{rw[p] at q;have i:=J3 hk p;cases r with| val v l=>{cases q;obtain⟨k',t,I⟩:=i;refine⟨k',I,0,λN _=>?_⟩;unfold dj;rw[hw];dsimp only;rw[t]}| call f j=>{dsimp only at q;cases J:cal f j h with|none=>{rw[J] at q;cases q}|some r=>{obtain⟨v,l⟩:=r;rw[J] at q;cases q;obtain⟨k',t,m,I⟩:=g _ _ _ _ _ J k hk;refine⟨k',t,m,λN U=>?_⟩;unfold dj;rw[hw];dsimp only;rw[show aQ C (e.eval C) k o.op=some (.call f j) from i];dsimp only;rw[I N U]}}}}}
theorem Kd{cal:rJ}(g:∀f args h v t,cal f args h=some (v,t)->nk C f args h v t){ops:List Oper}:∀{rest:List Oper} {e i:Env} {h j:au},uh C cal ops rest e h=some (i,j)->
  ∀k,ld h k->∃l,ld j l/\∃m,∀N,m<=N->uh C (call C N) ops rest e k=some (i,l)
 | [],e,i,h,j,q,k,hk=>by cases q;exact⟨k,hk,0,λ_ _=>rfl⟩
 | o::rest,e,i,h,j,q,k,hk=>by{unfold uh at q;cases hs:dj C cal ops o e h with|none=>{rw[hs] at q;cases q}|some r=>{obtain⟨U,h2⟩:=r;rw[hs] at q;obtain⟨k2,I,m,J⟩:=HB g hs k hk;obtain⟨l,P,m2,R⟩:=Kd g q k2 I;refine⟨l,P,max m m2,λN hN=>?_⟩;unfold uh;rw[J N zo];exact R N zo}}
inductive GU:List qt->List qt->Prop
 | nil:GU [] []
 | cons {h h1 k k1:au} {look:List Nat} {fl fl':au->Bool} {tr tr':List qt}:ld h k->ld h1 k1->(∀a b,ld a b->fl a=true->fl' b=true)->GU tr tr'->GU ((h,h1,look,fl)::tr) ((k,k1,look,fl')::tr')
theorem Ms{ρ:Operand->Option Value}{h k:au}(hk:ld h k){op:Op}{a b:au}(f:ld a b)(q:jV C ρ h op a=true):jV C ρ k op b=true:=by (cases op<;>simp only[jV] at q |-<;>try (cases q));split at q;{rename_i v _ v2 _ j l;have g:=J3 hk j;have i:=J3 f l;obtain⟨o,g,_⟩:=g;obtain⟨k2,i,_⟩:=i;rw[g,i];exact q};{cases q}
theorem Dx{cal:rJ}(g:∀f args h v R,cal f args h=some (v,R)->nk C f args h v R){ops:List Oper}:∀{rest:List Oper} {e j:Env} {h t:au} {tr:List qt},fz C cal ops rest e h=some (j,t,tr)->
  ∀k,ld h k->∃I i,ld t I/\GU tr i/\∃m,∀N,m<=N->fz C (call C N) ops rest e k=some (j,I,i)
 | [],e,j,h,t,tr,q,k,hk=>by cases q;exact⟨k,[],hk,.nil,0,λ_ _=>rfl⟩
 | o::rest,e,j,h,t,tr,q,k,hk=>by{unfold fz at q;cases hs:dj C cal ops o e h with|none=>{rw[hs] at q;cases q}|some r=>{obtain⟨e2,h2⟩:=r;rw[hs] at q;dsimp only at q;cases J:fz C cal ops rest e2 h2 with|none=>{rw[J] at q;cases q}|some r=>{obtain⟨e3,h3,l⟩:=r;rw[J] at q;cases q;obtain⟨k2,U,m,g2⟩:=HB g hs k hk;obtain⟨I,i,g3,g4,m2,g5⟩:=Dx g J k2 U;refine⟨I,_,g3,.cons hk U (λa b P hf=>Ms hk P hf) g4,max m m2,λN hN=>?_⟩;unfold fz;rw[g2 N zo];dsimp only;rw[g5 N zo]}}}
theorem Mr{look:List Nat}{h g k i:au}(hk:ld h k)(f:ld g i)(q:FC look h g=true):(look.all λx=>kL (k.get x) (i.get x))=true:=by unfold FC at q;rw[SK] at q |-;intro x j;have:=q x j;split at this;{rename_i a b l o;rw[hk.get _ _ l,f.get _ _ o];exact this};{rw[ti] at this;have p:=Tq this.1;have n2:=Tq this.2;rw[hk.wf x (by rw[<-hk.next];exact p),f.wf x (by rw[<-f.next];exact n2)];rfl};{cases this}
theorem vM{f:List Nat}{p l:au->Bool}(r:∀a b,ld a b->p a=true->l b=true){i:Nat}{look:List Nat}{t:Nat}:∀{os:List Oper} {tr g:List qt} {j:Nat},GU tr g->
  ru.outer.inner f p i look t os tr j=true->cX.outer.inner f l i look t os g j=true
 | [],tr,g,j,I,q=>by unfold cX.outer.inner;rfl
 | o::os,[],g,j,I,q=>by cases I;unfold cX.outer.inner;rfl
 | o::os,_::tr,_,j,.cons P J U R,q=>by{unfold ru.outer.inner at q;unfold cX.outer.inner;rw[ti] at q |-;refine⟨?_,vM r R q.2⟩;have q:=q.1;simp only[SO] at q |-;rcases q with q | q;{rcases q with q | q;{exact .inl (.inl q)};{exact .inl (.inr (Mr P J q))}};{rw[ti] at q;exact .inr (by rw[ti];exact⟨q.1,r _ _ J q.2⟩)}}
theorem uZ{ops:List Oper}{f:List Nat}{o g:List qt}(p:GU o g):∀{tr j:List qt} {i:Nat},GU tr j->ru.outer ops f o tr i=true->cX.outer ops f g j i=true
 | [],_,i,.nil,q=>by unfold cX.outer;rfl
 | _::tr,_::j,i,.cons (look:=look) I J r t,q=>by{unfold ru.outer at q;unfold cX.outer;rw[ti] at q |-;refine⟨?_,uZ p t q.2⟩;have q:=q.1;cases look with|nil=>rfl|cons x l=>{exact vM r p q}}
theorem Ii{cal:rJ}(g:∀f args h v t,cal f args h=some (v,t)->nk C f args h v t){ops:List Oper}{draw:Bool}{e I:Env}{h J:au}(q:wO C cal ops draw e h=some (I,J)) :
  ∀k,ld h k->∃j,ld J j/\∃m,∀N,m<=N->jv C (call C N) ops draw e k=some (I,j):=by intro k hk;cases draw with|false=>exact Kd g q k hk|true=>{simp only[wO,xf] at q;cases l:fz C cal ops ops e h with|none=>{rw[l] at q;cases q}|some r=>{obtain⟨e2,h2,tr⟩:=r;rw[l] at q;dsimp only at q;cases i:(n6 ops&&ru ops (bA [] ops) tr) with|false=>{rw[i] at q;cases q}|true=>{rw[i] at q;cases q;rw[ti] at i;obtain⟨j,o,R,P,m,U⟩:=Dx g l k hk;refine⟨j,R,m,λN hN=>?_⟩;have p:cX ops (bA [] ops) o=true:=by{unfold cX;have:=i.2;unfold ru at this;exact uZ P P this};simp only[jv,xf,U N hN,i.1,p,Tk]}}}
theorem C1(l:C.fact=λ_=>none){g:Jo}(o:∀c e h x U j,g c e h=some (x,U,j)->GN C c e h x U j){f:FuncId}{args:List Value}{h j:au}{v:Value}(q:eC C g f args h=some (v,j)):nk C f args h v j:=by intro k hk;unfold eC at q;rw[l] at q;dsimp only at q;cases p:C.func f with|none=>{rw[p] at q;cases q}|some fn=>{rw[p] at q;dsimp only at q;cases t:fn.body with|none=>{rw[t] at q;cases q}|some c=>{rw[t] at q;dsimp only at q;cases I:g c (nH fn.ntmps args) h with|none=>{rw[I] at q;cases q}|some r=>{obtain⟨x,e,J⟩:=r;rw[I] at q;have key:(match fQ C e J fn.results.toList with | some vs=>some (fg vs,J) | none=>none)=some (v,j)/\∀i,x≠.exit i:=by{cases x with|exit i=>cases q|normal=>{exact⟨q,λ_ h=>(by cases h)⟩}|ret=>{exact⟨q,λ_ h=>(by cases h)⟩}};obtain⟨q,P⟩:=key;cases R:fQ C e J fn.results.toList with|none=>{rw[R] at q;cases q}|some vs=>{rw[R] at q;cases q;obtain⟨k1,g1,m,g2⟩:=o _ _ _ _ _ _ I k hk;refine⟨k1,g1,m,λN hN=>?_⟩;unfold call eC;rw[l];dsimp only;rw[p];dsimp only;rw[t];dsimp only;rw[g2 N hN];have:=xq g1 R;cases x with|exit i=>exact absurd rfl (P i)| normal=>{dsimp only;rw[this]}|ret=>{dsimp only;rw[this]}}}}}
theorem Ls(o:C.fact=λ_=>none)(p:∀m∈ms,m.Ok C){g:Jo}(j:∀c e h x I l,g c e h=some (x,I,l)->GN C c e h x I l)(f:FuncId)(args:List Value)(h:au)(v:Value)(l:au)(q:CX C ms g f args h=some (v,l)):nk C f args h v l:=by unfold CX at q;cases hm:ms.find? λm=>m.Km f args h with|none=>{rw[hm] at q;exact C1 o j q}|some m=>{rw[hm] at q;cases q;have J:m.Km f args h=true:=by{have:=UY hm;exact this};obtain⟨rfl,rfl,r,t⟩:=eu.M9 J;intro k hk;exact p m (T2 hm) k ⟨r.trans hk.next,λi b P=>hk.get i b (t i b P),hk.wf⟩}
theorem I8(N:Nat):exec C (N+1)=aU C (exec C N):=rfl
theorem BM(t:C.fact=λ_=>none)(I:∀m∈ms,m.Ok C):∀(n:Nat) (c:Code) (e:Env) (h:au) (x:Ex) (J:Env) (P:au),vX C ms n c e h=some (x,J,P)->GN C c e h x J P
 | 0,c,e,h,x,J,P,q=>by cases q
 | n+1,c,e,h,x,J,P,q=>by
  have o:=BM t I n;have q:q9 C ms (vX C ms n) c e h=some (x,J,P):=q;intro k hk
  have up:∀{k':au} {r:Option (Ex×Env×au)},(∃m,∀N,m<=N->aU C (exec C N) c e k=r)->∃m,∀N,m<=N->exec C N c e k=r:=λ{k' r} ⟨m,hm⟩=>⟨m+1,λN g=>by
   obtain⟨N,rfl⟩:∃N',N=N'+1:=⟨N-1,by omega⟩;rw[I8];exact hm N zo⟩
  cases c with
  | region id ops draw=>
   simp only[q9] at q;cases R:wO C (CX C ms (vX C ms n)) ops.toList draw e h with
   | none=>rw[R] at q;cases q
   | some r=>
    obtain⟨U,h1⟩:=r;rw[R] at q;cases q;obtain⟨f,i,m,j⟩:=Ii (Ls t I o) R k hk;refine⟨f,i,up (k':=f) ⟨m,λN g=>?_⟩⟩;show (match jv C (call C N) ops.toList draw e k with | some (e,h)=>some (Ex.normal,e,h) | none=>none)=_
    rw[j N g]
  | skip=>cases q;exact⟨k,hk,up (k':=k) ⟨0,λN _=>rfl⟩⟩
  | exit id=>cases q;exact⟨k,hk,up (k':=k) ⟨0,λN _=>rfl⟩⟩
  | ret=>cases q;exact⟨k,hk,up (k':=k) ⟨0,λN _=>rfl⟩⟩
  | seq a b=>
   simp only[q9,aU] at q;cases l:vX C ms n a e h with
   | none=>rw[l] at q;cases q
   | some r=>
    obtain⟨y,U,h1⟩:=r;rw[l] at q;obtain⟨f,i,m,j⟩:=o _ _ _ _ _ _ l k hk;cases y with
    | normal=>
     obtain⟨k2,g3,m2,g4⟩:=o _ _ _ _ _ _ q f i;refine⟨k2,g3,up (k':=k2) ⟨max m m2,λN g=>?_⟩⟩;simp only[aU,j N zo];exact g4 N zo
    | exit id=>
     cases q;exact⟨f,i,up (k':=f) ⟨m,λN g=>by simp only[aU,j N g]⟩⟩
    | ret=>
     cases q;exact⟨f,i,up (k':=f) ⟨m,λN g=>by simp only[aU,j N g]⟩⟩
  | cond y a b=>
   simp only[q9,aU] at q;split at q
   ·rename_i hy;obtain⟨f,i,m,j⟩:=o _ _ _ _ _ _ q k hk;exact⟨f,i,up (k':=f) ⟨m,λN g=>by simp only[aU,hy,j N g]⟩⟩
   ·rename_i hy;obtain⟨f,i,m,j⟩:=o _ _ _ _ _ _ q k hk;exact⟨f,i,up (k':=f) ⟨m,λN g=>by simp only[aU,hy,j N g]⟩⟩
   ·cases q
  | block id a=>
   simp only[q9,aU] at q;cases l:vX C ms n a e h with
   | none=>rw[l] at q;cases q
   | some r=>
    obtain⟨y,U,h1⟩:=r;rw[l] at q;obtain⟨f,i,m,j⟩:=o _ _ _ _ _ _ l k hk;cases y<;>
    ·cases q;exact⟨f,i,up (k':=f) ⟨m,λN g=>by simp only[aU,j N g]⟩⟩
  | loop a=>
   simp only[q9,aU] at q;cases l:vX C ms n a e h with
   | none=>rw[l] at q;cases q
   | some r=>
    obtain⟨y,U,h1⟩:=r;rw[l] at q;obtain⟨f,i,m,j⟩:=o _ _ _ _ _ _ l k hk;cases y with
    | normal=>
     obtain⟨k2,g3,m2,g4⟩:=o _ _ _ _ _ _ q f i;refine⟨k2,g3,up (k':=k2) ⟨max m m2,λN g=>?_⟩⟩;simp only[aU,j N zo];exact g4 N zo
    | exit id=>
     cases q;exact⟨f,i,up (k':=f) ⟨m,λN g=>by simp only[aU,j N g]⟩⟩
    | ret=>
     cases q;exact⟨f,i,up (k':=f) ⟨m,λN g=>by simp only[aU,j N g]⟩⟩
  | _=>cases q
def HP(C:Ctx)(ms:List eu)(n:Nat)(m:eu):Bool:=match HD C ms n m.f m.args (rA m.next m.pre) with
 | some (v,h)=>iz [v] [m.v]&&Nat.beq h.next m.L6&&m.post.all λp=>kL (h.get p.1) (some p.2)
 | none=>false
theorem pF(g:C.fact=λ_=>none)(j:∀m∈ms,m.Ok C){n:Nat}{m:eu}(q:HP C ms n m=true):m.Ok C:=by unfold HP at q;cases l:HD C ms n m.f m.args (rA m.next m.pre) with|none=>{rw[l] at q;cases q}|some r=>{obtain⟨v,h⟩:=r;rw[l] at q;simp only[ti] at q;obtain⟨⟨p,t⟩,I⟩:=q;have J:=List.cons.inj (gF p);intro k hk;obtain⟨k',o,P⟩:=C1 g (BM g j n) l k hk;exact⟨k',⟨(R6 t).symm.trans o.next,λi b R=>o.get i b (sv (SK.1 I _ (j8 m.post i b R))),o.wf⟩,by rw[<-J.1];exact P⟩}
theorem Jt(g:C.fact=λ_=>none)(j:∀m∈ms,m.Ok C){n f:Nat}{eN:List (Nat×aC)}(t:(eN.all λp=>Nat.blt p.1 C.cM&&qf p.2)=true)
  (q:(match HD C ms n f [] ⟨C.cM,iA eN⟩ with | some (v,_)=>iz [v] [.bool true] | none=>false)=true):∃N,pA C N f eN=true:=by cases l:HD C ms n f [] ⟨C.cM,iA eN⟩ with|none=>{rw[l] at q;cases q}|some r=>{obtain⟨v,h⟩:=r;rw[l] at q;have I:=(List.cons.inj (gF q)).1;subst I;have o:∀i,C.cM<=i->(⟨C.cM,iA eN⟩:au).get i=none:=λi hi=>by{cases J:(⟨C.cM,iA eN⟩:au).get i with|none=>rfl|some b=>{have:=SK.1 t _ (j8 eN i b J);rw[ti] at this;have:=Tq this.1;omega}};obtain⟨k',_,m,P⟩:=C1 g (BM g j n) l _ ⟨rfl,λ_ _ q=>q,o⟩;refine⟨m,?_⟩;unfold pA Gh;rw[t,P m (mc _)];rfl}
end
end Go.Proofs.D
set_option linter.unusedVariables false
set_option maxRecDepth 100000
open Go Go.Abs Go.Proofs
namespace Go.Proofs.D
noncomputable def C0:Ctx:=qo Tryz.prog mask 3
def wx:Nat×aC:=(0,.cells true (u0.map λx:Nat=>Value.int .u8 (x:Int)))
def Le:eu:=⟨92,[.agg ⟨[.int .i64 1,.int .i64 1,.int .i64 0,.slice (some ⟨94,0,none⟩) 2 2]⟩,.int .i64 1],95,[wx,(90,.cells false [.bool true]),(92,.cells false [.bool false,.int .i64 0,.bool false,.int .i64 0]),(93,.cells false [.bool true,.int .i64 0]),(94,.cells false [.int .i64 0,.slice (some ⟨92,0,none⟩) 2 2,.int .i64 0,.slice (some ⟨93,0,none⟩) 1 2])],.tuple ⟨[.slice (some ⟨1111,0,none⟩) 1 5,.int .i64 0]⟩,1112,[wx,(90,.cells false [.bool true]),(92,.cells false [.bool false,.int .i64 0,.bool false,.int .i64 0]),(93,.cells false [.bool true,.int .i64 0]),(94,.cells false [.int .i64 0,.slice (some ⟨92,0,none⟩) 2 2,.int .i64 0,.slice (some ⟨93,0,none⟩) 1 2]),(908,.cells false [.int .i64 1,.int .i64 1,.int .i64 2,.int .i64 0]),(1109,.cells false [.int .i64 0,.int .i64 0]),(1111,.cells false [.int .i64 3,.int .i64 0,.slice (some ⟨908,0,none⟩) 2 2,.slice (some ⟨1109,0,none⟩) 2 1,.bool true])]⟩
theorem I6:Le.Ok C0:=pF rfl (ms:=[]) (λm h=>by cases h) (n:=100000) (by decide +kernel)
def Ka:eu:=⟨38,[.agg ⟨[.int .i64 1,.int .i64 1,.int .i64 0,.slice (some ⟨1115,0,none⟩) 2 2]⟩,.slice (some ⟨1342,0,none⟩) 2 1],1402,[wx,(90,.cells false [.bool true]),(908,.cells false [.int .i64 1,.int .i64 1,.int .i64 2,.int .i64 0]),(1109,.cells false [.int .i64 0,.int .i64 0]),(1111,.cells false [.int .i64 3,.int .i64 0,.slice (some ⟨908,0,none⟩) 2 2,.slice (some ⟨1109,0,none⟩) 2 1,.bool true]),(1113,.cells false [.bool false,.int .i64 0,.bool false,.int .i64 0]),(1114,.cells false [.bool true,.int .i64 0]),(1115,.cells false [.int .i64 0,.slice (some ⟨1113,0,none⟩) 2 2,.int .i64 0,.slice (some ⟨1114,0,none⟩) 1 2]),(1116,.cells false [.int .i64 1,.int .i64 1,.int .i64 0,.slice (some ⟨1115,0,none⟩) 2 2]),(1137,.cells false [.func (.func 86) ⟨[]⟩ ⟨[.pointer (some ⟨1116,0,none⟩),.pointer (some ⟨1137,0,none⟩)]⟩]),(1342,.cells false [.int .i64 0,.int .i64 0])],.tuple ⟨[.int .i64 1,.int .i64 0]⟩,1676,[wx,(90,.cells false [.bool true]),(908,.cells false [.int .i64 1,.int .i64 1,.int .i64 2,.int .i64 0]),(1109,.cells false [.int .i64 0,.int .i64 0]),(1111,.cells false [.int .i64 3,.int .i64 0,.slice (some ⟨908,0,none⟩) 2 2,.slice (some ⟨1109,0,none⟩) 2 1,.bool true]),(1113,.cells false [.bool false,.int .i64 0,.bool false,.int .i64 0]),(1114,.cells false [.bool true,.int .i64 0]),(1115,.cells false [.int .i64 0,.slice (some ⟨1113,0,none⟩) 2 2,.int .i64 0,.slice (some ⟨1114,0,none⟩) 1 2]),(1116,.cells false [.int .i64 1,.int .i64 1,.int .i64 0,.slice (some ⟨1115,0,none⟩) 2 2]),(1137,.cells false [.func (.func 86) ⟨[]⟩ ⟨[.pointer (some ⟨1116,0,none⟩),.pointer (some ⟨1137,0,none⟩)]⟩]),(1342,.cells false [.int .i64 0,.int .i64 0]),(1402,.cells false [.int .i64 1,.int .i64 1,.int .i64 0,.slice (some ⟨1115,0,none⟩) 2 2])]⟩
theorem Jm:Ka.Ok C0:=pF rfl (ms:=[]) (λm h=>by cases h) (n:=100000) (by decide +kernel)
def G7:eu:=⟨90,[.agg ⟨[.int .i64 1,.int .i64 1,.int .i64 0,.slice (some ⟨1115,0,none⟩) 2 2]⟩,.slice (some ⟨1687,0,none⟩) 3 1],1793,[wx,(90,.cells false [.bool true]),(908,.cells false [.int .i64 1,.int .i64 1,.int .i64 2,.int .i64 0]),(1109,.cells false [.int .i64 0,.int .i64 0]),(1111,.cells false [.int .i64 3,.int .i64 0,.slice (some ⟨908,0,none⟩) 2 2,.slice (some ⟨1109,0,none⟩) 2 1,.bool true]),(1113,.cells false [.bool false,.int .i64 0,.bool false,.int .i64 0]),(1114,.cells false [.bool true,.int .i64 0]),(1115,.cells false [.int .i64 0,.slice (some ⟨1113,0,none⟩) 2 2,.int .i64 0,.slice (some ⟨1114,0,none⟩) 1 2]),(1116,.cells false [.int .i64 1,.int .i64 1,.int .i64 0,.slice (some ⟨1115,0,none⟩) 2 2]),(1137,.cells false [.func (.func 86) ⟨[]⟩ ⟨[.pointer (some ⟨1116,0,none⟩),.pointer (some ⟨1137,0,none⟩)]⟩]),(1402,.cells false [.int .i64 1,.int .i64 1,.int .i64 0,.slice (some ⟨1115,0,none⟩) 2 2]),(1687,.cells false [.int .i64 0,.int .i64 0,.int .i64 0]),(1770,.cells false [.int .i64 1,.int .i64 1,.int .i64 0,.slice (some ⟨1115,0,none⟩) 2 2])],.agg ⟨[.slice (some ⟨2306,0,none⟩) 9 5,.int .i64 3]⟩,2308,[wx,(90,.cells false [.bool true]),(908,.cells false [.int .i64 1,.int .i64 1,.int .i64 2,.int .i64 0]),(1109,.cells false [.int .i64 0,.int .i64 0]),(1111,.cells false [.int .i64 3,.int .i64 0,.slice (some ⟨908,0,none⟩) 2 2,.slice (some ⟨1109,0,none⟩) 2 1,.bool true]),(1113,.cells false [.bool false,.int .i64 0,.bool false,.int .i64 0]),(1114,.cells false [.bool true,.int .i64 0]),(1115,.cells false [.int .i64 0,.slice (some ⟨1113,0,none⟩) 2 2,.int .i64 0,.slice (some ⟨1114,0,none⟩) 1 2]),(1116,.cells false [.int .i64 1,.int .i64 1,.int .i64 0,.slice (some ⟨1115,0,none⟩) 2 2]),(1137,.cells false [.func (.func 86) ⟨[]⟩ ⟨[.pointer (some ⟨1116,0,none⟩),.pointer (some ⟨1137,0,none⟩)]⟩]),(1402,.cells false [.int .i64 1,.int .i64 1,.int .i64 0,.slice (some ⟨1115,0,none⟩) 2 2]),(1687,.cells false [.int .i64 0,.int .i64 0,.int .i64 0]),(1770,.cells false [.int .i64 1,.int .i64 1,.int .i64 0,.slice (some ⟨1115,0,none⟩) 2 2]),(2217,.cells false [.int .i64 0]),(2219,.cells false [.int .i64 1,.slice (some ⟨2217,0,none⟩) 1 1]),(2231,.cells false [.int .i64 1,.int .i64 5]),(2233,.cells false [.int .i64 0,.slice (some ⟨2231,0,none⟩) 2 1]),(2245,.cells false [.int .i64 1,.int .i64 6]),(2255,.cells false [.int .i64 2,.int .i64 8]),(2257,.cells false [.int .i64 0,.slice (some ⟨2245,0,none⟩) 2 1,.int .i64 0,.slice (some ⟨2255,0,none⟩) 2 1]),(2273,.cells false [.int .i64 4]),(2275,.cells false [.int .i64 1,.slice (some ⟨2273,0,none⟩) 1 1]),(2287,.cells false [.int .i64 5,.int .i64 8]),(2289,.cells false [.int .i64 0,.slice (some ⟨2287,0,none⟩) 2 1]),(2302,.cells false [.int .i64 7]),(2304,.cells false [.int .i64 1,.slice (some ⟨2302,0,none⟩) 1 1]),(2306,.cells false [.bool true,.int .i64 0,.int .i64 0,.int .i64 1,.slice none 0 0,.bool false,.int .i64 0,.int .i64 0,.int .i64 1,.slice (some ⟨2219,0,none⟩) 1 2,.bool false,.int .i64 0,.int .i64 0,.int .i64 2,.slice (some ⟨2233,0,none⟩) 1 2,.bool false,.int .i64 0,.int .i64 0,.int .i64 3,.slice (some ⟨2257,0,none⟩) 2 2,.bool true,.int .i64 0,.int .i64 1,.int .i64 2,.slice none 0 0,.bool false,.int .i64 0,.int .i64 1,.int .i64 2,.slice (some ⟨2275,0,none⟩) 1 2,.bool false,.int .i64 0,.int .i64 1,.int .i64 3,.slice (some ⟨2289,0,none⟩) 1 2,.bool true,.int .i64 0,.int .i64 2,.int .i64 3,.slice none 0 0,.bool false,.int .i64 0,.int .i64 2,.int .i64 3,.slice (some ⟨2304,0,none⟩) 1 2])]⟩
theorem Ay:G7.Ok C0:=pF rfl (ms:=[]) (λm h=>by cases h) (n:=100000) (by decide +kernel)
def Li:eu:=⟨38,[.agg ⟨[.int .i64 1,.int .i64 1,.int .i64 0,.slice (some ⟨1115,0,none⟩) 2 2]⟩,.slice (some ⟨1687,0,none⟩) 3 1],1770,[wx,(90,.cells false [.bool true]),(908,.cells false [.int .i64 1,.int .i64 1,.int .i64 2,.int .i64 0]),(1109,.cells false [.int .i64 0,.int .i64 0]),(1111,.cells false [.int .i64 3,.int .i64 0,.slice (some ⟨908,0,none⟩) 2 2,.slice (some ⟨1109,0,none⟩) 2 1,.bool true]),(1113,.cells false [.bool false,.int .i64 0,.bool false,.int .i64 0]),(1114,.cells false [.bool true,.int .i64 0]),(1115,.cells false [.int .i64 0,.slice (some ⟨1113,0,none⟩) 2 2,.int .i64 0,.slice (some ⟨1114,0,none⟩) 1 2]),(1116,.cells false [.int .i64 1,.int .i64 1,.int .i64 0,.slice (some ⟨1115,0,none⟩) 2 2]),(1137,.cells false [.func (.func 86) ⟨[]⟩ ⟨[.pointer (some ⟨1116,0,none⟩),.pointer (some ⟨1137,0,none⟩)]⟩]),(1402,.cells false [.int .i64 1,.int .i64 1,.int .i64 0,.slice (some ⟨1115,0,none⟩) 2 2]),(1687,.cells false [.int .i64 0,.int .i64 0,.int .i64 0])],.tuple ⟨[.int .i64 2,.int .i64 0]⟩,2330,[wx,(90,.cells false [.bool true]),(908,.cells false [.int .i64 1,.int .i64 1,.int .i64 2,.int .i64 0]),(1109,.cells false [.int .i64 0,.int .i64 0]),(1111,.cells false [.int .i64 3,.int .i64 0,.slice (some ⟨908,0,none⟩) 2 2,.slice (some ⟨1109,0,none⟩) 2 1,.bool true]),(1113,.cells false [.bool false,.int .i64 0,.bool false,.int .i64 0]),(1114,.cells false [.bool true,.int .i64 0]),(1115,.cells false [.int .i64 0,.slice (some ⟨1113,0,none⟩) 2 2,.int .i64 0,.slice (some ⟨1114,0,none⟩) 1 2]),(1116,.cells false [.int .i64 1,.int .i64 1,.int .i64 0,.slice (some ⟨1115,0,none⟩) 2 2]),(1137,.cells false [.func (.func 86) ⟨[]⟩ ⟨[.pointer (some ⟨1116,0,none⟩),.pointer (some ⟨1137,0,none⟩)]⟩]),(1402,.cells false [.int .i64 1,.int .i64 1,.int .i64 0,.slice (some ⟨1115,0,none⟩) 2 2]),(1687,.cells false [.int .i64 0,.int .i64 0,.int .i64 0]),(1770,.cells false [.int .i64 1,.int .i64 1,.int .i64 0,.slice (some ⟨1115,0,none⟩) 2 2])]⟩
theorem IW:Li.Ok C0:=pF rfl (ms:=[G7]) (λm h=>by rw[n0.1 h];exact Ay) (n:=100000) (by decide +kernel)
def GP:eu:=⟨90,[.agg ⟨[.int .i64 1,.int .i64 1,.int .i64 0,.slice (some ⟨1115,0,none⟩) 2 2]⟩,.slice (some ⟨1687,0,none⟩) 3 1],2353,[wx,(90,.cells false [.bool true]),(908,.cells false [.int .i64 1,.int .i64 1,.int .i64 2,.int .i64 0]),(1109,.cells false [.int .i64 0,.int .i64 0]),(1111,.cells false [.int .i64 3,.int .i64 0,.slice (some ⟨908,0,none⟩) 2 2,.slice (some ⟨1109,0,none⟩) 2 1,.bool true]),(1113,.cells false [.bool false,.int .i64 0,.bool false,.int .i64 0]),(1114,.cells false [.bool true,.int .i64 0]),(1115,.cells false [.int .i64 0,.slice (some ⟨1113,0,none⟩) 2 2,.int .i64 0,.slice (some ⟨1114,0,none⟩) 1 2]),(1116,.cells false [.int .i64 1,.int .i64 1,.int .i64 0,.slice (some ⟨1115,0,none⟩) 2 2]),(1137,.cells false [.func (.func 86) ⟨[]⟩ ⟨[.pointer (some ⟨1116,0,none⟩),.pointer (some ⟨1137,0,none⟩)]⟩]),(1402,.cells false [.int .i64 1,.int .i64 1,.int .i64 0,.slice (some ⟨1115,0,none⟩) 2 2]),(1687,.cells false [.int .i64 0,.int .i64 0,.int .i64 0]),(1770,.cells false [.int .i64 1,.int .i64 1,.int .i64 0,.slice (some ⟨1115,0,none⟩) 2 2]),(2330,.cells false [.int .i64 1,.int .i64 1,.int .i64 0,.slice (some ⟨1115,0,none⟩) 2 2])],.agg ⟨[.slice (some ⟨2866,0,none⟩) 9 5,.int .i64 3]⟩,2868,[wx,(90,.cells false [.bool true]),(908,.cells false [.int .i64 1,.int .i64 1,.int .i64 2,.int .i64 0]),(1109,.cells false [.int .i64 0,.int .i64 0]),(1111,.cells false [.int .i64 3,.int .i64 0,.slice (some ⟨908,0,none⟩) 2 2,.slice (some ⟨1109,0,none⟩) 2 1,.bool true]),(1113,.cells false [.bool false,.int .i64 0,.bool false,.int .i64 0]),(1114,.cells false [.bool true,.int .i64 0]),(1115,.cells false [.int .i64 0,.slice (some ⟨1113,0,none⟩) 2 2,.int .i64 0,.slice (some ⟨1114,0,none⟩) 1 2]),(1116,.cells false [.int .i64 1,.int .i64 1,.int .i64 0,.slice (some ⟨1115,0,none⟩) 2 2]),(1137,.cells false [.func (.func 86) ⟨[]⟩ ⟨[.pointer (some ⟨1116,0,none⟩),.pointer (some ⟨1137,0,none⟩)]⟩]),(1402,.cells false [.int .i64 1,.int .i64 1,.int .i64 0,.slice (some ⟨1115,0,none⟩) 2 2]),(1687,.cells false [.int .i64 0,.int .i64 0,.int .i64 0]),(1770,.cells false [.int .i64 1,.int .i64 1,.int .i64 0,.slice (some ⟨1115,0,none⟩) 2 2]),(2330,.cells false [.int .i64 1,.int .i64 1,.int .i64 0,.slice (some ⟨1115,0,none⟩) 2 2]),(2777,.cells false [.int .i64 0]),(2779,.cells false [.int .i64 1,.slice (some ⟨2777,0,none⟩) 1 1]),(2791,.cells false [.int .i64 1,.int .i64 5]),(2793,.cells false [.int .i64 0,.slice (some ⟨2791,0,none⟩) 2 1]),(2805,.cells false [.int .i64 1,.int .i64 6]),(2815,.cells false [.int .i64 2,.int .i64 8]),(2817,.cells false [.int .i64 0,.slice (some ⟨2805,0,none⟩) 2 1,.int .i64 0,.slice (some ⟨2815,0,none⟩) 2 1]),(2833,.cells false [.int .i64 4]),(2835,.cells false [.int .i64 1,.slice (some ⟨2833,0,none⟩) 1 1]),(2847,.cells false [.int .i64 5,.int .i64 8]),(2849,.cells false [.int .i64 0,.slice (some ⟨2847,0,none⟩) 2 1]),(2862,.cells false [.int .i64 7]),(2864,.cells false [.int .i64 1,.slice (some ⟨2862,0,none⟩) 1 1]),(2866,.cells false [.bool true,.int .i64 0,.int .i64 0,.int .i64 1,.slice none 0 0,.bool false,.int .i64 0,.int .i64 0,.int .i64 1,.slice (some ⟨2779,0,none⟩) 1 2,.bool false,.int .i64 0,.int .i64 0,.int .i64 2,.slice (some ⟨2793,0,none⟩) 1 2,.bool false,.int .i64 0,.int .i64 0,.int .i64 3,.slice (some ⟨2817,0,none⟩) 2 2,.bool true,.int .i64 0,.int .i64 1,.int .i64 2,.slice none 0 0,.bool false,.int .i64 0,.int .i64 1,.int .i64 2,.slice (some ⟨2835,0,none⟩) 1 2,.bool false,.int .i64 0,.int .i64 1,.int .i64 3,.slice (some ⟨2849,0,none⟩) 1 2,.bool true,.int .i64 0,.int .i64 2,.int .i64 3,.slice none 0 0,.bool false,.int .i64 0,.int .i64 2,.int .i64 3,.slice (some ⟨2864,0,none⟩) 1 2])]⟩
theorem A0:GP.Ok C0:=pF rfl (ms:=[]) (λm h=>by cases h) (n:=100000) (by decide +kernel)
def KH:eu:=⟨75,[.agg ⟨[.int .i64 1,.int .i64 1,.int .i64 0,.slice (some ⟨1115,0,none⟩) 2 2]⟩,.slice (some ⟨1687,0,none⟩) 3 1,.int .i64 2],2330,[wx,(90,.cells false [.bool true]),(908,.cells false [.int .i64 1,.int .i64 1,.int .i64 2,.int .i64 0]),(1109,.cells false [.int .i64 0,.int .i64 0]),(1111,.cells false [.int .i64 3,.int .i64 0,.slice (some ⟨908,0,none⟩) 2 2,.slice (some ⟨1109,0,none⟩) 2 1,.bool true]),(1113,.cells false [.bool false,.int .i64 0,.bool false,.int .i64 0]),(1114,.cells false [.bool true,.int .i64 0]),(1115,.cells false [.int .i64 0,.slice (some ⟨1113,0,none⟩) 2 2,.int .i64 0,.slice (some ⟨1114,0,none⟩) 1 2]),(1116,.cells false [.int .i64 1,.int .i64 1,.int .i64 0,.slice (some ⟨1115,0,none⟩) 2 2]),(1137,.cells false [.func (.func 86) ⟨[]⟩ ⟨[.pointer (some ⟨1116,0,none⟩),.pointer (some ⟨1137,0,none⟩)]⟩]),(1402,.cells false [.int .i64 1,.int .i64 1,.int .i64 0,.slice (some ⟨1115,0,none⟩) 2 2]),(1687,.cells false [.int .i64 0,.int .i64 0,.int .i64 0]),(1770,.cells false [.int .i64 1,.int .i64 1,.int .i64 0,.slice (some ⟨1115,0,none⟩) 2 2])],.tuple ⟨[.slice (some ⟨3276,0,none⟩) 2 3,.int .i64 0]⟩,3277,[wx,(90,.cells false [.bool true]),(908,.cells false [.int .i64 1,.int .i64 1,.int .i64 2,.int .i64 0]),(1109,.cells false [.int .i64 0,.int .i64 0]),(1111,.cells false [.int .i64 3,.int .i64 0,.slice (some ⟨908,0,none⟩) 2 2,.slice (some ⟨1109,0,none⟩) 2 1,.bool true]),(1113,.cells false [.bool false,.int .i64 0,.bool false,.int .i64 0]),(1114,.cells false [.bool true,.int .i64 0]),(1115,.cells false [.int .i64 0,.slice (some ⟨1113,0,none⟩) 2 2,.int .i64 0,.slice (some ⟨1114,0,none⟩) 1 2]),(1116,.cells false [.int .i64 1,.int .i64 1,.int .i64 0,.slice (some ⟨1115,0,none⟩) 2 2]),(1137,.cells false [.func (.func 86) ⟨[]⟩ ⟨[.pointer (some ⟨1116,0,none⟩),.pointer (some ⟨1137,0,none⟩)]⟩]),(1402,.cells false [.int .i64 1,.int .i64 1,.int .i64 0,.slice (some ⟨1115,0,none⟩) 2 2]),(1687,.cells false [.int .i64 0,.int .i64 0,.int .i64 0]),(1770,.cells false [.int .i64 1,.int .i64 1,.int .i64 0,.slice (some ⟨1115,0,none⟩) 2 2]),(2330,.cells false [.int .i64 1,.int .i64 1,.int .i64 0,.slice (some ⟨1115,0,none⟩) 2 2]),(3222,.cells false [.int .i64 (-1),.int .i64 0,.slice none 0 0]),(3230,.cells false [.int .i64 (-1),.int .i64 0,.slice none 0 0]),(3232,.cells false [.int .i64 1,.int .i64 0,.slice (some ⟨3222,0,none⟩) 1 3,.int .i64 1,.int .i64 0,.slice (some ⟨3230,0,none⟩) 1 3]),(3240,.cells false [.int .i64 (-1),.int .i64 0,.slice none 0 0]),(3242,.cells false [.int .i64 0,.int .i64 0,.slice (some ⟨3232,0,none⟩) 2 3,.int .i64 1,.int .i64 0,.slice (some ⟨3240,0,none⟩) 1 3]),(3252,.cells false [.int .i64 (-1),.int .i64 0,.slice none 0 0]),(3262,.cells false [.int .i64 (-1),.int .i64 0,.slice none 0 0]),(3270,.cells false [.int .i64 (-1),.int .i64 0,.slice none 0 0]),(3272,.cells false [.int .i64 1,.int .i64 0,.slice (some ⟨3262,0,none⟩) 1 3,.int .i64 1,.int .i64 0,.slice (some ⟨3270,0,none⟩) 1 3]),(3274,.cells false [.int .i64 1,.int .i64 0,.slice (some ⟨3252,0,none⟩) 1 3,.int .i64 0,.int .i64 0,.slice (some ⟨3272,0,none⟩) 2 3]),(3276,.cells false [.int .i64 0,.int .i64 0,.slice (some ⟨3242,0,none⟩) 2 3,.int .i64 0,.int .i64 0,.slice (some ⟨3274,0,none⟩) 2 3])]⟩
theorem Jd:KH.Ok C0:=pF rfl (ms:=[GP]) (λm h=>by rw[n0.1 h];exact A0) (n:=100000) (by decide +kernel)
theorem CE:∃N,pA C0 N 39 eN=true:=by (refine Jt rfl (ms:=[Le,Ka,G7,Li,GP,KH]) (λm h=>?_) (n:=100000) (by decide +kernel) (by decide +kernel);simp only[IN,List.not_mem_nil,or_false] at h;rcases h with rfl | rfl | rfl | rfl | rfl | rfl);{exact I6};{exact Jm};{exact Ay};{exact IW};{exact A0};{exact Jd}
end Go.Proofs.D