/-
  A logic over the abstract machine: what is known, what is owned, rules for operations and code.
-/
import Derived.Test.YtmbdmfjijofmmaaGreatDoorPAbs5
/-
 A logic over the abstract machine: what is known of the slots,which blocks are frozen,which blocks are one's own.
-/
namespace Go.Abs
open Go
def O0(C:Ctx)(f:FuncId)(args:List Value)(h:aq)(v:Value)(h':aq):Prop:=∃m,∀n,m<=n->call C n f args h=some (v,h')
def MO(C:Ctx)(c:Code)(e:Env)(h:aq)(x:Ex)(e':Env)(h':aq):Prop:=∃m,∀n,m<=n->exec C n c e h=some (x,e',h')
abbrev bC:=List (Nat×Value)
def lk:bC->Nat->Option Value
 | [],_=>none
 | (i,v)::k,j=>bif Nat.beq i j then some v else lk k j
structure dL(n:Nat)(e:Env)(k:bC):Prop where
 n:e.n=n
 get:∀i v,lk k i=some v->e.get i=some v
def aW(C:Ctx)(k:bC):Operand->Option Value
 | .tmp i=>lk k i
 | .const v=>bif plain v then some v else none
 | .global g=>bif Nat.blt g C.cK then some (.pointer (some ⟨g,0,none⟩)) else none
 | .func f=>some (.func (.func f) #[] #[])
theorem dL.eval{C:Ctx}{n:Nat}{e:Env}{k:bC}(h:dL n e k):∀x v,aW C k x=some v->e.eval C x=some v
 | .tmp i,v,q=>h.get i v q
 | .const _,_,q=>q
 | .global _,_,q=>q
 | .func _,_,q=>q
def cu(n:Nat)(k:bC)(d:Option Tmp)(v:Value):bC:=
 match d with
 | none=>k
 | some d=>bif Nat.blt d n then (d,v)::k else k
theorem dL.put{n:Nat}{e:Env}{k:bC}(h:dL n e k)(d:Option Tmp)(v:Value):dL n (e.put d v) (cu n k d v):=by
 cases d with
 | none=>exact h
 | some d=>
  simp only[Env.put,cu,h.n];cases hb:Nat.blt d n with
  | false=>exact h
  | true=>
   simp only[RH];refine⟨rfl,λi u q=>?_⟩;simp only[lk] at q;show T.get (T.set e.t d (some v)) i=some u;rw[T.kO];by_cases hi:i=d
   ·subst hi;have:Nat.beq i i=true:=Tx i;rw[this] at q;simpa using q
   ·rw[AT hi];have:Nat.beq d i=false:=by
     cases hh:Nat.beq d i with
     | false=>rfl
     | true=>exact absurd (R8 hh).symm hi
    rw[this] at q;exact h.get i u q
def bI(k2 k:bC):Prop:=∀i v,lk k2 i=some v->lk k i=some v
theorem bI.nil(k:bC):bI [] k:=λ_ _ q=>by cases q
theorem bI.cons{i:Nat}{v:Value}{k2 k:bC}(h1:lk k i=some v)(h2:bI k2 k):bI ((i,v)::k2) k:=by
 intro j u q;simp only[lk] at q;cases hb:Nat.beq i j with
 | true=>
  rw[hb] at q;have:=R8 hb;subst this;cases q;exact h1
 | false=>rw[hb] at q;exact h2 j u q
theorem dL.weaken{n:Nat}{e:Env}{k k2:bC}(h:dL n e k)(hs:bI k2 k):dL n e k2:=⟨h.n,λi v q=>h.get i v (hs i v q)⟩
theorem yz{ρ ρ':Operand->Option Value}(hρ:∀x v,ρ x=some v->ρ' x=some v):∀(xs:List Operand) (vs:List Value),dI ρ xs=some vs->dI ρ' xs=some vs
 | [],vs,q=>q
 | x::xs,vs,q=>by
  unfold dI at q ⊢;cases h1:ρ x with
  | none=>simp[h1] at q
  | some v=>
   cases h2:dI ρ xs with
   | none=>simp[h1,h2] at q
   | some us=>
    rw[hρ x v h1,yz hρ xs us h2];simpa [h1,h2] using q
theorem uH{ρ ρ':Operand->Option Value}(hρ:∀x v,ρ x=some v->ρ' x=some v):∀(xs:List (Nat×Operand)) (vs:List (Nat×Value)),eN ρ xs=some vs->eN ρ' xs=some vs
 | [],vs,q=>q
 | (i,x)::xs,vs,q=>by
  unfold eN at q ⊢;cases h1:ρ x with
  | none=>simp[h1] at q
  | some v=>
   cases h2:eN ρ xs with
   | none=>simp[h1,h2] at q
   | some us=>
    rw[hρ x v h1,uH hρ xs us h2];simpa [h1,h2] using q
theorem Ga{ρ ρ':Operand->Option Value}(hρ:∀x v,ρ x=some v->ρ' x=some v):∀(x:Option Operand) (r:Option Value),lH ρ x=some r->lH ρ' x=some r
 | none,r,q=>q
 | some x,r,q=>by
  simp only[lH] at q ⊢;cases h1:ρ x with
  | none=>simp[h1] at q
  | some v=>rw[hρ x v h1];simpa [h1] using q
theorem dU{C:Ctx}{ρ ρ':Operand->Option Value}(hρ:∀x v,ρ x=some v->ρ' x=some v){h:aq}{op:Op}{r:yX}(q:aN C ρ h op=some r):aN C ρ' h op=some r:=by
 have key:∀x,ρ x=none\/∃v,ρ x=some v/\ρ' x=some v:=λx=>by
  cases h1:ρ x with
  | none=>exact .inl rfl
  | some v=>exact .inr ⟨v,rfl,hρ x v h1⟩
 have kopt:∀x,lH ρ x=none\/∃v,lH ρ x=some v/\lH ρ' x=some v:=λx=>by
  cases h1:lH ρ x with
  | none=>exact .inl rfl
  | some v=>exact .inr ⟨v,rfl,Ga hρ x v h1⟩
 have kvals:∀x:List Operand,dI ρ x=none\/∃v,dI ρ x=some v/\dI ρ' x=some v:=λx=>by
  cases h1:dI ρ x with
  | none=>exact .inl rfl
  | some v=>exact .inr ⟨v,rfl,yz hρ x v h1⟩
 have kparts:∀x:List (Nat×Operand),eN ρ x=none\/∃v,eN ρ x=some v/\eN ρ' x=some v:=λx=>by
  cases h1:eN ρ x with
  | none=>exact .inl rfl
  | some v=>exact .inr ⟨v,rfl,uH hρ x v h1⟩
 cases op with
 | makeMap t hint=>exact(by cases hint<;>exact q)
 | alloc e=>exact q
 | call c=>
  cases c with
  | mk callee args argTypes=>
  cases callee with
  | builtin b=>
   rcases kvals args.toList with h0 | ⟨v0,h0,g0⟩
   ·simp[aN,h0] at q
   simp only[aN,h0] at q;simp only[aN,g0];exact q
  | value f=>
   rcases key f with h1 | ⟨v1,h1,g1⟩
   ·simp[aN,h1] at q
   rcases kvals args.toList with h0 | ⟨v0,h0,g0⟩
   ·simp[aN,h0,h1] at q
   simp only[aN,h0,h1] at q;simp only[aN,g0,g1];exact q
  | invoke f m=>
   rcases key f with h1 | ⟨v1,h1,g1⟩
   ·simp[aN,h1] at q
   rcases kvals args.toList with h0 | ⟨v0,h0,g0⟩
   ·simp[aN,h0,h1] at q
   simp only[aN,h0,h1] at q;simp only[aN,g0,g1];exact q
 | pick c x y=>
  rcases key c with h0 | ⟨v0,h0,g0⟩
  ·simp[aN,h0] at q
  simp only[aN,h0] at q;simp only[aN,g0];split at q
  ·rcases key x with h1 | ⟨v1,h1,g1⟩
   ·simp[h1] at q
   ·rw[h1] at q;rw[g1];exact q
  ·rcases key y with h1 | ⟨v1,h1,g1⟩
   ·simp[h1] at q
   ·rw[h1] at q;rw[g1];exact q
  ·cases q
 | move x=>
  rcases key x with h0 | ⟨v0,h0,g0⟩
  ·simp[aN,h0] at q
  simp only[aN,h0] at q;simp only[aN,g0];exact q
 | assign x=>
  rcases key x with h0 | ⟨v0,h0,g0⟩
  ·simp[aN,h0] at q
  simp only[aN,h0] at q;simp only[aN,g0];exact q
 | box t x=>
  rcases key x with h0 | ⟨v0,h0,g0⟩
  ·simp[aN,h0] at q
  simp only[aN,h0] at q;simp only[aN,g0];exact q
 | build t ps=>
  rcases kparts ps.toList with h0 | ⟨v0,h0,g0⟩
  ·simp[aN,h0] at q
  simp only[aN,h0] at q;simp only[aN,g0];exact q
 | buildSlice t n ps=>
  rcases kparts ps.toList with h0 | ⟨v0,h0,g0⟩
  ·simp[aN,h0] at q
  simp only[aN,h0] at q;simp only[aN,g0];exact q
 | load t x=>
  rcases key x with h0 | ⟨v0,h0,g0⟩
  ·simp[aN,h0] at q
  simp only[aN,h0] at q;simp only[aN,g0];exact q
 | store t x y=>
  rcases key x with h0 | ⟨v0,h0,g0⟩
  ·simp[aN,h0] at q
  rcases key y with h1 | ⟨v1,h1,g1⟩
  ·simp[aN,h0,h1] at q
  simp only[aN,h0,h1] at q;simp only[aN,g0,g1];exact q
 | nilCheck x=>
  rcases key x with h0 | ⟨v0,h0,g0⟩
  ·simp[aN,h0] at q
  simp only[aN,h0] at q;simp only[aN,g0];exact q
 | binOp op t x y m=>
  rcases key x with h0 | ⟨v0,h0,g0⟩
  ·simp[aN,h0] at q
  rcases key y with h1 | ⟨v1,h1,g1⟩
  ·simp[aN,h0,h1] at q
  simp only[aN,h0,h1] at q;simp only[aN,g0,g1];exact q
 | unOp op t x=>
  rcases key x with h0 | ⟨v0,h0,g0⟩
  ·simp[aN,h0] at q
  simp only[aN,h0] at q;simp only[aN,g0];exact q
 | convert s d x=>
  rcases key x with h0 | ⟨v0,h0,g0⟩
  ·simp[aN,h0] at q
  simp only[aN,h0] at q;simp only[aN,g0];exact q
 | makeInterface t x=>
  rcases key x with h0 | ⟨v0,h0,g0⟩
  ·simp[aN,h0] at q
  simp only[aN,h0] at q;simp only[aN,g0];exact q
 | makeFunc f xs ys=>
  rcases kvals xs.toList with h0 | ⟨v0,h0,g0⟩
  ·simp[aN,h0] at q
  rcases kvals ys.toList with h1 | ⟨v1,h1,g1⟩
  ·simp[aN,h0,h1] at q
  simp only[aN,h0,h1] at q;simp only[aN,g0,g1];exact q
 | makeSlice t x y=>
  rcases key x with h0 | ⟨v0,h0,g0⟩
  ·simp[aN,h0] at q
  rcases key y with h1 | ⟨v1,h1,g1⟩
  ·simp[aN,h0,h1] at q
  simp only[aN,h0,h1] at q;simp only[aN,g0,g1];exact q
 | slice t x lo hi mx=>
  rcases key x with h0 | ⟨v0,h0,g0⟩
  ·simp[aN,h0] at q
  rcases kopt lo with h1 | ⟨v1,h1,g1⟩
  ·simp[aN,h0,h1] at q
  rcases kopt hi with h2 | ⟨v2,h2,g2⟩
  ·simp[aN,h0,h1,h2] at q
  rcases kopt mx with h3 | ⟨v3,h3,g3⟩
  ·simp[aN,h0,h1,h2,h3] at q
  simp only[aN,h0,h1,h2,h3] at q;simp only[aN,g0,g1,g2,g3];exact q
 | fieldAddr t x f=>
  rcases key x with h0 | ⟨v0,h0,g0⟩
  ·simp[aN,h0] at q
  simp only[aN,h0] at q;simp only[aN,g0];exact q
 | field t x f=>
  rcases key x with h0 | ⟨v0,h0,g0⟩
  ·simp[aN,h0] at q
  simp only[aN,h0] at q;simp only[aN,g0];exact q
 | indexAddr t x i=>
  rcases key x with h0 | ⟨v0,h0,g0⟩
  ·simp[aN,h0] at q
  rcases key i with h1 | ⟨v1,h1,g1⟩
  ·simp[aN,h0,h1] at q
  simp only[aN,h0,h1] at q;simp only[aN,g0,g1];exact q
 | index t x i=>
  rcases key x with h0 | ⟨v0,h0,g0⟩
  ·simp[aN,h0] at q
  rcases key i with h1 | ⟨v1,h1,g1⟩
  ·simp[aN,h0,h1] at q
  simp only[aN,h0,h1] at q;simp only[aN,g0,g1];exact q
 | lookup t x i ok=>
  rcases key x with h0 | ⟨v0,h0,g0⟩
  ·simp[aN,h0] at q
  rcases key i with h1 | ⟨v1,h1,g1⟩
  ·simp[aN,h0,h1] at q
  simp only[aN,h0,h1] at q;simp only[aN,g0,g1];exact q
 | mapUpdate t x y z=>
  rcases key x with h0 | ⟨v0,h0,g0⟩
  ·simp[aN,h0] at q
  rcases key y with h1 | ⟨v1,h1,g1⟩
  ·simp[aN,h0,h1] at q
  rcases key z with h2 | ⟨v2,h2,g2⟩
  ·simp[aN,h0,h1,h2] at q
  simp only[aN,h0,h1,h2] at q;simp only[aN,g0,g1,g2];exact q
 | mapEntry t x y=>
  rcases key x with h0 | ⟨v0,h0,g0⟩
  ·simp[aN,h0] at q
  rcases key y with h1 | ⟨v1,h1,g1⟩
  ·simp[aN,h0,h1] at q
  simp only[aN,h0,h1] at q;simp only[aN,g0,g1];exact q
 | entryStore t x y z=>
  rcases key x with h0 | ⟨v0,h0,g0⟩
  ·simp[aN,h0] at q
  rcases key y with h1 | ⟨v1,h1,g1⟩
  ·simp[aN,h0,h1] at q
  rcases key z with h2 | ⟨v2,h2,g2⟩
  ·simp[aN,h0,h1,h2] at q
  simp only[aN,h0,h1,h2] at q;simp only[aN,g0,g1,g2];exact q
 | insert t x y z=>
  rcases key x with h0 | ⟨v0,h0,g0⟩
  ·simp[aN,h0] at q
  rcases key y with h1 | ⟨v1,h1,g1⟩
  ·simp[aN,h0,h1] at q
  rcases key z with h2 | ⟨v2,h2,g2⟩
  ·simp[aN,h0,h1,h2] at q
  simp only[aN,h0,h1,h2] at q;simp only[aN,g0,g1,g2];exact q
 | typeAssert x xt t b=>
  rcases key x with h0 | ⟨v0,h0,g0⟩
  ·simp[aN,h0] at q
  simp only[aN,h0] at q;simp only[aN,g0];exact q
 | extract x i=>
  rcases key x with h0 | ⟨v0,h0,g0⟩
  ·simp[aN,h0] at q
  simp only[aN,h0] at q;simp only[aN,g0];exact q
 | _=>exact q
mutual
theorem fK:∀(a:Value),bN a a=true
 | .bool a=>by simp[bN]
 | .int k a=>by simp[bN]
 | .float k a=>by simp[bN]
 | .complex k a c=>by simp[bN]
 | .string a=>by simp[bN]
 | .pointer a=>by simp[bN]
 | .slice a n c=>by simp[bN]
 | .map a=>by simp[bN]
 | .chan a=>by simp[bN]
 | .func f ⟨xs⟩ ⟨ys⟩=>by simp[bN,gU xs,gU ys]
 | .nilFunc=>rfl
 | .iface t v=>by simp[bN,fK v]
 | .nilIface=>rfl
 | .agg ⟨xs⟩=>by simp only[bN];exact gU xs
 | .tuple ⟨xs⟩=>by simp only[bN];exact gU xs
theorem gU:∀(a:List Value),jF a a=true
 | []=>rfl
 | x::xs=>by simp only[jF,fK x,gU xs];rfl
end
theorem ux:∀(a:List (Value×Value)),nl a a=true
 | []=>rfl
 | (x,y)::xs=>by simp only[nl,fK x,fK y,ux xs];rfl
theorem wy:∀(a:Option aE),nJ a a=true
 | none=>rfl
 | some (.cells r xs)=>by simp only[nJ,gU xs];simp
 | some (.map xs)=>by simp only[nJ,ux xs]
abbrev ar:=Nat->Option aE
abbrev bh:=List (List (Nat×aE))
def ar.le(F G:ar):Prop:=∀i b,F i=some b->G i=some b
theorem ar.le.refl(F:ar):ar.le F F:=λ_ _ q=>q
theorem ar.le.trans{F G H:ar}(h1:ar.le F G)(h2:ar.le G H):ar.le F H:=λi b q=>h2 i b (h1 i b q)
structure jJ(F:ar)(l:List (Nat×aE))(h:aq):Prop where
 uz:∀i b,F i=some b->h.get i=some b
 has:∀p∈l,h.get p.1=some p.2
 apart:∀p∈l,F p.1=none
 nodup:(l.map (·.1)).Nodup
 wf:∀i b,h.get i=some b->i<h.next
theorem jJ.perm{F:ar}{l l':List (Nat×aE)}{h:aq}(s:jJ F l h)(hp:l.Perm l'):jJ F l' h:=
 ⟨s.uz,λp q=>s.has p (hp.mem_iff.2 q),λp q=>s.apart p (hp.mem_iff.2 q),(hp.map _).nodup_iff.1 s.nodup,s.wf⟩
theorem jJ.sub{F:ar}{l l':List (Nat×aE)}{h:aq}(s:jJ F l h)(hp:l'.Sublist l):jJ F l' h:=
 ⟨s.uz,λp q=>s.has p (hp.subset q),λp q=>s.apart p (hp.subset q),s.nodup.sublist (hp.map _),s.wf⟩
def ar.with(F:ar)(i:Nat)(b:aE):ar:=λj=>if j=i then some b else F j
section
variable {F:ar}{l:List (Nat×aE)}{h:aq}{i:Nat}{b b':aE}
theorem jJ.ne(s:jJ F ((i,b)::l) h):∀q∈l,q.1≠i:=λq hq e=>by
 have hn:=s.nodup;simp only[JN,SM] at hn;exact hn.1 (e▸Ug hq)
theorem jJ.tail(s:jJ F ((i,b)::l) h):jJ F l h:=s.sub (Tf _ _)
theorem jJ.alloc(s:jJ F l h)(b:aE):jJ F ((h.next,b)::l) (h.alloc b)/\(∀p∈l,p.1≠h.next)/\F h.next=none:=by
 have h1:∀p∈l,p.1≠h.next:=λp q e=>by have:=s.wf _ _ (s.has p q);omega
 have h2:F h.next=none:=by
  cases hf:F h.next with
  | none=>rfl
  | some c=>have:=s.wf _ _ (s.uz _ _ hf);omega
 refine⟨⟨λi c q=>?_,λp q=>?_,λp q=>?_,?_,λi c q=>?_⟩,h1,h2⟩
 ·rw[aq.dP];split
  ·rename_i e;rw[e,h2] at q;cases q
  ·exact s.uz i c q
 ·rw[aq.dP];rcases R0.1 q with rfl | q
  ·simp
  ·rw[AT (h1 p q)];exact s.has p q
 ·rcases R0.1 q with rfl | q
  ·exact h2
  ·exact s.apart p q
 ·simp only[JN,SM];refine⟨λhm=>?_,s.nodup⟩;obtain⟨p,hp,e⟩:=RI.1 hm;exact h1 p hp e
 ·rw[aq.dP] at q;show i<h.next+1
  split at q
  ·omega
  ·have:=s.wf i c q;omega
theorem jJ.put(s:jJ F ((i,b)::l) h)(b':aE):jJ F ((i,b')::l) (h.put i (some b')):=by
 have h0:F i=none:=s.apart _ (RR ..);have hi:i<h.next:=s.wf _ _ (s.has (i,b) (RR ..))
 refine⟨λj c q=>?_,λp q=>?_,λp q=>?_,s.nodup,λj c q=>?_⟩
 ·rw[aq.dy];split
  ·rename_i e;rw[e,h0] at q;cases q
  ·exact s.uz j c q
 ·rw[aq.dy];rcases R0.1 q with rfl | q
  ·simp
  ·rw[AT (s.ne p q)];exact s.tail.has p q
 ·rcases R0.1 q with rfl | q
  ·exact h0
  ·exact s.tail.apart p q
 ·rw[aq.dy] at q;show j<h.next
  split at q
  ·rename_i e;rw[e];exact hi
  ·exact s.wf j c q
theorem jJ.kill(s:jJ F ((i,b)::l) h):jJ F l (h.put i none):=by
 have h0:F i=none:=s.apart _ (RR ..);refine⟨λj c q=>?_,λp q=>?_,s.tail.apart,s.tail.nodup,λj c q=>?_⟩
 ·rw[aq.dy];split
  ·rename_i e;rw[e,h0] at q;cases q
  ·exact s.uz j c q
 ·rw[aq.dy,AT (s.ne p q)];exact s.tail.has p q
 ·rw[aq.dy] at q;show j<h.next
  split at q
  ·cases q
  ·exact s.wf j c q
end
theorem cd{α:Type}{l:List α}{p:Nat}{x:α}(h:l[p]?=some x):l.Perm (x::l.eraseIdx p):=by
 obtain⟨hl,hx⟩:=R9.1 h;have h1:l=l.take p++x::l.drop (p+1):=by
  rw[<-hx,List.getElem_cons_drop hl,S2]
 rw[List.eraseIdx_eq_take_drop_succ];refine(List.Perm.of_eq h1).trans ?_;exact T5
theorem eZ{α:Type}{l:List α}{p:Nat}{x:α}(y:α)(h:l[p]?=some x):(l.set p y).Perm (y::l.eraseIdx p):=by
 obtain⟨hl,hx⟩:=R9.1 h;have h2:(l.set p y)[p]?=some y:=by simp[hl]
 have h3:=cd h2;have h4:(l.set p y).eraseIdx p=l.eraseIdx p:=by simp[List.eraseIdx_set_eq]
 rw[h4] at h3;exact h3
theorem uG{α:Type}{l l':List (List α)}(h:l'.Sublist l):l'.flatten.Sublist l.flatten:=by
 induction h with
 | slnil=>exact Sk _
 | cons a _ ih=>simp only[S8];exact ih.trans (List.sublist_append_right _ _)
 | cons_cons a _ ih=>simp only[S8];exact ih.append_left a
def St(F:ar)(own:bh)(h:aq):Prop:=jJ F own.flatten h
section
variable {F:ar}{own aB:bh}{h:aq}{i p q:Nat}{b:aE}{B:List (Nat×aE)}
theorem St.uz(s:St F own h):∀i b,F i=some b->h.get i=some b:=jJ.uz s
theorem St.wf(s:St F own h):∀i b,h.get i=some b->i<h.next:=jJ.wf s
theorem St.perm(s:St F own h)(hp:own.Perm aB):St F aB h:=jJ.perm s (Ub hp)
theorem St.sub(s:St F own h)(hp:aB.Sublist own):St F aB h:=jJ.sub s (uG hp)
theorem St.has(s:St F own h)(hp:own[p]?=some B)(hq:(i,b)∈B):h.get i=some b:=
 jJ.has s (i,b) (UZ.2 ⟨B,Tc hp,hq⟩)
theorem St.first(s:St F own h)(hp:own[p]?=some B)(hq:B[q]?=some (i,b)):jJ F ((i,b)::(B.eraseIdx q++(own.eraseIdx p).flatten)) h:=by
 have h1:jJ F (B++(own.eraseIdx p).flatten) h:=by
  have:=jJ.perm s (Ub (cd hp));simpa using this
 exact h1.perm ((cd hq).append_right _)
theorem St.back{B':List (Nat×aE)}(hp:own[p]?=some B){l:List (Nat×aE)}(s:jJ F l h)(hl:l.Perm (B'++(own.eraseIdx p).flatten)):St F (own.set p B') h:=by
 refine jJ.perm s (hl.trans ?_);have:=Ub (eZ B' hp);simpa using this.symm
theorem St.put(s:St F own h)(hp:own[p]?=some B)(hq:B[q]?=some (i,b))(b':aE):St F (own.set p (B.set q (i,b'))) (h.put i (some b')):=
 St.back hp ((s.first hp hq).put b') ((eZ (i,b') hq).symm.append_right _)
theorem St.alloc(s:St F own h)(b:aE):St F ([(h.next,b)]::own) (h.alloc b)/\(∀p∈own.flatten,p.1≠h.next)/\F h.next=none:=jJ.alloc s b
end
end Go.Abs
/-
 The logic's rules for operations and regions.
-/
set_option linter.unusedVariables false
namespace Go.Abs
open Go
section
variable {C:Ctx}{n:Nat}
def aX(ρ:Operand->Option Value):Op->Option (List Nat)
 | .load _ a=>match ρ a with
  | some (.pointer (some a))=>some [a.block]
  | some _=>some []
  | none=>none
 | .store _ a _=>match ρ a with
  | some (.pointer (some a))=>some [a.block]
  | some _=>some []
  | none=>none
 | .slice _ a _ _ _=>match ρ a with
  | some (.pointer (some a))=>some [a.block]
  | some _=>some []
  | none=>none
 | .lookup _ m _ _=>match ρ m with
  | some (.map (some r))=>some [r]
  | some _=>some []
  | none=>none
 | .binOp _ _ x y _=>match ρ x,ρ y with
  | some x,some y=>some ((match x with | .pointer (some a)=>[a.block] | _=>[])++(match y with | .pointer (some a)=>[a.block] | _=>[]))
  | _,_=>none
 | .call c=>match c.callee with
  | .builtin .len=>match c.args.toList with
   | x::_=>match ρ x with
    | some (.map (some r))=>some [r]
    | some _=>some []
    | none=>none
   | _=>some []
  | _=>some []
 | _=>some []
theorem y7{ρ ρ':Operand->Option Value}(hρ:∀x v,ρ x=some v->ρ' x=some v){op:Op}{l:List Nat}(q:aX ρ op=some l):bE ρ' op=l:=by
 have key:∀x,ρ x=none\/∃v,ρ x=some v/\ρ' x=some v:=λx=>by
  cases h1:ρ x with
  | none=>exact .inl rfl
  | some v=>exact .inr ⟨v,rfl,hρ x v h1⟩
 cases op with
 | load t x=>
  rcases key x with h | ⟨v,h,g⟩
  ·simp[aX,h] at q
  simp only[aX,h] at q;simp only[bE,g];split at q<;>simp_all
 | store t x y=>
  rcases key x with h | ⟨v,h,g⟩
  ·simp[aX,h] at q
  simp only[aX,h] at q;simp only[bE,g];split at q<;>simp_all
 | slice t x lo hi mx=>
  rcases key x with h | ⟨v,h,g⟩
  ·simp[aX,h] at q
  simp only[aX,h] at q;simp only[bE,g];split at q<;>simp_all
 | lookup t x y ok=>
  rcases key x with h | ⟨v,h,g⟩
  ·simp[aX,h] at q
  simp only[aX,h] at q;simp only[bE,g];split at q<;>simp_all
 | binOp op t x y m=>
  rcases key x with h | ⟨v,h,g⟩
  ·simp[aX,h] at q
  rcases key y with h2 | ⟨v2,h2,g2⟩
  ·simp[aX,h,h2] at q
  simp only[aX,h,h2,IT] at q;simp only[bE,g,g2];rw[<-q];congr 1<;>(split<;>simp_all)
 | call c=>
  cases c with
  | mk callee args argTypes=>
  cases callee with
  | builtin b=>
   cases b<;>first | (cases q;rfl) | skip
   cases hx:args.toList with
   | nil=>
    simp only[aX,hx] at q;cases q;simp only[bE,hx]
   | cons x xs=>
    simp only[aX,hx] at q;simp only[bE,hx];rcases key x with h | ⟨v,h,g⟩
    ·simp[h] at q
    simp only[h] at q;simp only[g];split at q<;>simp_all
  | _=>cases q;rfl
 | _=>cases q;rfl
def ny:Op->Bool
 | .load _ _=>true
 | .store _ _ _=>true
 | .slice _ _ _ _ _=>true
 | .lookup _ _ _ _=>true
 | .binOp _ _ _ _ _=>true
 | .call c=>match c.callee with
  | .builtin .len=>true
  | _=>false
 | _=>false
theorem uE{ρ:Operand->Option Value}{op:Op}{l:List Nat}(hn:ny op=false)(q:aX ρ op=some l):l=[]:=by
 cases op with
 | call c=>
  cases c with
  | mk callee args argTypes=>
  cases callee with
  | builtin b=>cases b<;>first | (cases hn;done) | (cases q;rfl)
  | _=>cases q;rfl
 | _=>first | (cases hn;done) | (cases q;rfl)
def aF(ops:List Oper)(k:bC)(o:Oper):Option Bool:=
 match o.guard with
 | none=>some true
 | some (j,want)=>match (ops[j]?).bind (·.dst) with
  | none=>some false
  | some d=>match lk k d with
   | some (.bool b)=>some (b==want)
   | some (.tuple ⟨[]⟩)=>some false
   | _=>none
theorem eC{ops:List Oper}{k:bC}{e:Env}{o:Oper}{b:Bool}(hk:dL n e k)(q:aF ops k o=some b):rU ops e o=some b:=by
 cases hg:o.guard with
 | none=>simp only[aF,hg] at q;simp only[rU,hg];exact q
 | some jw=>
  obtain⟨j,want⟩:=jw;cases hd:(ops[j]?).bind (·.dst) with
  | none=>simp only[aF,hg,hd] at q;simp only[rU,hg,hd];exact q
  | some d=>
   simp only[aF,hg,hd] at q;simp only[rU,hg,hd];cases h:lk k d with
   | none=>simp[h] at q
   | some v=>
    rw[h] at q;rw[hk.get d v h];split at q
    ·rename_i hv;cases hv;exact q
    ·rename_i hv;cases hv;exact q
    ·cases q
class OQ where
 p:aq->Prop
instance noBend:OQ:=⟨λ_=>False⟩
structure Rec where
 F:ar
 own:bh
 F':ar
 aB:bh
 looks:List Nat
 [bend:OQ]
inductive Told:List Oper->List xH->List Rec->Prop
 | nil:Told [] [] []
 | cons {o:Oper} {os:List Oper} {h h1:aq} {r:Rec} {fl:aq->Bool} {tr:List xH} {rs:List Rec}:(ny o.op=false->r.looks=[])->(∀h2,r.bend.p h2->fl h2=true)->St r.F r.own h->St r.F' r.aB h1->ar.le r.F r.F'->Told os tr rs->
   Told (o::os) ((h,h1,r.looks,fl)::tr) (r::rs)
def WT(C:Ctx)(n:Nat)(ops rest:List Oper)(k:bC)(F:ar)(own:bh)(Q:bC->ar->bh->List Rec->Prop):Prop:=
 ∀e h,dL n e k->St F own h->∃e' h' tr k' F' aB rs,(∃m,∀N,m<=N->iQ C (call C N) ops rest e h=some (e',h',tr))/\
  dL n e' k'/\ar.le F F'/\St F' aB h'/\Told rest tr rs/\Q k' F' aB rs
variable {ops rest:List Oper}{o:Oper}{k:bC}{F:ar}{own:bh}{Q:bC->ar->bh->List Rec->Prop}
theorem WT.nil(h:Q k F own []):WT C n ops [] k F own Q:=
 λe h' hk hs=>⟨e,h',[],k,F,own,[],⟨0,λ_ _=>rfl⟩,hk,ar.le.refl F,hs,.nil,h⟩
theorem WT.step{l:List Nat}(hl:aX (aW C k) o.op=some l)
  (hop:∀e h,dL n e k->St F own h->∃v h' F' aB,(∃m,∀N,m<=N->ep C (call C N) ops o e h=some (e.put o.dst v,h'))/\ar.le F F'/\St F' aB h'/\
   WT C n ops rest (cu n k o.dst v) F' aB (λk2 F2 own2 rs=>Q k2 F2 own2 (⟨F,own,F',aB,l⟩::rs))):WT C n ops (o::rest) k F own Q:=by
 intro e h hk hs;obtain⟨v,h1,F1,own1,⟨m1,hst⟩,hF1,hs1,hw⟩:=hop e h hk hs;obtain⟨e2,h2,tr,k2,F2,own2,rs,⟨m2,hr⟩,hk2,hF2,hs2,ht,hq⟩:=hw (e.put o.dst v) h1 (hk.put o.dst v) hs1;refine⟨e2,h2,(h,h1,l,lN C (e.eval C) h o.op)::tr,k2,F2,own2,⟨F,own,F1,own1,l⟩::rs,⟨max m1 m2,λN hN=>?_⟩,hk2,hF1.trans hF2,hs2,.cons (r:=⟨F,own,F1,own1,l⟩) (λhn=>uE hn hl) (λ_ hb=>hb.elim) hs hs1 hF1 ht,hq⟩;unfold iQ;rw[hst N (by omega)];simp only[hr N (by omega),y7 hk.eval hl]
theorem WT.dX{l:List Nat}(bend:aq->Prop)(hl:aX (aW C k) o.op=some l)
  (hop:∀e h,dL n e k->St F own h->∃v,(∃m,∀N,m<=N->ep C (call C N) ops o e h=some (e.put o.dst v,h))/\(∀h2,bend h2->lN C (e.eval C) h o.op h2=true)/\
   WT C n ops rest (cu n k o.dst v) F own (λk2 F2 own2 rs=>Q k2 F2 own2 (@Rec.mk F own F own l ⟨bend⟩::rs))):WT C n ops (o::rest) k F own Q:=by
 intro e h hk hs;obtain⟨v,⟨m1,hst⟩,hb,hw⟩:=hop e h hk hs;obtain⟨e2,h2,tr,k2,F2,own2,rs,⟨m2,hr⟩,hk2,hF2,hs2,ht,hq⟩:=hw (e.put o.dst v) h (hk.put o.dst v) hs;refine⟨e2,h2,(h,h,l,lN C (e.eval C) h o.op)::tr,k2,F2,own2,@Rec.mk F own F own l ⟨bend⟩::rs,⟨max m1 m2,λN hN=>?_⟩,hk2,hF2,hs2,.cons (r:=@Rec.mk F own F own l ⟨bend⟩) (λhn=>uE hn hl) hb hs hs (ar.le.refl F) ht,hq⟩;unfold iQ;rw[hst N (by omega)];simp only[hr N (by omega),y7 hk.eval hl]
theorem WT.skip{l:List Nat}(hw:aF ops k o=some false)(hl:aX (aW C k) o.op=some l)
  (h:WT C n ops rest (cu n k o.dst dv) F own (λk2 F2 own2 rs=>Q k2 F2 own2 (⟨F,own,F,own,l⟩::rs))):WT C n ops (o::rest) k F own Q:=by
 refine WT.step hl λe h' hk hs=>⟨dv,h',F,own,⟨0,λN _=>?_⟩,ar.le.refl F,hs,h⟩;unfold ep;rw[eC hk hw]
theorem gF{e:Env}{h h':aq}{v:Value}(hk:dL n e k)(hw:aF ops k o=some true)(hop:aN C (aW C k) h o.op=some (.val v h'))(cal:u0) :
  ep C cal ops o e h=some (e.put o.dst v,h'):=by
 unfold ep;rw[eC hk hw];simp only[dU hk.eval hop]
theorem WT.still{v:Value}{l:List Nat}(hw:aF ops k o=some true)(hl:aX (aW C k) o.op=some l)
  (hop:∀h,St F own h->aN C (aW C k) h o.op=some (.val v h))
  (h:WT C n ops rest (cu n k o.dst v) F own (λk2 F2 own2 rs=>Q k2 F2 own2 (⟨F,own,F,own,l⟩::rs))):WT C n ops (o::rest) k F own Q:=
 WT.step hl λe h' hk hs=>⟨v,h',F,own,⟨0,λN _=>gF hk hw (hop h' hs) _⟩,ar.le.refl F,hs,h⟩
theorem WT.new{mk:Nat->Value}{b:aE}{l:List Nat}(hw:aF ops k o=some true)(hl:aX (aW C k) o.op=some l)
  (hop:∀h,St F own h->aN C (aW C k) h o.op=some (.val (mk h.next) (h.alloc b)))
  (h:∀i,F i=none->WT C n ops rest (cu n k o.dst (mk i)) F ([(i,b)]::own) (λk2 F2 own2 rs=>Q k2 F2 own2 (⟨F,own,F,[(i,b)]::own,l⟩::rs))):WT C n ops (o::rest) k F own Q:=
 WT.step hl λe h' hk hs=>
  let ⟨s1,s2,s3⟩:=hs.alloc b
  ⟨mk h'.next,h'.alloc b,F,[(h'.next,b)]::own,⟨0,λN _=>gF hk hw (hop h' hs) _⟩,ar.le.refl F,s1,h h'.next s3⟩
theorem WT.put{v:Value}{i:Nat}{b b':aE}{l:List Nat}(p q:Nat){B:List (Nat×aE)}(hp:own[p]?=some B)(hq:B[q]?=some (i,b))(hw:aF ops k o=some true)(hl:aX (aW C k) o.op=some l)
  (hop:∀h,St F own h->h.get i=some b->aN C (aW C k) h o.op=some (.val v (h.put i (some b'))))
  (h:WT C n ops rest (cu n k o.dst v) F (own.set p (B.set q (i,b'))) (λk2 F2 own2 rs=>Q k2 F2 own2 (⟨F,own,F,own.set p (B.set q (i,b')),l⟩::rs))):WT C n ops (o::rest) k F own Q:=
 WT.step hl λe h' hk hs=>⟨v,h'.put i (some b'),F,own.set p (B.set q (i,b')),⟨0,λN _=>gF hk hw (hop h' hs (hs.has hp (Tc hq))) _⟩,ar.le.refl F,hs.put hp hq b',h⟩
theorem WT.move{mk:Nat->Value}{i:Nat}{b b':aE}{l:List Nat}(p:Nat)(hp:own[p]?=some [(i,b)])(hw:aF ops k o=some true)(hl:aX (aW C k) o.op=some l)
  (hop:∀h,St F own h->h.get i=some b->aN C (aW C k) h o.op=some (.val (mk h.next) ((h.put i none).alloc b')))
  (h:∀j,F j=none->WT C n ops rest (cu n k o.dst (mk j)) F (own.set p [(j,b')]) (λk2 F2 own2 rs=>Q k2 F2 own2 (⟨F,own,F,own.set p [(j,b')],l⟩::rs))) :
  WT C n ops (o::rest) k F own Q:=
 WT.step hl λe h' hk hs=>
  have s0:jJ F (own.eraseIdx p).flatten (h'.put i none):=(hs.first (q:=0) hp rfl).kill
  let ⟨s1,s2,s3⟩:=s0.alloc b'
  ⟨mk h'.next,(h'.put i none).alloc b',F,own.set p [(h'.next,b')],⟨0,λN _=>gF hk hw (hop h' hs (hs.has hp (RR ..))) _⟩,ar.le.refl F,St.back hp s1 (NO _),h h'.next s3⟩
theorem WT.fill{mk:Nat->Value}{b:aE}{l:List Nat}(p:Nat)(hp:own[p]?=some [])(hw:aF ops k o=some true)(hl:aX (aW C k) o.op=some l)
  (hop:∀h,St F own h->aN C (aW C k) h o.op=some (.val (mk h.next) (h.alloc b)))
  (h:∀i,F i=none->WT C n ops rest (cu n k o.dst (mk i)) F (own.set p [(i,b)]) (λk2 F2 own2 rs=>Q k2 F2 own2 (⟨F,own,F,own.set p [(i,b)],l⟩::rs))):WT C n ops (o::rest) k F own Q:=
 WT.step hl λe h' hk hs=>
  have s0:jJ F (own.eraseIdx p).flatten h':=by
   have:=jJ.perm hs (Ub (cd hp));simpa using this
  let ⟨s1,s2,s3⟩:=s0.alloc b
  ⟨mk h'.next,h'.alloc b,F,own.set p [(h'.next,b)],⟨0,λN _=>gF hk hw (hop h' hs) _⟩,ar.le.refl F,St.back hp s1 (NO _),h h'.next s3⟩
def Spec(C:Ctx)(f:FuncId)(args:List Value)(F:ar)(oin:bh)(dn:ar->Value->bh->Prop):Prop:=
 ∀own h,St F (oin++own) h->∃v h' F' oout,O0 C f args h v h'/\ar.le F F'/\St F' (oout++own) h'/\dn F' v oout
theorem Spec.mono{f:FuncId}{args:List Value}{oin:bh}{dn Post':ar->Value->bh->Prop}(h:Spec C f args F oin dn)(hp:∀F' v oout,ar.le F F'->dn F' v oout->Post' F' v oout):Spec C f args F oin Post':=
 λown h0 hs=>let ⟨v,h',F',oout,h1,h2,h3,h4⟩:=h own h0 hs;⟨v,h',F',oout,h1,h2,h3,hp _ _ _ h2 h4⟩
theorem WT.call{f:FuncId}{args:List Value}{oin fr:bh}{dn:ar->Value->bh->Prop}{l:List Nat}(hw:aF ops k o=some true)(hl:aX (aW C k) o.op=some l)
  (hop:∀h,aN C (aW C k) h o.op=some (.call f args)) (spec:Spec C f args F oin dn) (hperm:own.Perm (oin++fr))
  (h:∀F' v oout,ar.le F F'->dn F' v oout->WT C n ops rest (cu n k o.dst v) F' (oout++fr) (λk2 F2 own2 rs=>Q k2 F2 own2 (⟨F,own,F',oout++fr,l⟩::rs))) :
  WT C n ops (o::rest) k F own Q:=
 WT.step hl λe h' hk hs=>by
  obtain⟨v,h1,F1,oout,⟨m,hd⟩,hF,hs1,hp⟩:=spec fr h' (hs.perm hperm);refine⟨v,h1,F1,oout++fr,⟨m,λN hN=>?_⟩,hF,hs1,h F1 v oout hF hp⟩;unfold ep;rw[eC hk hw];simp only[dU hk.eval (hop h'),hd N hN]
theorem WT.weaken{k2:bC}(hk:bI k2 k)(h:WT C n ops rest k2 F own Q):WT C n ops rest k F own Q:=λe h' hk' hs=>h e h' (hk'.weaken hk) hs
def mJ(masks:List Nat)(i:Nat):List Oper->Nat->List (Nat×Nat)
 | [],_=>[]
 | o::os,j=>bif cb o.op||i==j||((masks[i]?).getD 0).testBit j||((masks[j]?).getD 0).testBit i then mJ masks i os (j+1) else (i,j)::mJ masks i os (j+1)
def lB(masks:List Nat)(ops:List Oper):List Oper->Nat->List (Nat×Nat)
 | [],_=>[]
 | o::os,i=>(bif ny o.op then mJ masks i ops 0 else [])++lB masks ops os (i+1)
def C2(ops:List Oper):List (Nat×Nat):=lB (bp [] ops) ops ops 0
def Rec.keeps(r:Rec)(x:Nat):Prop:=(∃b,r.F x=some b)\/∃b,(x,b)∈r.own.flatten/\(x,b)∈r.aB.flatten
def kf:List (Nat×Nat)->List Rec->Prop
 | [],_=>True
 | (i,j)::ps,rs=>(∀a b,rs[i]?=some a->rs[j]?=some b->(∀x∈a.looks,b.keeps x)\/(i<j/\∀h2,St b.F' b.aB h2->a.bend.p h2))/\kf ps rs
theorem IW{r:Rec}{x:Nat}{h h1:aq}(s:St r.F r.own h)(s1:St r.F' r.aB h1)(hF:ar.le r.F r.F')(hk:r.keeps x):h.get x=h1.get x:=by
 rcases hk with ⟨b,hb⟩ | ⟨b,hb,hb'⟩
 ·rw[s.uz x b hb,s1.uz x b (hF x b hb)]
 ·rw[jJ.has s (x,b) hb,jJ.has s1 (x,b) hb']
theorem DI{ps:List (Nat×Nat)}{rs:List Rec}(h:kf ps rs):∀i j,(i,j)∈ps->∀a b,rs[i]?=some a->rs[j]?=some b->(∀x∈a.looks,b.keeps x)\/(i<j/\∀h2,St b.F' b.aB h2->a.bend.p h2):=by
 induction ps with
 | nil=>intro i j hm;cases hm
 | cons p ps ih=>
  obtain⟨i0,j0⟩:=p;intro i j hm;rcases R0.1 hm with e | hm
  ·cases e;exact h.1
  ·exact ih h.2 i j hm
theorem uo(masks:List Nat)(i:Nat):∀(os:List Oper) (j:Nat) (m:Nat) (o:Oper),os[m]?=some o->cb o.op=false->i≠j+m->((masks[i]?).getD 0).testBit (j+m)=false->((masks[j+m]?).getD 0).testBit i=false->
  (i,j+m)∈mJ masks i os j
 | [],j,m,o,h,_,_,_,_=>by simp at h
 | o'::os,j,0,o,h,h1,h2,h3,h4=>by
  simp at h;subst h;unfold mJ;have:(i==j)=false:=by simpa using h2
  simp only[Tq] at h3 h4 ⊢;rw[h1,this,h3,h4];simp
 | o'::os,j,m+1,o,h,h1,h2,h3,h4=>by
  have ih:=uo masks i os (j+1) m o (by simpa using h) h1 (by omega) (by rw[show j+1+m=j+(m+1) by omega];exact h3) (by rw[show j+1+m=j+(m+1) by omega];exact h4);rw[show j+1+m=j+(m+1) by omega] at ih;unfold mJ;cases (cb o'.op||i==j||((masks[i]?).getD 0).testBit j||((masks[j]?).getD 0).testBit i) with
  | true=>exact ih
  | false=>exact If _ ih
theorem pK(masks:List Nat)(ops:List Oper):∀(os:List Oper) (i m:Nat) (o:Oper) (p:Nat×Nat),os[m]?=some o->ny o.op=true->p∈mJ masks (i+m) ops 0->p∈lB masks ops os i
 | [],i,m,o,p,h,_,_=>by simp at h
 | o'::os,i,0,o,p,h,h1,h2=>by
  simp at h;subst h;unfold lB;rw[h1];exact Sw _ h2
 | o'::os,i,m+1,o,p,h,h1,h2=>by
  have ih:=pK masks ops os (i+1) m o p (by simpa using h) h1 (by rw[show i+1+m=i+(m+1) by omega];exact h2);unfold lB;exact SC _ ih
theorem Told.at{os:List Oper}{tr:List xH}{rs:List Rec}(ht:Told os tr rs):∀(i:Nat) (h h1:aq) (l:List Nat) (fl:aq->Bool),tr[i]?=some (h,h1,l,fl)->
  ∃(o:Oper) (r:Rec),os[i]?=some o/\rs[i]?=some r/\r.looks=l/\(ny o.op=false->l=[])/\(∀h2,r.bend.p h2->fl h2=true)/\St r.F r.own h/\St r.F' r.aB h1/\ar.le r.F r.F':=by
 induction ht with
 | nil=>intro i h h1 l fl q;simp at q
 | cons a a2 b c d e ih=>
  rename_i o os h0 h10 r fl0 tr rs;intro i h h1 l fl q;cases i with
  | zero=>simp at q;obtain⟨rfl,rfl,rfl,rfl⟩:=q;exact⟨o,r,rfl,rfl,rfl,a,a2,b,c,d⟩
  | succ i=>exact ih i h h1 l fl (by simpa using q)
theorem BJ{ops:List Oper}{tr:List xH}{rs:List Rec}(ht:Told ops tr rs)(hr:kf (C2 ops) rs):ez ops (bp [] ops) tr=true:=by
 have inner:∀(i:Nat) (look:List Nat) (fl:aq->Bool) (o:Oper) (r:Rec),ops[i]?=some o->rs[i]?=some r->r.looks=look->(∀h2,r.bend.p h2->fl h2=true)->ny o.op=true->
   ∀(os:List Oper) (tr':List xH) (j:Nat),(∀m o,os[m]?=some o->ops[j+m]?=some o)->(∀m t,tr'[m]?=some t->tr[j+m]?=some t)->
   ez.outer.inner (bp [] ops) fl i look (((bp [] ops)[i]?).getD 0) os tr' j=true:=by
  intro i look fl o r hi hri hl hfl hlo os
  induction os with
  | nil=>intro tr' j _ _;unfold ez.outer.inner;rfl
  | cons o2 os ih=>
   intro tr' j hos htr;cases tr' with
   | nil=>unfold ez.outer.inner;rfl
   | cons t tr'=>
    obtain⟨h,h1,l2,fl2⟩:=t;unfold ez.outer.inner;have ih':=ih tr' (j+1) (λm o q=>by rw[show j+1+m=j+(m+1) by omega];exact hos (m+1) o (by simpa using q)) (λm t q=>by rw[show j+1+m=j+(m+1) by omega];exact htr (m+1) t (by simpa using q));simp only[IN];refine⟨?_,ih'⟩;have ho2:ops[j]?=some o2:=hos 0 o2 rfl;obtain⟨o3,r2,q1,q2,q3,q4,_,q5,q6,q7⟩:=ht.at j h h1 l2 fl2 (htr 0 _ rfl);cases e1:cb o2.op with
    | true=>simp
    | false=>
    cases e2:(i==j) with
    | true=>simp
    | false=>
    cases e3:(((bp [] ops)[i]?).getD 0).testBit j with
    | true=>simp
    | false=>
    cases e4:(((bp [] ops)[j]?).getD 0).testBit i with
    | true=>simp
    | false=>
     simp only[Bool.false_or];have hne:i≠0+j:=by simp at e2;omega
     have hm:=uo (bp [] ops) i ops 0 j o2 ho2 e1 hne (by rw[RY];exact e3) (by rw[RY];exact e4);rw[RY] at hm;have hm2:=pK (bp [] ops) ops ops 0 i o (i,j) hi hlo (by rw[RY];exact hm);rcases DI hr i j hm2 r r2 hri q2 with hk | ⟨hij,hk⟩
     ·have ha:(look.all λx=>nJ (h.get x) (h1.get x))=true:=by
       rw[SI];intro x hx;rw[IW q5 q6 q7 (hk x (by rw[hl];exact hx))];exact wy _
      rw[ha,Bool.true_or]
     ·have hb:(Nat.blt i j&&fl h1)=true:=by rw[hfl h1 (hk h1 q6),UF];exact Sf hij
      rw[hb,Bool.or_true]
 have outer:∀(tr':List xH) (i:Nat),(∀m t,tr'[m]?=some t->tr[i+m]?=some t)->ez.outer ops (bp [] ops) tr tr' i=true:=by
  intro tr'
  induction tr' with
  | nil=>intro i _;unfold ez.outer;rfl
  | cons t tr' ih=>
   obtain⟨h,h1,look,fl⟩:=t;intro i htr;unfold ez.outer;rw[ih (i+1) (λm t q=>by rw[show i+1+m=i+(m+1) by omega];exact htr (m+1) t (by simpa using q)),UF];obtain⟨o,r,q1,q2,q3,q4,q5,_⟩:=ht.at i h h1 look fl (htr 0 _ rfl);cases look with
   | nil=>rfl
   | cons x l=>
    have hlo:ny o.op=true:=by
     cases hh:ny o.op with
     | true=>rfl
     | false=>exact absurd (q4 hh) (by simp)
    exact inner i (x::l) fl o r q1 q2 q3 q5 hlo ops tr 0 (λm o q=>by rw[RY];exact q) (λm t q=>by rw[RY];exact q)
 unfold ez;exact outer tr 0 (λm t q=>by rw[RY];exact q)
theorem jN{cal:u0}{ops:List Oper}:∀(rest:List Oper) (e e':Env) (h h':aq) (tr:List xH),iQ C cal ops rest e h=some (e',h',tr)->xP C cal ops rest e h=some (e',h')
 | [],e,e',h,h',tr,q=>by cases q;rfl
 | o::rest,e,e',h,h',tr,q=>by
  unfold iQ at q;unfold xP;split at q
  ·cases q
  ·rename_i e1 h1 hst;split at q
   ·cases q
   ·rename_i e2 h2 l ht;cases q;exact jN rest _ _ _ _ _ ht
def AW(C:Ctx)(n:Nat)(c:Code)(k:bC)(F:ar)(own:bh)(Q:Ex->bC->ar->bh->Prop):Prop:=
 ∀e h,dL n e k->St F own h->∃x e' h' k' F' aB,MO C c e h x e' h'/\dL n e' k'/\ar.le F F'/\St F' aB h'/\Q x k' F' aB
variable {A:Ex->bC->ar->bh->Prop}
theorem AW.region{id:Nat}{ops:Array Oper}{draw:Bool}(h:WT C n ops.toList ops.toList k F own λk' F' aB rs=>(draw=true->mf ops.toList=true/\kf (C2 ops.toList) rs)/\A .normal k' F' aB) :
  AW C n (.region id ops draw) k F own A:=by
 intro e h0 hk hs;obtain⟨e',h',tr,k',F',aB,rs,⟨m,hm⟩,hk',hF,hs',ht,hd,hq⟩:=h e h0 hk hs;refine⟨.normal,e',h',k',F',aB,⟨m+1,λN hN=>?_⟩,hk',hF,hs',hq⟩;obtain⟨N,rfl⟩:∃N',N=N'+1:=⟨N-1,by omega⟩;have hm:=hm N (by omega);show bB C (exec C N) _ e h0=_;have hr:mF C (iu C (exec C N)) ops.toList draw e h0=some (e',h'):=by
  unfold mF;cases draw with
  | true=>
   simp only[RH];have hm:iQ C (iu C (exec C N)) ops.toList ops.toList e h0=some (e',h',tr):=hm;rw[hm];simp only[(hd rfl).1,BJ ht (hd rfl).2,TJ,RH]
  | false=>exact jN _ _ _ _ _ _ hm
 simp only[bB,hr]
theorem AW.skip(h:A .normal k F own):AW C n .skip k F own A:=λe h0 hk hs=>
 ⟨.normal,e,h0,k,F,own,⟨1,λN hN=>by obtain⟨N,rfl⟩:∃N',N=N'+1:=⟨N-1,by omega⟩;rfl⟩,hk,ar.le.refl F,hs,h⟩
theorem AW.exit{id:Nat}(h:A (.exit id) k F own):AW C n (.exit id) k F own A:=λe h0 hk hs=>
 ⟨.exit id,e,h0,k,F,own,⟨1,λN hN=>by obtain⟨N,rfl⟩:∃N',N=N'+1:=⟨N-1,by omega⟩;rfl⟩,hk,ar.le.refl F,hs,h⟩
theorem AW.ret(h:A .ret k F own):AW C n .ret k F own A:=λe h0 hk hs=>
 ⟨.ret,e,h0,k,F,own,⟨1,λN hN=>by obtain⟨N,rfl⟩:∃N',N=N'+1:=⟨N-1,by omega⟩;rfl⟩,hk,ar.le.refl F,hs,h⟩
def m7(B:bC->ar->bh->Prop)(A:Ex->bC->ar->bh->Prop):Ex->bC->ar->bh->Prop
 | .normal,k,F,own=>B k F own
 | x,k,F,own=>A x k F own
theorem AW.seq{a b:Code}(h:AW C n a k F own (m7 (λk' F' aB=>AW C n b k' F' aB A) A)):AW C n (.seq a b) k F own A:=by
 intro e h0 hk hs;obtain⟨x,e1,h1,k1,F1,own1,⟨m,hm⟩,hk1,hF1,hs1,hq⟩:=h e h0 hk hs;have other:x≠.normal->A x k1 F1 own1->∃x e' h' k' F' aB,MO C (.seq a b) e h0 x e' h'/\dL n e' k'/\ar.le F F'/\St F' aB h'/\A x k' F' aB:=by
  intro hx hq;refine⟨x,e1,h1,k1,F1,own1,⟨m+1,λN hN=>?_⟩,hk1,hF1,hs1,hq⟩;obtain⟨N,rfl⟩:∃N',N=N'+1:=⟨N-1,by omega⟩;show bB C (exec C N) _ e h0=_;simp only[bB,hm N (by omega)];cases x with
  | normal=>exact absurd rfl hx
  | exit id=>rfl
  | ret=>rfl
 cases x with
 | exit id=>exact other (by simp) hq
 | ret=>exact other (by simp) hq
 | normal=>
  obtain⟨x,e2,h2,k2,F2,own2,⟨m2,hm2⟩,hk2,hF2,hs2,hq2⟩:=hq e1 h1 hk1 hs1;refine⟨x,e2,h2,k2,F2,own2,⟨max m m2+1,λN hN=>?_⟩,hk2,hF1.trans hF2,hs2,hq2⟩;obtain⟨N,rfl⟩:∃N',N=N'+1:=⟨N-1,by omega⟩;show bB C (exec C N) _ e h0=_;simp only[bB,hm N (by omega),hm2 N (by omega)]
theorem AW.cond{cc:Operand}{a b:Code}{v:Bool}(hv:aW C k cc=some (.bool v))(h1:v=true->AW C n a k F own A)(h2:v=false->AW C n b k F own A):AW C n (.cond cc a b) k F own A:=by
 intro e h0 hk hs;cases v with
 | true=>
  obtain⟨x,e1,h1,k1,F1,own1,⟨m,hm⟩,r⟩:=h1 rfl e h0 hk hs;refine⟨x,e1,h1,k1,F1,own1,⟨m+1,λN hN=>?_⟩,r⟩;obtain⟨N,rfl⟩:∃N',N=N'+1:=⟨N-1,by omega⟩;show bB C (exec C N) _ e h0=_;simp only[bB,hk.eval _ _ hv,hm N (by omega)]
 | false=>
  obtain⟨x,e1,h1,k1,F1,own1,⟨m,hm⟩,r⟩:=h2 rfl e h0 hk hs;refine⟨x,e1,h1,k1,F1,own1,⟨m+1,λN hN=>?_⟩,r⟩;obtain⟨N,rfl⟩:∃N',N=N'+1:=⟨N-1,by omega⟩;show bB C (exec C N) _ e h0=_;simp only[bB,hk.eval _ _ hv,hm N (by omega)]
def fJ(id:Nat)(A:Ex->bC->ar->bh->Prop):Ex->bC->ar->bh->Prop
 | .exit i,k,F,own=>A (bif i==id then .normal else .exit i) k F own
 | x,k,F,own=>A x k F own
theorem AW.block{id:Nat}{a:Code}(h:AW C n a k F own (fJ id A)):AW C n (.block id a) k F own A:=by
 intro e h0 hk hs;obtain⟨x,e1,h1,k1,F1,own1,⟨m,hm⟩,hk1,hF1,hs1,hq⟩:=h e h0 hk hs;cases x with
 | exit i=>
  refine⟨_,e1,h1,k1,F1,own1,⟨m+1,λN hN=>?_⟩,hk1,hF1,hs1,hq⟩;obtain⟨N,rfl⟩:∃N',N=N'+1:=⟨N-1,by omega⟩;show bB C (exec C N) _ e h0=_;simp only[bB,hm N (by omega)]
 | normal=>
  refine⟨_,e1,h1,k1,F1,own1,⟨m+1,λN hN=>?_⟩,hk1,hF1,hs1,hq⟩;obtain⟨N,rfl⟩:∃N',N=N'+1:=⟨N-1,by omega⟩;show bB C (exec C N) _ e h0=_;simp only[bB,hm N (by omega)]
 | ret=>
  refine⟨_,e1,h1,k1,F1,own1,⟨m+1,λN hN=>?_⟩,hk1,hF1,hs1,hq⟩;obtain⟨N,rfl⟩:∃N',N=N'+1:=⟨N-1,by omega⟩;show bB C (exec C N) _ e h0=_;simp only[bB,hm N (by omega)]
theorem AW.weaken{c:Code}{k2:bC}(hk:bI k2 k)(h:AW C n c k2 F own A):AW C n c k F own A:=λe h0 hk' hs=>h e h0 (hk'.weaken hk) hs
theorem AW.drop{c:Code}{own2:bh}(ho:own2.Sublist own)(h:AW C n c k F own2 A):AW C n c k F own A:=λe h0 hk' hs=>h e h0 hk' (hs.sub ho)
theorem AW.mono{c:Code}{A':Ex->bC->ar->bh->Prop}(h:AW C n c k F own A)(hA:∀x k' F' aB,ar.le F F'->A x k' F' aB->A' x k' F' aB):AW C n c k F own A':=λe h0 hk hs=>
 let ⟨x,e2,h2,k2,F2,own2,h3,h4,h5,h6,h7⟩:=h e h0 hk hs
 ⟨x,e2,h2,k2,F2,own2,h3,h4,h5,h6,hA _ _ _ _ h5 h7⟩
theorem AW.loop{ι:Type}(I:ι->bC->ar->bh->Prop)(m:ι->Nat){c:Code}
  (step:∀i k F own,I i k F own->AW C n c k F own (m7 (λk' F' aB=>∃j k2 own2,m j<m i/\bI k2 k'/\own2.Sublist aB/\I j k2 F' own2) A)) :
  ∀i k F own,I i k F own->AW C n (.loop c) k F own A:=by
 have main:∀(w:Nat) i k F own,m i<w->I i k F own->AW C n (.loop c) k F own A:=by
  intro w
  induction w with
  | zero=>intro i k F own h;omega
  | succ w ih=>
   intro i k F own hw hi e h0 hk hs;obtain⟨x,e1,h1,k1,F1,own1,⟨m1,hm1⟩,hk1,hF1,hs1,hq⟩:=step i k F own hi e h0 hk hs;have other:x≠.normal->A x k1 F1 own1->∃x e' h' k' F' aB,MO C (.loop c) e h0 x e' h'/\dL n e' k'/\ar.le F F'/\St F' aB h'/\A x k' F' aB:=by
    intro hx hq;refine⟨x,e1,h1,k1,F1,own1,⟨m1+1,λN hN=>?_⟩,hk1,hF1,hs1,hq⟩;obtain⟨N,rfl⟩:∃N',N=N'+1:=⟨N-1,by omega⟩;show bB C (exec C N) _ e h0=_;simp only[bB,hm1 N (by omega)];cases x with
    | normal=>exact absurd rfl hx
    | exit id=>rfl
    | ret=>rfl
   cases x with
   | exit id=>exact other (by simp) hq
   | ret=>exact other (by simp) hq
   | normal=>
    obtain⟨j,k2,own2,hj,hsub,hso,hI⟩:=hq;obtain⟨x,e2,h2,k2,F2,own2,⟨m2,hm2⟩,hk2,hF2,hs2,hq2⟩:=ih j k2 F1 own2 (by omega) hI e1 h1 (hk1.weaken hsub) (hs1.sub hso);refine⟨x,e2,h2,k2,F2,own2,⟨max m1 m2+1,λN hN=>?_⟩,hk2,hF1.trans hF2,hs2,hq2⟩;obtain⟨N,rfl⟩:∃N',N=N'+1:=⟨N-1,by omega⟩;show bB C (exec C N) _ e h0=_;simp only[bB,hm1 N (by omega),hm2 N (by omega)]
 exact λi k F own hi=>main (m i+1) i k F own (Td _) hi
def uF:List Value->Nat->bC
 | [],_=>[]
 | v::vs,i=>(i,v)::uF vs (i+1)
theorem y6:∀(vs:List Value) (i j:Nat) (v:Value),lk (uF vs i) j=some v->i<=j/\vs[j-i]?=some v
 | [],i,j,v,q=>by cases q
 | u::vs,i,j,v,q=>by
  simp only[uF,lk] at q;cases hb:Nat.beq i j with
  | true=>
   rw[hb] at q;have:=R8 hb;subst this;cases q;exact⟨AS _,by simp⟩
  | false=>
   rw[hb] at q;obtain⟨h1,h2⟩:=y6 vs (i+1) j v q;refine⟨by omega,?_⟩;rw[show j-i=(j-(i+1))+1 by omega,TA];exact h2
theorem dL.args(m:Nat)(vs:List Value):dL (max m vs.length) (mQ m vs) (uF vs 0):=by
 refine⟨rfl,λi v q=>?_⟩;obtain⟨_,h2⟩:=y6 vs 0 i v q;simp only[Nat.sub_zero] at h2;show (mQ.go vs 0 .e).get i=some v;rw[tz];have:i<vs.length:=(R9.1 h2).1;rw[By (by omega)];simpa using h2
def Ky(C:Ctx)(k:bC)(own:bh)(r:ResultVar)(v:Value):Prop:=
 match r with
 | .tmp t=>lk k t=some v
 | .cell a t=>∃p,lk k a=some p/\∀F h,St F own h->m5 C h t p=some v
def n7(C:Ctx)(k:bC)(own:bh):List ResultVar->List Value->Prop
 | [],vs=>vs=[]
 | r::rs,vs=>∃v us,Ky C k own r v/\n7 C k own rs us/\vs=v::us
theorem nO{e:Env}{h:aq}(hk:dL n e k)(hs:St F own h):∀(rs:List ResultVar) (vs:List Value),n7 C k own rs vs->kB C e h rs=some vs
 | [],vs,q=>by cases q;rfl
 | r::rs,vs,q=>by
  obtain⟨v,us,h1,h2,rfl⟩:=q;unfold kB;rw[nO hk hs rs us h2];have:ss C e h r=some v:=by
   cases r with
   | tmp t=>exact hk.get t v h1
   | cell a t=>
    obtain⟨p,h3,h4⟩:=h1;simp only[ss,hk.get a p h3,h4 F h hs]
  rw[this]
def Ll(C:Ctx)(fn:Func)(own:bh)(dn:ar->Value->bh->Prop):Ex->bC->ar->bh->Prop
 | .exit _,_,_,_=>False
 | _,k,F,aB=>∃vs oout,n7 C k aB fn.results.toList vs/\(oout++own).Sublist aB/\dn F (ej vs) oout
theorem Spec.of{f:FuncId}{fn:Func}{c:Code}{args:List Value}{oin:bh}{dn:ar->Value->bh->Prop}(hnf:C.fact f=none)(hf:C.func f=some fn)(hb:fn.body=some c)
  (h:∀own,AW C (max fn.ntmps args.length) c (uF args 0) F (oin++own) (Ll C fn own dn)):Spec C f args F oin dn:=by
 intro own h0 hs;obtain⟨x,e1,h1,k1,F1,own1,⟨m,hm⟩,hk1,hF1,hs1,hq⟩:=h own (mQ fn.ntmps args) h0 (dL.args _ _) hs;have fin:(∃vs oout,n7 C k1 own1 fn.results.toList vs/\(oout++own).Sublist own1/\dn F1 (ej vs) oout)->(∀id,x≠.exit id)->∃v h' F' oout,O0 C f args h0 v h'/\ar.le F F'/\St F' (oout++own) h'/\dn F' v oout:=by
  rintro⟨vs,oout,h2,h3,h4⟩ hne;refine⟨ej vs,h1,F1,oout,⟨m,λN hN=>?_⟩,hF1,hs1.sub h3,h4⟩;unfold call iu;simp only[hnf,hf,hb,hm N hN];have hrs:=nO hk1 hs1 _ _ h2;cases x with
  | exit id=>exact absurd rfl (hne id)
  | normal=>simp only[hrs]
  | ret=>simp only[hrs]
 cases x with
 | exit id=>exact False.elim hq
 | normal=>exact fin hq (by simp)
 | ret=>exact fin hq (by simp)
end
end Go.Abs
/-
 The logic's rules,in the forms that a walk uses.
-/
set_option linter.unusedVariables false
namespace Go.Abs
open Go
section
variable {C:Ctx}{n:Nat}{k:bC}{F:ar}{own:bh}{A:Ex->bC->ar->bh->Prop}{ops rest:List Oper}{o:Oper}{Q:bC->ar->bh->List Rec->Prop}
theorem AW.dp{id:Nat}{ops:Array Oper}(h:WT C n ops.toList ops.toList k F own λk' F' aB _=>A .normal k' F' aB):AW C n (.region id ops false) k F own A:=by
 refine AW.region λe h0 hk hs=>?_;obtain⟨e',h',tr,k',F',aB,rs,h1,h2,h3,h4,h5,h6⟩:=h e h0 hk hs;exact⟨e',h',tr,k',F',aB,rs,h1,h2,h3,h4,h5,⟨(by intro h;cases h),h6⟩⟩
theorem AW.draw{id:Nat}{ops:Array Oper}{ps:List (Nat×Nat)}(hd:mf ops.toList=true)(hn:C2 ops.toList=ps)
  (h:WT C n ops.toList ops.toList k F own λk' F' aB rs=>kf ps rs/\A .normal k' F' aB):AW C n (.region id ops true) k F own A:=by
 refine AW.region λe h0 hk hs=>?_;obtain⟨e',h',tr,k',F',aB,rs,h1,h2,h3,h4,h5,h6,h7⟩:=h e h0 hk hs;exact⟨e',h',tr,k',F',aB,rs,h1,h2,h3,h4,h5,λ_=>⟨hd,by rw[hn];exact h6⟩,h7⟩
theorem Spec.fact{f:FuncId}{eJ:List (Nat×aE)}(hf:C.fact f=some eJ)(ht:∀p∈eJ,F p.1=some p.2):Spec C f [] F [] λ_ v o=>o=[]/\v=.bool true:=by
 intro own h hs;refine⟨.bool true,h,F,[],⟨0,λN _=>?_⟩,ar.le.refl F,hs,rfl,rfl⟩;unfold call iu;have:eJ.all (λp=>nJ (h.get p.1) (some p.2))=true:=SI.2 λp hp=>by rw[hs.uz _ _ (ht p hp)];exact wy _
 simp only[hf,this,List.isEmpty_nil,TJ,RH]
theorem Spec.fn{f:FuncId}{fn:Func}{c:Code}{args:List Value}{oin:bh}{dn:ar->Value->bh->Prop}(hf:C.func f=some fn)(hb:fn.body=some c)(hn:max fn.ntmps args.length=n)
  (h:∀own,AW C n c (uF args 0) F (oin++own) (Ll C fn own dn)) (hnf:C.fact f=none:=by rfl):Spec C f args F oin dn:=by subst hn;exact Spec.of hnf hf hb h
theorem wrap64{x:Int}(h:-9223372036854775808<=x/\x<=9223372036854775807):IntKind.i64.wrap x=x:=by
 have hs:IntKind.i64.signed=true:=rfl;have hbits:IntKind.i64.bits=64:=rfl;simp only[IntKind.wrap,hs,hbits,Bool.true_and,Su];have:(2:Int) ^ 64=18446744073709551616:=rfl;rw[this];have:(2:Int) ^ (64-1)=9223372036854775808:=rfl;rw[this];split<;>omega
theorem WT.bin{op:BinOp}{t ty:TypeId}{xo yo:Operand}{kd:IntKind}{x y:Int}{r:Value}(hop:o.op=.binOp op t xo yo ty)(hw:aF ops k o=some true)(hx:aW C k xo=some (.int kd x))(hy:aW C k yo=some (.int kd y))
  (hr:kW C ⟨0,.e⟩ op t xo yo (.int kd x) (.int kd y)=some r) (hsh:op≠.shl/\op≠.shr)
  (h:WT C n ops rest (cu n k o.dst r) F own (λk2 F2 own2 rs=>Q k2 F2 own2 (⟨F,own,F,own,[]⟩::rs))):WT C n ops (o::rest) k F own Q:=by
 refine WT.still hw (by rw[hop];simp only[aX,hx,hy];rfl) (λh0 _=>?_) h;rw[hop];simp only[aN,hx,hy];have:kW C h0 op t xo yo (.int kd x) (.int kd y)=some r:=by
  rw[<-hr];cases op<;>first | rfl | exact absurd rfl hsh.1 | exact absurd rfl hsh.2
 rw[this];rfl
theorem WT.add{t ty:TypeId}{xo yo:Operand}{x y:Int}(hop:o.op=.binOp .add t xo yo ty)(hw:aF ops k o=some true)(hx:aW C k xo=some (.int .i64 x))(hy:aW C k yo=some (.int .i64 y))
  (hr:-9223372036854775808<=x+y/\x+y<=9223372036854775807)
  (h:WT C n ops rest (cu n k o.dst (.int .i64 (x+y))) F own (λk2 F2 own2 rs=>Q k2 F2 own2 (⟨F,own,F,own,[]⟩::rs))):WT C n ops (o::rest) k F own Q:=
 WT.bin hop hw hx hy (by show (if IntKind.i64=IntKind.i64 then some (Value.int .i64 (IntKind.i64.wrap (x+y))) else none)=_;rw[By rfl,wrap64 hr]) ⟨by simp,by simp⟩ h
theorem WT.sub{t ty:TypeId}{xo yo:Operand}{x y:Int}(hop:o.op=.binOp .sub t xo yo ty)(hw:aF ops k o=some true)(hx:aW C k xo=some (.int .i64 x))(hy:aW C k yo=some (.int .i64 y))
  (hr:-9223372036854775808<=x-y/\x-y<=9223372036854775807)
  (h:WT C n ops rest (cu n k o.dst (.int .i64 (x-y))) F own (λk2 F2 own2 rs=>Q k2 F2 own2 (⟨F,own,F,own,[]⟩::rs))):WT C n ops (o::rest) k F own Q:=
 WT.bin hop hw hx hy (by show (if IntKind.i64=IntKind.i64 then some (Value.int .i64 (IntKind.i64.wrap (x-y))) else none)=_;rw[By rfl,wrap64 hr]) ⟨by simp,by simp⟩ h
theorem WT.mul{t ty:TypeId}{xo yo:Operand}{x y:Int}(hop:o.op=.binOp .mul t xo yo ty)(hw:aF ops k o=some true)(hx:aW C k xo=some (.int .i64 x))(hy:aW C k yo=some (.int .i64 y))
  (hr:-9223372036854775808<=x*y/\x*y<=9223372036854775807)
  (h:WT C n ops rest (cu n k o.dst (.int .i64 (x*y))) F own (λk2 F2 own2 rs=>Q k2 F2 own2 (⟨F,own,F,own,[]⟩::rs))):WT C n ops (o::rest) k F own Q:=
 WT.bin hop hw hx hy (by show (if IntKind.i64=IntKind.i64 then some (Value.int .i64 (IntKind.i64.wrap (x*y))) else none)=_;rw[By rfl,wrap64 hr]) ⟨by simp,by simp⟩ h
theorem WT.rem{t ty:TypeId}{xo yo:Operand}{x y:Int}(hop:o.op=.binOp .rem t xo yo ty)(hw:aF ops k o=some true)(hx:aW C k xo=some (.int .i64 x))(hy:aW C k yo=some (.int .i64 y))
  (hr:y≠0)
  (h:WT C n ops rest (cu n k o.dst (.int .i64 (x.tmod y))) F own (λk2 F2 own2 rs=>Q k2 F2 own2 (⟨F,own,F,own,[]⟩::rs))):WT C n ops (o::rest) k F own Q:=
 WT.bin hop hw hx hy (by show (if IntKind.i64=IntKind.i64 then (if y=0 then none else some (Value.int .i64 (x.tmod y))) else none)=_;rw[By rfl,AT hr]) ⟨by simp,by simp⟩ h
theorem br{h:aq}{t:TypeId}{i off:Nat}{ro:Bool}{cs:List Value}{v:Value}(hb:h.get i=some (.cells ro cs))(hr:eX C cs t off=some v):m5 C h t (.pointer (some ⟨i,off,none⟩))=some v:=by
 simp only[m5,jS,hb,hr]
theorem WT.load{t:TypeId}{a:Operand}{i off:Nat}{v:Value}(hop:o.op=.load t a)(hw:aF ops k o=some true)(ha:aW C k a=some (.pointer (some ⟨i,off,none⟩)))
  (hr:∀h,St F own h->m5 C h t (.pointer (some ⟨i,off,none⟩))=some v)
  (h:WT C n ops rest (cu n k o.dst v) F own (λk2 F2 own2 rs=>Q k2 F2 own2 (⟨F,own,F,own,[i]⟩::rs))):WT C n ops (o::rest) k F own Q:=by
 refine WT.still hw (by rw[hop];simp only[aX,ha]) (λh0 hs=>?_) h;rw[hop];simp only[aN,ha,hr h0 hs];rfl
theorem WT.vj(p:Nat){t:TypeId}{a:Operand}{i off:Nat}{ro:Bool}{cs:List Value}{v:Value}(hop:o.op=.load t a)(hw:aF ops k o=some true)(ha:aW C k a=some (.pointer (some ⟨i,off,none⟩)))
  {B:List (Nat×aE)} (hp:own[p]?=some B) (hq:(i,aE.cells ro cs)∈B) (hr:eX C cs t off=some v)
  (h:WT C n ops rest (cu n k o.dst v) F own (λk2 F2 own2 rs=>Q k2 F2 own2 (⟨F,own,F,own,[i]⟩::rs))):WT C n ops (o::rest) k F own Q:=
 WT.load hop hw ha (λh0 hs=>br (hs.has hp hq) hr) h
theorem WT.ve{t:TypeId}{a:Operand}{i off:Nat}{ro:Bool}{cs:List Value}{v:Value}(hop:o.op=.load t a)(hw:aF ops k o=some true)(ha:aW C k a=some (.pointer (some ⟨i,off,none⟩)))
  (hp:F i=some (.cells ro cs)) (hr:eX C cs t off=some v)
  (h:WT C n ops rest (cu n k o.dst v) F own (λk2 F2 own2 rs=>Q k2 F2 own2 (⟨F,own,F,own,[i]⟩::rs))):WT C n ops (o::rest) k F own Q:=
 WT.load hop hw ha (λh0 hs=>br (hs.uz _ _ hp) hr) h
theorem WT.store(p q:Nat){B:List (Nat×aE)}{t:TypeId}{a x:Operand}{i off m:Nat}{cs:List Value}{v:Value}(hop:o.op=.store t a x)(hw:aF ops k o=some true)(ha:aW C k a=some (.pointer (some ⟨i,off,none⟩)))
  (hx:aW C k x=some v) (hp:own[p]?=some B) (hq:B[q]?=some (i,.cells false cs)) (hm:C.size t=some m) (hl:v.cells.toList.length=m) (ho:v.cells.toList.all one=true) (hle:off+m<=cs.length)
  (h:WT C n ops rest (cu n k o.dst dv) F (own.set p (B.set q (i,.cells false (bk cs off v.cells.toList)))) (λk2 F2 own2 rs=>Q k2 F2 own2 (⟨F,own,F,own.set p (B.set q (i,.cells false (bk cs off v.cells.toList))),[i]⟩::rs))) :
  WT C n ops (o::rest) k F own Q:=by
 refine WT.put p q hp hq hw (by rw[hop];simp only[aX,ha]) (λh0 hs hb=>?_) h;rw[hop];have hle':Nat.ble (off+m) cs.length=true:=Sf hle;have hl':(v.cells.toList.length==m)=true:=by simpa using hl
 simp only[aN,ha,hx,sV,hb,hm,hl',ho,hle',TJ,RH];rfl
theorem WT.alloc{t:TypeId}{z:Value}(hop:o.op=.alloc t)(hw:aF ops k o=some true)(hz:C.zero t=some z)
  (h:∀i,F i=none->WT C n ops rest (cu n k o.dst (.pointer (some ⟨i,0,none⟩))) F ([(i,.cells false z.cells.toList)]::own) (λk2 F2 own2 rs=>Q k2 F2 own2 (⟨F,own,F,[(i,.cells false z.cells.toList)]::own,[]⟩::rs))) :
  WT C n ops (o::rest) k F own Q:=by
 refine WT.new (mk:=λi=>.pointer (some ⟨i,0,none⟩)) hw (by rw[hop];rfl) (λh0 hs=>?_) h;rw[hop];simp only[aN,hz]
theorem WT.box{t:TypeId}{x:Operand}{v:Value}(hop:o.op=.box t x)(hw:aF ops k o=some true)(hx:aW C k x=some v)
  (h:∀i,F i=none->WT C n ops rest (cu n k o.dst (.pointer (some ⟨i,0,none⟩))) F ([(i,.cells false v.cells.toList)]::own) (λk2 F2 own2 rs=>Q k2 F2 own2 (⟨F,own,F,[(i,.cells false v.cells.toList)]::own,[]⟩::rs))) :
  WT C n ops (o::rest) k F own Q:=by
 refine WT.new (mk:=λi=>.pointer (some ⟨i,0,none⟩)) hw (by rw[hop];rfl) (λh0 hs=>?_) h;rw[hop];simp only[aN,hx]
end
end Go.Abs
/-
 A table of the program's types,and the operations that need no more than it.
-/
set_option linter.unusedVariables false
namespace Go.Abs
open Go
inductive Shape where
 | word
 | bool
 | int (k:IntKind)
 | string
 | slice (e:Nat)
 | struct (fs:List (Nat×Nat))
 | array (n e:Nat)
 | map (k e:Nat)
 | pointer (e:Nat)
structure Row where
 t:Nat
 d:Shape
 size:Nat
 bytes:Nat
 zero:Value
def mP(d:Shape)(u:TypeDesc):Bool:=
 match d,u with
 | .word,.struct _=>false
 | .word,.array _ _=>false
 | .word,.slice _=>false
 | .word,.interface _=>false
 | .word,.string=>false
 | .word,.map _ _=>false
 | .word,_=>true
 | .bool,.bool=>true
 | .int k,.int k'=>decide (k=k')
 | .string,.string=>true
 | .slice e,.slice e'=>Nat.beq e e'
 | .struct fs,.struct fs'=>fs==fs'.toList.map λf=>(f.offset,f.type)
 | .array n e,.array n' e'=>Nat.beq n n'&&Nat.beq e e'
 | .map k e,.map k' e'=>Nat.beq k k'&&Nat.beq e e'
 | .pointer e,.pointer e'=>Nat.beq e e'
 | _,_=>false
def Mo(C:Ctx)(r:Row):Bool:=
 (match C.size r.t with | some n=>Nat.beq n r.size | none=>false)&&(match C.bytes r.t with | some n=>Nat.beq n r.bytes | none=>false) &&
 (match C.zero r.t with | some z=>bN z r.zero | none=>false)&&(match C.gZ r.t with | some d=>mP r.d d | none=>false)
inductive RT where
 | e
 | n (l:RT) (r:Row) (g:RT)
def aS(C:Ctx):RT->Bool
 | .e=>true
 | .n l r g=>aS C l&&Mo C r&&aS C g
def rowOf:RT->Nat->Option Row
 | .e,_=>none
 | .n l r g,t=>bif Nat.beq r.t t then some r else bif Nat.blt t r.t then rowOf l t else rowOf g t
theorem dG{C:Ctx}{T:RT}(h:aS C T=true){t:Nat}{r:Row}(q:rowOf T t=some r):r.t=t/\C.size t=some r.size/\C.bytes t=some r.bytes/\C.zero t=some r.zero/\∃d,C.gZ t=some d/\mP r.d d=true:=by
 induction T with
 | e=>cases q
 | n l r0 g ihl ihg=>
  simp only[aS,IN] at h;simp only[rowOf] at q;cases hb:Nat.beq r0.t t with
  | false=>
   rw[hb] at q;simp only[RO] at q;cases hc:Nat.blt t r0.t with
   | false=>rw[hc] at q;exact ihg h.2 q
   | true=>rw[hc] at q;exact ihl h.1.1 q
  | true=>
   rw[hb] at q;cases q;have:=R8 hb;subst this;obtain⟨⟨_,h1⟩,_⟩:=h;simp only[Mo,IN] at h1;obtain⟨⟨⟨h1,h2⟩,h3⟩,h4⟩:=h1;refine⟨rfl,?_,?_,?_,?_⟩
   ·split at h1
    ·rename_i n hn;rw[hn,R8 h1]
    ·cases h1
   ·split at h2
    ·rename_i n hn;rw[hn,R8 h2]
    ·cases h2
   ·split at h3
    ·rename_i n hn;rw[hn,jo h3]
    ·cases h3
   ·split at h4
    ·rename_i d hd;exact⟨d,hd,h4⟩
    ·cases h4
def fL(T:RT)(t:Nat):Option Nat:=match rowOf T t with | some r=>some r.size | none=>none
def jv(T:RT)(t:Nat):Option Value:=match rowOf T t with | some r=>some r.zero | none=>none
def Shape.agg:Shape->Bool
 | .struct _=>true
 | .array _ _=>true
 | _=>false
theorem tK{d:Shape}{u:TypeDesc}(h:mP d u=true):ue u=d.agg:=by
 cases d<;>cases u<;>first | rfl | cases h
def takeN:Nat->List Value->Option (List Value)
 | 0,_=>some []
 | _+1,[]=>none
 | n+1,c::cs=>match takeN n cs with
  | some l=>some (c::l)
  | none=>none
def JE:Nat->List Value->Nat->Option (List Value)
 | 0,cs,n=>takeN n cs
 | _+1,[],_=>none
 | off+1,_::cs,n=>JE off cs n
theorem nw:∀(n:Nat) (cs l:List Value),takeN n cs=some l->cs.take n=l/\l.length=n
 | 0,cs,l,q=>by cases q;simp
 | n+1,[],l,q=>by cases q
 | n+1,c::cs,l,q=>by
  unfold takeN at q;split at q
  ·rename_i l2 h;cases q;obtain⟨h1,h2⟩:=nw n cs l2 h;simp[h1,h2]
  ·cases q
theorem CU:∀(off:Nat) (cs:List Value) (n:Nat) (l:List Value),JE off cs n=some l->cf cs off n=some l
 | 0,cs,n,l,q=>by
  obtain⟨h1,h2⟩:=nw n cs l q;unfold cf;simp[h1,h2]
 | off+1,[],_,_,q=>by cases q
 | off+1,c::cs,n,l,q=>by
  have:=CU off cs n l q;unfold cf at this ⊢;simpa using this
def sA(T:RT)(cs:List Value)(t:Nat)(off:Nat):Option Value:=
 match rowOf T t with
 | some r=>bif r.d.agg then (match JE off cs r.size with | some l=>some (.agg ⟨l⟩) | none=>none) else cs[off]?
 | none=>none
section
variable {C:Ctx}{T:RT}(hT:aS C T=true)
include hT
theorem cq{t m:Nat}(q:fL T t=some m):C.size t=some m:=by
 unfold fL at q;split at q
 ·rename_i r hr;cases q;exact(dG hT hr).2.1
 ·cases q
theorem du{t:Nat}{z:Value}(q:jv T t=some z):C.zero t=some z:=by
 unfold jv at q;split at q
 ·rename_i r hr;cases q;exact(dG hT hr).2.2.2.1
 ·cases q
theorem bO{cs:List Value}{t off:Nat}{v:Value}(q:sA T cs t off=some v):eX C cs t off=some v:=by
 unfold sA at q;split at q
 ·rename_i r hr;obtain⟨_,h1,_,_,d,h4,h5⟩:=dG hT hr;unfold eX;rw[h4];simp only[tK h5,h1];cases hd:r.d.agg with
  | true=>
   rw[hd] at q;simp only[RH] at q ⊢;split at q
   ·rename_i l hl;rw[CU _ _ _ _ hl];exact q
   ·cases q
  | false=>rw[hd] at q;exact q
 ·cases q
theorem bK{t e:Nat}{r:Row}(q:rowOf T t=some r)(hd:r.d=.slice e):C.gZ t=some (.slice e):=by
 obtain⟨_,_,_,_,d,h4,h5⟩:=dG hT q;rw[hd] at h5;cases d<;>first | (cases h5;done) | skip
 rw[h4,R8 h5]
theorem iY{t:Nat}{r:Row}{fs:List (Nat×Nat)}(q:rowOf T t=some r)(hd:r.d=.struct fs):∃fs',C.gZ t=some (.struct fs')/\fs=fs'.toList.map λf=>(f.offset,f.type):=by
 obtain⟨_,_,_,_,d,h4,h5⟩:=dG hT q;rw[hd] at h5;cases d<;>first | (cases h5;done) | skip
 exact⟨_,h4,by simpa [mP] using h5⟩
theorem sX{t m e:Nat}{r:Row}(q:rowOf T t=some r)(hd:r.d=.array m e):C.gZ t=some (.array m e):=by
 obtain⟨_,_,_,_,d,h4,h5⟩:=dG hT q;rw[hd] at h5;cases d<;>first | (cases h5;done) | skip
 simp only[mP,IN] at h5;rw[h4,R8 h5.1,R8 h5.2]
theorem Ba{t:Nat}{kd:IntKind}{r:Row}(q:rowOf T t=some r)(hd:r.d=.int kd):C.gZ t=some (.int kd):=by
 obtain⟨_,_,_,_,d,h4,h5⟩:=dG hT q;rw[hd] at h5;cases d<;>first | (cases h5;done) | skip
 rw[h4];simp[mP] at h5;rw[h5]
end
def qz(T:RT)(t:Nat)(x:Value)(f:Nat):Option Value:=
 match rowOf T t with
 | some r=>match r.d,x with
  | .struct fs,.pointer (some ⟨b,off,none⟩)=>match fs[f]? with
   | some (fo,ft)=>match fL T ft with
    | some m=>bif m==0 then none else some (.pointer (some ⟨b,off+fo,none⟩))
    | none=>none
   | none=>none
  | _,_=>none
 | none=>none
def Eh(T:RT)(t:Nat)(x:Value)(f:Nat):Option Value:=
 match rowOf T t with
 | some r=>match r.d,x with
  | .struct fs,.agg ⟨cs⟩=>match fs[f]? with
   | some (fo,ft)=>sA T cs ft fo
   | none=>none
  | _,_=>none
 | none=>none
def vp(T:RT):List (Nat×Nat)->Option (List (Nat×Nat))
 | []=>some []
 | (fo,ft)::fs=>match fL T ft,vp T fs with
  | some n,some r=>some ((fo,n)::r)
  | _,_=>none
def Fb:List Value->List Value->Option (List Value)
 | [],cs=>some cs
 | _::_,[]=>none
 | v::vs,_::cs=>match Fb vs cs with
  | some l=>some (v::l)
  | none=>none
def rG:Nat->List Value->List Value->Option (List Value)
 | 0,cs,vs=>Fb vs cs
 | _+1,[],_=>none
 | off+1,c::cs,vs=>match rG off cs vs with
  | some l=>some (c::l)
  | none=>none
theorem CW:∀(vs cs l:List Value),Fb vs cs=some l->vs++cs.drop vs.length=l/\vs.length<=cs.length
 | [],cs,l,q=>by cases q;simp
 | _::_,[],l,q=>by cases q
 | v::vs,c::cs,l,q=>by
  unfold Fb at q;split at q
  ·rename_i l2 h;cases q;obtain⟨h1,h2⟩:=CW vs cs l2 h;simp[h1,h2]
  ·cases q
theorem qB:∀(off:Nat) (cs vs l:List Value),rG off cs vs=some l->bk cs off vs=l/\off+vs.length<=cs.length
 | 0,cs,vs,l,q=>by
  obtain⟨h1,h2⟩:=CW vs cs l q;unfold bk;simp[h1,h2]
 | off+1,[],vs,l,q=>by cases q
 | off+1,c::cs,vs,l,q=>by
  unfold rG at q;split at q
  ·rename_i l2 h;cases q;obtain⟨h1,h2⟩:=qB off cs vs l2 h;unfold bk at h1 ⊢;constructor
   ·rw[<-h1];simp[Nat.add_right_comm]
   ·simp;omega
  ·cases q
def yA(place:Nat->Option (Nat×Nat)):List Value->List (Nat×Value)->Option (List Value)
 | cs,[]=>some cs
 | cs,(i,v)::rest=>
  match place i with
  | none=>none
  | some (off,size)=>bif Nat.beq v.cells.toList.length size then (match rG off cs v.cells.toList with
   | some cs=>yA place cs rest
   | none=>none) else none
theorem qI{place:Nat->Option (Nat×Nat)}:∀(ps:List (Nat×Value)) (cs l:List Value),yA place cs ps=some l->lp place cs ps=some l
 | [],cs,l,q=>q
 | (i,v)::rest,cs,l,q=>by
  unfold yA at q;unfold lp;split at q
  ·cases q
  ·rename_i off size hp;cases hb:Nat.beq v.cells.toList.length size with
   | false=>rw[hb] at q;cases q
   | true=>
    rw[hb] at q;simp only[RH] at q;split at q
    ·rename_i cs2 h;obtain⟨h1,h2⟩:=qB _ _ _ _ h;have h3:=R8 hb;simp only[hp];have e1:(v.cells.toList.length==size)=true:=by simpa using h3
     have e2:Nat.ble (off+size) cs.length=true:=Sf (by rw[<-h3];exact h2);rw[e1,e2];simp only[TJ,RH,h1];exact qI rest cs2 l q
    ·cases q
def be(T:RT)(t:Nat)(parts:List (Nat×Value)):Option Value:=
 match rowOf T t with
 | some r=>match r.d with
  | .struct fs=>match vp T fs with
   | some ps=>match yA (λi=>ps[i]?) r.zero.cells.toList parts with
    | some cs=>some (.agg ⟨cs⟩)
    | none=>none
   | none=>none
  | .array _ e=>match fL T e with
   | some n=>match yA (λi=>some (i*n,n)) r.zero.cells.toList parts with
    | some cs=>some (.agg ⟨cs⟩)
    | none=>none
   | none=>none
  | _=>none
 | none=>none
def MM(T:RT)(t:Nat)(x:Value):Option Value:=
 match rowOf T t with
 | some r=>match r.d,x with
  | .slice _,.slice _ n _=>some (.int .i64 n)
  | .array n _,_=>some (.int .i64 n)
  | _,_=>none
 | none=>none
section
variable {C:Ctx}{T:RT}(hT:aS C T=true)
include hT
theorem ye{t:Nat}{x:Value}{f:Nat}{v:Value}(q:qz T t x f=some v):j7 C t x f=some v:=by
 unfold qz at q;split at q
 ·rename_i r hr;split at q
  ·rename_i fs b off hd;obtain⟨fs',hu,hfs⟩:=iY hT hr hd;split at q
   ·rename_i fo ft hf;split at q
    ·rename_i m hm;rw[hfs,RM] at hf;cases hg:fs'.toList[f]? with
     | none=>simp[hg] at hf
     | some fd=>
      simp[hg] at hf;obtain⟨rfl,rfl⟩:=hf;unfold j7;simp only[hu,hg,cq hT hm];exact q
    ·cases q
   ·cases q
  ·cases q
 ·cases q
theorem Gd{t:Nat}{x:Value}{f:Nat}{v:Value}(q:Eh T t x f=some v):vL C t x f=some v:=by
 unfold Eh at q;split at q
 ·rename_i r hr;split at q
  ·rename_i fs cs hd;obtain⟨fs',hu,hfs⟩:=iY hT hr hd;split at q
   ·rename_i fo ft hf;rw[hfs,RM] at hf;cases hg:fs'.toList[f]? with
    | none=>simp[hg] at hf
    | some fd=>
     simp[hg] at hf;obtain⟨rfl,rfl⟩:=hf;unfold vL;simp only[hu,hg];exact bO hT q
   ·cases q
  ·cases q
 ·cases q
theorem wS:∀(fs:List Field) (ps:List (Nat×Nat)),vp T (fs.map λf=>(f.offset,f.type))=some ps->places C fs=some ps
 | [],ps,q=>q
 | f::fs,ps,q=>by
  simp only[JN,vp] at q;split at q
  ·rename_i m r h1 h2;cases q;unfold places;rw[cq hT h1,wS fs r h2]
  ·cases q
theorem Hj{t:Nat}{parts:List (Nat×Value)}{v:Value}(q:be T t parts=some v):sP C t parts=some v:=by
 unfold be at q;split at q
 ·rename_i r hr;have hz:=(dG hT hr).2.2.2.1;split at q
  ·rename_i fs hd;obtain⟨fs',hu,hfs⟩:=iY hT hr hd;split at q
   ·rename_i ps hps;rw[hfs] at hps;have:=wS hT _ _ hps;unfold sP;simp only[hz,hu,this];split at q
    ·rename_i cs hcs;rw[qI _ _ _ hcs];exact q
    ·cases q
   ·cases q
  ·rename_i m e hd;have hu:=sX hT hr hd;split at q
   ·rename_i n hn;unfold sP;simp only[hz,hu,cq hT hn];split at q
    ·rename_i cs hcs;rw[qI _ _ _ hcs];exact q
    ·cases q
   ·cases q
  ·cases q
 ·cases q
theorem Ld{t:Nat}{x v:Value}(q:MM T t x=some v)(h:aq):DP C h t x=some v:=by
 unfold MM at q;split at q
 ·rename_i r hr;split at q
  ·rename_i e a n c hd;unfold DP;rw[bK hT hr hd];exact q
  ·rename_i m e x hd;unfold DP;rw[sX hT hr hd];exact q
  ·cases q
 ·cases q
end
def Fj(T:RT)(ρ:Operand->Option Value)(op:Op):Option Value:=
 match op with
 | .move x=>ρ x
 | .assign x=>ρ x
 | .pick c a b=>match ρ c with
  | some (.bool true)=>ρ a
  | some (.bool false)=>ρ b
  | _=>none
 | .build t ps=>match eN ρ ps.toList with
  | some ps=>be T t ps
  | none=>none
 | .nilCheck x=>match ρ x with
  | some (.pointer (some a))=>some (.pointer (some a))
  | some (.func (.func f) xs ys)=>some (.func (.func f) xs ys)
  | _=>none
 | .unOp op _ x=>match ρ x with
  | some a=>Pm op a
  | none=>none
 | .makeFunc fn xs ys=>match dI ρ xs.toList,dI ρ ys.toList with
  | some a,some b=>some (.func fn ⟨a⟩ ⟨b⟩)
  | _,_=>none
 | .fieldAddr t x f=>match ρ x with
  | some x=>qz T t x f
  | none=>none
 | .field t x f=>match ρ x with
  | some x=>Eh T t x f
  | none=>none
 | .extract x i=>match ρ x with
  | some (.tuple vs)=>vs.toList[i]?
  | _=>none
 | .call c=>match c.callee with
  | .builtin .len=>match dI ρ c.args.toList,c.argTypes.toList with
   | some [x],t::_=>MM T t x
   | _,_=>none
  | _=>none
 | .binOp op _ x y _=>match op,ρ x,ρ y with
  | .eql,some (.int k a),some (.int k' b)=>if k=k' then some (.bool (a==b)) else none
  | .neq,some (.int k a),some (.int k' b)=>if k=k' then some (.bool (a != b)) else none
  | .lss,some (.int k a),some (.int k' b)=>if k=k' then some (.bool (decide (a<b))) else none
  | .leq,some (.int k a),some (.int k' b)=>if k=k' then some (.bool (decide (a<=b))) else none
  | .gtr,some (.int k a),some (.int k' b)=>if k=k' then some (.bool (decide (a > b))) else none
  | .geq,some (.int k a),some (.int k' b)=>if k=k' then some (.bool (decide (a≥b))) else none
  | _,_,_=>none
 | _=>none
theorem Nl{C:Ctx}{T:RT}(hT:aS C T=true){ρ:Operand->Option Value}{op:Op}{v:Value}(q:Fj T ρ op=some v)(h:aq):aN C ρ h op=some (.val v h):=by
 cases op with
 | move x=>simp only[Fj] at q;simp only[aN,q];rfl
 | assign x=>simp only[Fj] at q;simp only[aN,q];rfl
 | pick c a b=>
  simp only[Fj] at q;simp only[aN];split at q
  ·rename_i hc;simp only[hc,q];rfl
  ·rename_i hc;simp only[hc,q];rfl
  ·cases q
 | build t ps=>
  simp only[Fj] at q;simp only[aN];split at q
  ·rename_i hc;simp only[hc,Hj hT q];rfl
  ·cases q
 | nilCheck x=>
  simp only[Fj] at q;simp only[aN];split at q
  ·rename_i hc;cases q;simp only[hc];rfl
  ·rename_i hc;cases q;simp only[hc];rfl
  ·cases q
 | unOp op t x=>
  simp only[Fj] at q;simp only[aN];split at q
  ·rename_i hc;simp only[hc,q];rfl
  ·cases q
 | makeFunc fn xs ys=>
  simp only[Fj] at q;simp only[aN];split at q
  ·rename_i h1 h2;cases q;simp only[h1,h2];rfl
  ·cases q
 | fieldAddr t x f=>
  simp only[Fj] at q;simp only[aN];split at q
  ·rename_i hc;simp only[hc,ye hT q];rfl
  ·cases q
 | field t x f=>
  simp only[Fj] at q;simp only[aN];split at q
  ·rename_i hc;simp only[hc,Gd hT q];rfl
  ·cases q
 | extract x i=>
  simp only[Fj] at q;simp only[aN];split at q
  ·rename_i hc;simp only[hc,q];rfl
  ·cases q
 | call c=>
  cases c with
  | mk callee args argTypes=>
  cases callee with
  | builtin b=>
   cases b<;>first | (cases q;done) | skip
   simp only[Fj] at q;split at q
   ·rename_i x t ts h1 h2;simp only[aN,h1,bR,h2,Ld hT q h];rfl
   ·cases q
  | _=>cases q
 | binOp op t x y m=>
  simp only[Fj] at q;simp only[aN];split at q
  all_goals first
   | (rename_i h1 h2
      split at q
      · rename_i hk;subst hk;cases q
        simp only[h1,h2,kW,dj,SU];rfl
      · cases q)
   | (cases q;done)
 | _=>cases q
def uV:List (Nat×aE)->Nat->Nat×aE->Option (List (Nat×aE))
 | [],_,_=>none
 | _::B,0,x=>some (x::B)
 | b::B,q+1,x=>match uV B q x with
  | some B=>some (b::B)
  | none=>none
def ng:bh->Nat->List (Nat×aE)->Option bh
 | [],_,_=>none
 | _::own,0,x=>some (x::own)
 | B::own,p+1,x=>match ng own p x with
  | some own=>some (B::own)
  | none=>none
theorem py:∀(B:List (Nat×aE)) (q:Nat) (x:Nat×aE) (B':List (Nat×aE)),uV B q x=some B'->B.set q x=B'
 | [],_,_,_,h=>by cases h
 | _::B,0,x,B',h=>by cases h;rfl
 | b::B,q+1,x,B',h=>by
  unfold uV at h;split at h
  ·rename_i B2 h2;cases h;simp[py B q x B2 h2]
  ·cases h
theorem eu:∀(own:bh) (p:Nat) (x:List (Nat×aE)) (aB:bh),ng own p x=some aB->own.set p x=aB
 | [],_,_,_,h=>by cases h
 | _::B,0,x,B',h=>by cases h;rfl
 | b::B,q+1,x,B',h=>by
  unfold ng at h;split at h
  ·rename_i B2 h2;cases h;simp[eu B q x B2 h2]
  ·cases h
section
variable {C:Ctx}{T:RT}{n:Nat}{k:bC}{F:ar}{own:bh}{ops rest:List Oper}{o:Oper}{Q:bC->ar->bh->List Rec->Prop}
theorem aA{d:Nat}{v:Value}(hn:Nat.blt d n=true):cu n k (some d) v=(d,v)::k:=by simp only[cu,hn,RH]
theorem WT.JQ(hT:aS C T=true){d:Nat}{v:Value}{l:List Nat}(hw:aF ops k o=some true)(hop:Fj T (aW C k) o.op=some v)(hd:o.dst=some d)(hn:Nat.blt d n=true)(hl:aX (aW C k) o.op=some l)
  (h:WT C n ops rest ((d,v)::k) F own (λk2 F2 own2 rs=>Q k2 F2 own2 (⟨F,own,F,own,l⟩::rs))):WT C n ops (o::rest) k F own Q:=
 WT.still hw hl (λh0 _=>Nl hT hop h0) (by rw[hd,aA hn];exact h)
theorem WT.loadT(hT:aS C T=true)(p:Nat){d:Nat}{t:TypeId}{a:Operand}{i off:Nat}{ro:Bool}{cs:List Value}{v:Value}(hop:o.op=.load t a)(hw:aF ops k o=some true)(hd:o.dst=some d)(hn:Nat.blt d n=true)(ha:aW C k a=some (.pointer (some ⟨i,off,none⟩)))
  {B:List (Nat×aE)} (hp:own[p]?=some B) (hq:(i,aE.cells ro cs)∈B) (hr:sA T cs t off=some v)
  (h:WT C n ops rest ((d,v)::k) F own (λk2 F2 own2 rs=>Q k2 F2 own2 (⟨F,own,F,own,[i]⟩::rs))):WT C n ops (o::rest) k F own Q:=
 WT.vj p hop hw ha hp hq (bO hT hr) (by rw[hd,aA hn];exact h)
theorem WT.storeT(hT:aS C T=true)(p q:Nat){B B':List (Nat×aE)}{aB:bh}{t:TypeId}{a x:Operand}{i off m:Nat}{cs cs':List Value}{v:Value}(hop:o.op=.store t a x)(hw:aF ops k o=some true)(hd:o.dst=none)(ha:aW C k a=some (.pointer (some ⟨i,off,none⟩)))
  (hx:aW C k x=some v) (hp:own[p]?=some B) (hq:B[q]?=some (i,.cells false cs)) (hm:fL T t=some m) (hl:(Nat.beq v.cells.toList.length m&&v.cells.toList.all one)=true) (hcs:rG off cs v.cells.toList=some cs')
  (hB:uV B q (i,.cells false cs')=some B') (ho:ng own p B'=some aB)
  (h:WT C n ops rest k F aB (λk2 F2 own2 rs=>Q k2 F2 own2 (⟨F,own,F,aB,[i]⟩::rs))) :
  WT C n ops (o::rest) k F own Q:=by
 simp only[IN] at hl;obtain⟨rfl,hle⟩:=qB _ _ _ _ hcs;have e1:=py _ _ _ _ hB;have e2:=eu _ _ _ _ ho;subst e1;subst e2;have hlen:=R8 hl.1;exact WT.store p q hop hw ha hx hp hq (cq hT hm) hlen hl.2 (by rw[<-hlen];exact hle) (by rw[hd];exact h)
theorem WT.aK(hT:aS C T=true){d:Nat}{t:TypeId}{z:Value}(hop:o.op=.alloc t)(hw:aF ops k o=some true)(hd:o.dst=some d)(hn:Nat.blt d n=true)(hz:jv T t=some z)
  {zs:List Value} (hzs:takeN z.cells.toList.length z.cells.toList=some zs)
  (h:∀i,F i=none->WT C n ops rest ((d,.pointer (some ⟨i,0,none⟩))::k) F ([(i,.cells false zs)]::own) (λk2 F2 own2 rs=>Q k2 F2 own2 (⟨F,own,F,[(i,.cells false zs)]::own,[]⟩::rs))) :
  WT C n ops (o::rest) k F own Q:=by
 have:=(nw _ _ _ hzs).1;rw[T6] at this;subst this;exact WT.alloc hop hw (du hT hz) (λi hi=>by rw[hd,aA hn];exact h i hi)
theorem WT.cy{d:Nat}{t:TypeId}{x:Operand}{v:Value}{vs:List Value}(hop:o.op=.box t x)(hw:aF ops k o=some true)(hd:o.dst=some d)(hn:Nat.blt d n=true)(hx:aW C k x=some v)(hv:takeN v.cells.toList.length v.cells.toList=some vs)
  (h:∀i,F i=none->WT C n ops rest ((d,.pointer (some ⟨i,0,none⟩))::k) F ([(i,.cells false vs)]::own) (λk2 F2 own2 rs=>Q k2 F2 own2 (⟨F,own,F,[(i,.cells false vs)]::own,[]⟩::rs))) :
  WT C n ops (o::rest) k F own Q:=by
 have:=(nw _ _ _ hv).1;rw[T6] at this;subst this;exact WT.box hop hw hx (λi hi=>by rw[hd,aA hn];exact h i hi)
theorem WT.M5{d:Nat}{t ty:TypeId}{xo yo:Operand}{x y:Int}(hop:o.op=.binOp .add t xo yo ty)(hw:aF ops k o=some true)(hd:o.dst=some d)(hn:Nat.blt d n=true)(hx:aW C k xo=some (.int .i64 x))(hy:aW C k yo=some (.int .i64 y))
  (hr:-9223372036854775808<=x+y/\x+y<=9223372036854775807)
  (h:WT C n ops rest ((d,.int .i64 (x+y))::k) F own (λk2 F2 own2 rs=>Q k2 F2 own2 (⟨F,own,F,own,[]⟩::rs))):WT C n ops (o::rest) k F own Q:=
 WT.add hop hw hx hy hr (by rw[hd,aA hn];exact h)
theorem WT.Jb{d:Nat}{t ty:TypeId}{xo yo:Operand}{x y:Int}(hop:o.op=.binOp .sub t xo yo ty)(hw:aF ops k o=some true)(hd:o.dst=some d)(hn:Nat.blt d n=true)(hx:aW C k xo=some (.int .i64 x))(hy:aW C k yo=some (.int .i64 y))
  (hr:-9223372036854775808<=x-y/\x-y<=9223372036854775807)
  (h:WT C n ops rest ((d,.int .i64 (x-y))::k) F own (λk2 F2 own2 rs=>Q k2 F2 own2 (⟨F,own,F,own,[]⟩::rs))):WT C n ops (o::rest) k F own Q:=
 WT.sub hop hw hx hy hr (by rw[hd,aA hn];exact h)
end
end Go.Abs