/-
  A logic over the abstract machine: what is known, what is owned, rules for operations and code.
-/
import Derived.Test.YtmbdmfjijofmmaaGreatDoorAbs5
/-
 A logic over the abstract machine: what is known of the slots,which blocks are frozen,which blocks are one's own.
-/
namespace Go.Abs
open Go
def Ou(C:Ctx)(f:FuncId)(args:List Value)(h:aq)(v:Value)(h':aq):Prop:=∃m,∀n,m<=n->call C n f args h=some (v,h')
def Ml(C:Ctx)(c:Code)(e:Env)(h:aq)(x:Ex)(e':Env)(h':aq):Prop:=∃m,∀n,m<=n->exec C n c e h=some (x,e',h')
abbrev bu:=List (Nat×Value)
def lk:bu->Nat->Option Value
 | [],_=>none
 | (i,v)::k,j=>bif Nat.beq i j then some v else lk k j
structure dE(n:Nat)(e:Env)(k:bu):Prop where
 n:e.n=n
 get:∀i v,lk k i=some v->e.get i=some v
def aU(C:Ctx)(k:bu):Operand->Option Value
 | .tmp i=>lk k i
 | .const v=>bif plain v then some v else none
 | .global g=>bif Nat.blt g C.cG then some (.pointer (some ⟨g,0,none⟩)) else none
 | .func f=>some (.func (.func f) #[] #[])
theorem dE.eval{C:Ctx}{n:Nat}{e:Env}{k:bu}(h:dE n e k):∀x v,aU C k x=some v->e.eval C x=some v
 | .tmp i,v,q=>h.get i v q
 | .const _,_,q=>q
 | .global _,_,q=>q
 | .func _,_,q=>q
def ck(n:Nat)(k:bu)(d:Option Tmp)(v:Value):bu:=
 match d with
 | none=>k
 | some d=>bif Nat.blt d n then (d,v)::k else k
theorem dE.put{n:Nat}{e:Env}{k:bu}(h:dE n e k)(d:Option Tmp)(v:Value):dE n (e.put d v) (ck n k d v):=by
 cases d with
 | none=>exact h
 | some d=>
  simp only[Env.put,ck,h.n];cases hb:Nat.blt d n with
  | false=>exact h
  | true=>
   simp only[OF];refine⟨rfl,λi u q=>?_⟩;simp only[lk] at q;show T.get (T.set e.t d (some v)) i=some u;rw[T.kI];by_cases hi:i=d
   ·subst hi;have:Nat.beq i i=true:=Ta i;rw[this] at q;simpa using q
   ·rw[By hi];have:Nat.beq d i=false:=by
     cases hh:Nat.beq d i with
     | false=>rfl
     | true=>exact absurd (RF hh).symm hi
    rw[this] at q;exact h.get i u q
def bD(k2 k:bu):Prop:=∀i v,lk k2 i=some v->lk k i=some v
theorem bD.nil(k:bu):bD [] k:=λ_ _ q=>by cases q
theorem bD.cons{i:Nat}{v:Value}{k2 k:bu}(h1:lk k i=some v)(h2:bD k2 k):bD ((i,v)::k2) k:=by
 intro j u q;simp only[lk] at q;cases hb:Nat.beq i j with
 | true=>
  rw[hb] at q;have:=RF hb;subst this;cases q;exact h1
 | false=>rw[hb] at q;exact h2 j u q
theorem dE.weaken{n:Nat}{e:Env}{k k2:bu}(h:dE n e k)(hs:bD k2 k):dE n e k2:=⟨h.n,λi v q=>h.get i v (hs i v q)⟩
theorem xD{ρ ρ':Operand->Option Value}(hρ:∀x v,ρ x=some v->ρ' x=some v):∀(xs:List Operand) (vs:List Value),dx ρ xs=some vs->dx ρ' xs=some vs
 | [],vs,q=>q
 | x::xs,vs,q=>by
  unfold dx at q ⊢;cases h1:ρ x with
  | none=>simp[h1] at q
  | some v=>
   cases h2:dx ρ xs with
   | none=>simp[h1,h2] at q
   | some us=>
    rw[hρ x v h1,xD hρ xs us h2];simpa [h1,h2] using q
theorem tV{ρ ρ':Operand->Option Value}(hρ:∀x v,ρ x=some v->ρ' x=some v):∀(xs:List (Nat×Operand)) (vs:List (Nat×Value)),ez ρ xs=some vs->ez ρ' xs=some vs
 | [],vs,q=>q
 | (i,x)::xs,vs,q=>by
  unfold ez at q ⊢;cases h1:ρ x with
  | none=>simp[h1] at q
  | some v=>
   cases h2:ez ρ xs with
   | none=>simp[h1,h2] at q
   | some us=>
    rw[hρ x v h1,tV hρ xs us h2];simpa [h1,h2] using q
theorem Fa{ρ ρ':Operand->Option Value}(hρ:∀x v,ρ x=some v->ρ' x=some v):∀(x:Option Operand) (r:Option Value),lD ρ x=some r->lD ρ' x=some r
 | none,r,q=>q
 | some x,r,q=>by
  simp only[lD] at q ⊢;cases h1:ρ x with
  | none=>simp[h1] at q
  | some v=>rw[hρ x v h1];simpa [h1] using q
theorem ef{C:Ctx}{ρ ρ':Operand->Option Value}(hρ:∀x v,ρ x=some v->ρ' x=some v){h:aq}{op:Op}{r:yb}(q:aN C ρ h op=some r):aN C ρ' h op=some r:=by
 have key:∀x,ρ x=none\/∃v,ρ x=some v/\ρ' x=some v:=λx=>by
  cases h1:ρ x with
  | none=>exact .inl rfl
  | some v=>exact .inr ⟨v,rfl,hρ x v h1⟩
 have kopt:∀x,lD ρ x=none\/∃v,lD ρ x=some v/\lD ρ' x=some v:=λx=>by
  cases h1:lD ρ x with
  | none=>exact .inl rfl
  | some v=>exact .inr ⟨v,rfl,Fa hρ x v h1⟩
 have kvals:∀x:List Operand,dx ρ x=none\/∃v,dx ρ x=some v/\dx ρ' x=some v:=λx=>by
  cases h1:dx ρ x with
  | none=>exact .inl rfl
  | some v=>exact .inr ⟨v,rfl,xD hρ x v h1⟩
 have kparts:∀x:List (Nat×Operand),ez ρ x=none\/∃v,ez ρ x=some v/\ez ρ' x=some v:=λx=>by
  cases h1:ez ρ x with
  | none=>exact .inl rfl
  | some v=>exact .inr ⟨v,rfl,tV hρ x v h1⟩
 cases op with
 | makeMap t hint=>exact(by cases hint<;>exact q)
 | alloc e=>exact q
 | call c=>
  cases c with
  | mk callee args argTypes=>
  cases callee with
  | builtin b=>
   rcases kvals args.toList with h0 | ⟨v0,h0,g0⟩
   ·simp[aN,h0] at q
   simp only[aN,h0] at q;simp only[aN,g0];exact q
  | value f=>
   rcases key f with h1 | ⟨v1,h1,g1⟩
   ·simp[aN,h1] at q
   rcases kvals args.toList with h0 | ⟨v0,h0,g0⟩
   ·simp[aN,h0,h1] at q
   simp only[aN,h0,h1] at q;simp only[aN,g0,g1];exact q
  | invoke f m=>
   rcases key f with h1 | ⟨v1,h1,g1⟩
   ·simp[aN,h1] at q
   rcases kvals args.toList with h0 | ⟨v0,h0,g0⟩
   ·simp[aN,h0,h1] at q
   simp only[aN,h0,h1] at q;simp only[aN,g0,g1];exact q
 | pick c x y=>
  rcases key c with h0 | ⟨v0,h0,g0⟩
  ·simp[aN,h0] at q
  simp only[aN,h0] at q;simp only[aN,g0];split at q
  ·rcases key x with h1 | ⟨v1,h1,g1⟩
   ·simp[h1] at q
   ·rw[h1] at q;rw[g1];exact q
  ·rcases key y with h1 | ⟨v1,h1,g1⟩
   ·simp[h1] at q
   ·rw[h1] at q;rw[g1];exact q
  ·cases q
 | move x=>
  rcases key x with h0 | ⟨v0,h0,g0⟩
  ·simp[aN,h0] at q
  simp only[aN,h0] at q;simp only[aN,g0];exact q
 | assign x=>
  rcases key x with h0 | ⟨v0,h0,g0⟩
  ·simp[aN,h0] at q
  simp only[aN,h0] at q;simp only[aN,g0];exact q
 | box t x=>
  rcases key x with h0 | ⟨v0,h0,g0⟩
  ·simp[aN,h0] at q
  simp only[aN,h0] at q;simp only[aN,g0];exact q
 | build t ps=>
  rcases kparts ps.toList with h0 | ⟨v0,h0,g0⟩
  ·simp[aN,h0] at q
  simp only[aN,h0] at q;simp only[aN,g0];exact q
 | buildSlice t n ps=>
  rcases kparts ps.toList with h0 | ⟨v0,h0,g0⟩
  ·simp[aN,h0] at q
  simp only[aN,h0] at q;simp only[aN,g0];exact q
 | load t x=>
  rcases key x with h0 | ⟨v0,h0,g0⟩
  ·simp[aN,h0] at q
  simp only[aN,h0] at q;simp only[aN,g0];exact q
 | store t x y=>
  rcases key x with h0 | ⟨v0,h0,g0⟩
  ·simp[aN,h0] at q
  rcases key y with h1 | ⟨v1,h1,g1⟩
  ·simp[aN,h0,h1] at q
  simp only[aN,h0,h1] at q;simp only[aN,g0,g1];exact q
 | nilCheck x=>
  rcases key x with h0 | ⟨v0,h0,g0⟩
  ·simp[aN,h0] at q
  simp only[aN,h0] at q;simp only[aN,g0];exact q
 | binOp op t x y m=>
  rcases key x with h0 | ⟨v0,h0,g0⟩
  ·simp[aN,h0] at q
  rcases key y with h1 | ⟨v1,h1,g1⟩
  ·simp[aN,h0,h1] at q
  simp only[aN,h0,h1] at q;simp only[aN,g0,g1];exact q
 | unOp op t x=>
  rcases key x with h0 | ⟨v0,h0,g0⟩
  ·simp[aN,h0] at q
  simp only[aN,h0] at q;simp only[aN,g0];exact q
 | convert s d x=>
  rcases key x with h0 | ⟨v0,h0,g0⟩
  ·simp[aN,h0] at q
  simp only[aN,h0] at q;simp only[aN,g0];exact q
 | makeInterface t x=>
  rcases key x with h0 | ⟨v0,h0,g0⟩
  ·simp[aN,h0] at q
  simp only[aN,h0] at q;simp only[aN,g0];exact q
 | makeFunc f xs ys=>
  rcases kvals xs.toList with h0 | ⟨v0,h0,g0⟩
  ·simp[aN,h0] at q
  rcases kvals ys.toList with h1 | ⟨v1,h1,g1⟩
  ·simp[aN,h0,h1] at q
  simp only[aN,h0,h1] at q;simp only[aN,g0,g1];exact q
 | makeSlice t x y=>
  rcases key x with h0 | ⟨v0,h0,g0⟩
  ·simp[aN,h0] at q
  rcases key y with h1 | ⟨v1,h1,g1⟩
  ·simp[aN,h0,h1] at q
  simp only[aN,h0,h1] at q;simp only[aN,g0,g1];exact q
 | slice t x lo hi mx=>
  rcases key x with h0 | ⟨v0,h0,g0⟩
  ·simp[aN,h0] at q
  rcases kopt lo with h1 | ⟨v1,h1,g1⟩
  ·simp[aN,h0,h1] at q
  rcases kopt hi with h2 | ⟨v2,h2,g2⟩
  ·simp[aN,h0,h1,h2] at q
  rcases kopt mx with h3 | ⟨v3,h3,g3⟩
  ·simp[aN,h0,h1,h2,h3] at q
  simp only[aN,h0,h1,h2,h3] at q;simp only[aN,g0,g1,g2,g3];exact q
 | fieldAddr t x f=>
  rcases key x with h0 | ⟨v0,h0,g0⟩
  ·simp[aN,h0] at q
  simp only[aN,h0] at q;simp only[aN,g0];exact q
 | field t x f=>
  rcases key x with h0 | ⟨v0,h0,g0⟩
  ·simp[aN,h0] at q
  simp only[aN,h0] at q;simp only[aN,g0];exact q
 | indexAddr t x i=>
  rcases key x with h0 | ⟨v0,h0,g0⟩
  ·simp[aN,h0] at q
  rcases key i with h1 | ⟨v1,h1,g1⟩
  ·simp[aN,h0,h1] at q
  simp only[aN,h0,h1] at q;simp only[aN,g0,g1];exact q
 | index t x i=>
  rcases key x with h0 | ⟨v0,h0,g0⟩
  ·simp[aN,h0] at q
  rcases key i with h1 | ⟨v1,h1,g1⟩
  ·simp[aN,h0,h1] at q
  simp only[aN,h0,h1] at q;simp only[aN,g0,g1];exact q
 | lookup t x i ok=>
  rcases key x with h0 | ⟨v0,h0,g0⟩
  ·simp[aN,h0] at q
  rcases key i with h1 | ⟨v1,h1,g1⟩
  ·simp[aN,h0,h1] at q
  simp only[aN,h0,h1] at q;simp only[aN,g0,g1];exact q
 | mapUpdate t x y z=>
  rcases key x with h0 | ⟨v0,h0,g0⟩
  ·simp[aN,h0] at q
  rcases key y with h1 | ⟨v1,h1,g1⟩
  ·simp[aN,h0,h1] at q
  rcases key z with h2 | ⟨v2,h2,g2⟩
  ·simp[aN,h0,h1,h2] at q
  simp only[aN,h0,h1,h2] at q;simp only[aN,g0,g1,g2];exact q
 | mapEntry t x y=>
  rcases key x with h0 | ⟨v0,h0,g0⟩
  ·simp[aN,h0] at q
  rcases key y with h1 | ⟨v1,h1,g1⟩
  ·simp[aN,h0,h1] at q
  simp only[aN,h0,h1] at q;simp only[aN,g0,g1];exact q
 | entryStore t x y z=>
  rcases key x with h0 | ⟨v0,h0,g0⟩
  ·simp[aN,h0] at q
  rcases key y with h1 | ⟨v1,h1,g1⟩
  ·simp[aN,h0,h1] at q
  rcases key z with h2 | ⟨v2,h2,g2⟩
  ·simp[aN,h0,h1,h2] at q
  simp only[aN,h0,h1,h2] at q;simp only[aN,g0,g1,g2];exact q
 | insert t x y z=>
  rcases key x with h0 | ⟨v0,h0,g0⟩
  ·simp[aN,h0] at q
  rcases key y with h1 | ⟨v1,h1,g1⟩
  ·simp[aN,h0,h1] at q
  rcases key z with h2 | ⟨v2,h2,g2⟩
  ·simp[aN,h0,h1,h2] at q
  simp only[aN,h0,h1,h2] at q;simp only[aN,g0,g1,g2];exact q
 | typeAssert x xt t b=>
  rcases key x with h0 | ⟨v0,h0,g0⟩
  ·simp[aN,h0] at q
  simp only[aN,h0] at q;simp only[aN,g0];exact q
 | extract x i=>
  rcases key x with h0 | ⟨v0,h0,g0⟩
  ·simp[aN,h0] at q
  simp only[aN,h0] at q;simp only[aN,g0];exact q
 | _=>exact q
mutual
theorem fw:∀(a:Value),bI a a=true
 | .bool a=>by simp[bI]
 | .int k a=>by simp[bI]
 | .float k a=>by simp[bI]
 | .complex k a c=>by simp[bI]
 | .string a=>by simp[bI]
 | .pointer a=>by simp[bI]
 | .slice a n c=>by simp[bI]
 | .map a=>by simp[bI]
 | .chan a=>by simp[bI]
 | .func f ⟨xs⟩ ⟨ys⟩=>by simp[bI,gJ xs,gJ ys]
 | .nilFunc=>rfl
 | .iface t v=>by simp[bI,fw v]
 | .nilIface=>rfl
 | .agg ⟨xs⟩=>by simp only[bI];exact gJ xs
 | .tuple ⟨xs⟩=>by simp only[bI];exact gJ xs
theorem gJ:∀(a:List Value),jv a a=true
 | []=>rfl
 | x::xs=>by simp only[jv,fw x,gJ xs];rfl
end
theorem tJ:∀(a:List (Value×Value)),m7 a a=true
 | []=>rfl
 | (x,y)::xs=>by simp only[m7,fw x,fw y,tJ xs];rfl
theorem Df:∀(a:Option aD),pn a a=true
 | none=>rfl
 | some (.cells r xs)=>by simp only[pn,gJ xs];simp
 | some (.map xs)=>by simp only[pn,tJ xs]
abbrev ar:=Nat->Option aD
abbrev a6:=List (List (Nat×aD))
def ar.le(F G:ar):Prop:=∀i b,F i=some b->G i=some b
theorem ar.le.refl(F:ar):ar.le F F:=λ_ _ q=>q
theorem ar.le.trans{F G H:ar}(h1:ar.le F G)(h2:ar.le G H):ar.le F H:=λi b q=>h2 i b (h1 i b q)
structure jA(F:ar)(l:List (Nat×aD))(h:aq):Prop where
 xQ:∀i b,F i=some b->h.get i=some b
 has:∀p∈l,h.get p.1=some p.2
 apart:∀p∈l,F p.1=none
 nodup:(l.map (·.1)).Nodup
 wf:∀i b,h.get i=some b->i<h.next
theorem jA.perm{F:ar}{l l':List (Nat×aD)}{h:aq}(s:jA F l h)(hp:l.Perm l'):jA F l' h:=
 ⟨s.xQ,λp q=>s.has p (hp.mem_iff.2 q),λp q=>s.apart p (hp.mem_iff.2 q),(hp.map _).nodup_iff.1 s.nodup,s.wf⟩
theorem jA.sub{F:ar}{l l':List (Nat×aD)}{h:aq}(s:jA F l h)(hp:l'.Sublist l):jA F l' h:=
 ⟨s.xQ,λp q=>s.has p (hp.subset q),λp q=>s.apart p (hp.subset q),s.nodup.sublist (hp.map _),s.wf⟩
def ar.with(F:ar)(i:Nat)(b:aD):ar:=λj=>if j=i then some b else F j
section
variable {F:ar}{l:List (Nat×aD)}{h:aq}{i:Nat}{b b':aD}
theorem jA.ne(s:jA F ((i,b)::l) h):∀q∈l,q.1≠i:=λq hq e=>by
 have hn:=s.nodup;simp only[Na,Sh] at hn;exact hn.1 (e▸TX hq)
theorem jA.tail(s:jA F ((i,b)::l) h):jA F l h:=s.sub (SF _ _)
theorem jA.alloc(s:jA F l h)(b:aD):jA F ((h.next,b)::l) (h.alloc b)/\(∀p∈l,p.1≠h.next)/\F h.next=none:=by
 have h1:∀p∈l,p.1≠h.next:=λp q e=>by have:=s.wf _ _ (s.has p q);omega
 have h2:F h.next=none:=by
  cases hf:F h.next with
  | none=>rfl
  | some c=>have:=s.wf _ _ (s.xQ _ _ hf);omega
 refine⟨⟨λi c q=>?_,λp q=>?_,λp q=>?_,?_,λi c q=>?_⟩,h1,h2⟩
 ·rw[aq.dI];split
  ·rename_i e;rw[e,h2] at q;cases q
  ·exact s.xQ i c q
 ·rw[aq.dI];rcases Rt.1 q with rfl | q
  ·simp
  ·rw[By (h1 p q)];exact s.has p q
 ·rcases Rt.1 q with rfl | q
  ·exact h2
  ·exact s.apart p q
 ·simp only[Na,Sh];refine⟨λhm=>?_,s.nodup⟩;obtain⟨p,hp,e⟩:=Rg.1 hm;exact h1 p hp e
 ·rw[aq.dI] at q;show i<h.next+1
  split at q
  ·omega
  ·have:=s.wf i c q;omega
theorem jA.put(s:jA F ((i,b)::l) h)(b':aD):jA F ((i,b')::l) (h.put i (some b')):=by
 have h0:F i=none:=s.apart _ (Rl ..);have hi:i<h.next:=s.wf _ _ (s.has (i,b) (Rl ..))
 refine⟨λj c q=>?_,λp q=>?_,λp q=>?_,s.nodup,λj c q=>?_⟩
 ·rw[aq.dt];split
  ·rename_i e;rw[e,h0] at q;cases q
  ·exact s.xQ j c q
 ·rw[aq.dt];rcases Rt.1 q with rfl | q
  ·simp
  ·rw[By (s.ne p q)];exact s.tail.has p q
 ·rcases Rt.1 q with rfl | q
  ·exact h0
  ·exact s.tail.apart p q
 ·rw[aq.dt] at q;show j<h.next
  split at q
  ·rename_i e;rw[e];exact hi
  ·exact s.wf j c q
theorem jA.kill(s:jA F ((i,b)::l) h):jA F l (h.put i none):=by
 have h0:F i=none:=s.apart _ (Rl ..);refine⟨λj c q=>?_,λp q=>?_,s.tail.apart,s.tail.nodup,λj c q=>?_⟩
 ·rw[aq.dt];split
  ·rename_i e;rw[e,h0] at q;cases q
  ·exact s.xQ j c q
 ·rw[aq.dt,By (s.ne p q)];exact s.tail.has p q
 ·rw[aq.dt] at q;show j<h.next
  split at q
  ·cases q
  ·exact s.wf j c q
end
theorem bX{α:Type}{l:List α}{p:Nat}{x:α}(h:l[p]?=some x):l.Perm (x::l.eraseIdx p):=by
 obtain⟨hl,hx⟩:=RH.1 h;have h1:l=l.take p++x::l.drop (p+1):=by
  rw[<-hx,List.getElem_cons_drop hl,Si]
 rw[List.eraseIdx_eq_take_drop_succ];refine(Ss h1).trans ?_;exact S0
theorem gr{α:Type}{l:List α}{p:Nat}{x:α}(y:α)(h:l[p]?=some x):(l.set p y).Perm (y::l.eraseIdx p):=by
 obtain⟨hl,hx⟩:=RH.1 h;have h2:(l.set p y)[p]?=some y:=by simp[hl]
 have h3:=bX h2;have h4:(l.set p y).eraseIdx p=l.eraseIdx p:=by simp[List.eraseIdx_set_eq]
 rw[h4] at h3;exact h3
theorem tU{α:Type}{l l':List (List α)}(h:l'.Sublist l):l'.flatten.Sublist l.flatten:=by
 induction h with
 | slnil=>exact RM _
 | cons a _ ih=>simp only[SC];exact ih.trans (List.sublist_append_right _ _)
 | cons_cons a _ ih=>simp only[SC];exact ih.append_left a
def St(F:ar)(own:a6)(h:aq):Prop:=jA F own.flatten h
section
variable {F:ar}{own az:a6}{h:aq}{i p q:Nat}{b:aD}{B:List (Nat×aD)}
theorem St.xQ(s:St F own h):∀i b,F i=some b->h.get i=some b:=jA.xQ s
theorem St.wf(s:St F own h):∀i b,h.get i=some b->i<h.next:=jA.wf s
theorem St.perm(s:St F own h)(hp:own.Perm az):St F az h:=jA.perm s (TS hp)
theorem St.sub(s:St F own h)(hp:az.Sublist own):St F az h:=jA.sub s (tU hp)
theorem St.has(s:St F own h)(hp:own[p]?=some B)(hq:(i,b)∈B):h.get i=some b:=
 jA.has s (i,b) (Up.2 ⟨B,SI hp,hq⟩)
theorem St.first(s:St F own h)(hp:own[p]?=some B)(hq:B[q]?=some (i,b)):jA F ((i,b)::(B.eraseIdx q++(own.eraseIdx p).flatten)) h:=by
 have h1:jA F (B++(own.eraseIdx p).flatten) h:=by
  have:=jA.perm s (TS (bX hp));simpa using this
 exact h1.perm ((bX hq).append_right _)
theorem St.back{B':List (Nat×aD)}(hp:own[p]?=some B){l:List (Nat×aD)}(s:jA F l h)(hl:l.Perm (B'++(own.eraseIdx p).flatten)):St F (own.set p B') h:=by
 refine jA.perm s (hl.trans ?_);have:=TS (gr B' hp);simpa using this.symm
theorem St.put(s:St F own h)(hp:own[p]?=some B)(hq:B[q]?=some (i,b))(b':aD):St F (own.set p (B.set q (i,b'))) (h.put i (some b')):=
 St.back hp ((s.first hp hq).put b') ((gr (i,b') hq).symm.append_right _)
theorem St.alloc(s:St F own h)(b:aD):St F ([(h.next,b)]::own) (h.alloc b)/\(∀p∈own.flatten,p.1≠h.next)/\F h.next=none:=jA.alloc s b
end
end Go.Abs
/-
 The logic's rules for operations and regions.
-/
set_option linter.unusedVariables false
namespace Go.Abs
open Go
section
variable {C:Ctx}{n:Nat}
def aY(ρ:Operand->Option Value):Op->Option (List Nat)
 | .load _ a=>match ρ a with
  | some (.pointer (some a))=>some [a.block]
  | some _=>some []
  | none=>none
 | .store _ a _=>match ρ a with
  | some (.pointer (some a))=>some [a.block]
  | some _=>some []
  | none=>none
 | .slice _ a _ _ _=>match ρ a with
  | some (.pointer (some a))=>some [a.block]
  | some _=>some []
  | none=>none
 | .lookup _ m _ _=>match ρ m with
  | some (.map (some r))=>some [r]
  | some _=>some []
  | none=>none
 | .binOp _ _ x y _=>match ρ x,ρ y with
  | some x,some y=>some ((match x with | .pointer (some a)=>[a.block] | _=>[])++(match y with | .pointer (some a)=>[a.block] | _=>[]))
  | _,_=>none
 | .call c=>match c.callee with
  | .builtin .len=>match c.args.toList with
   | x::_=>match ρ x with
    | some (.map (some r))=>some [r]
    | some _=>some []
    | none=>none
   | _=>some []
  | _=>some []
 | _=>some []
theorem yl{ρ ρ':Operand->Option Value}(hρ:∀x v,ρ x=some v->ρ' x=some v){op:Op}{l:List Nat}(q:aY ρ op=some l):bA ρ' op=l:=by
 have key:∀x,ρ x=none\/∃v,ρ x=some v/\ρ' x=some v:=λx=>by
  cases h1:ρ x with
  | none=>exact .inl rfl
  | some v=>exact .inr ⟨v,rfl,hρ x v h1⟩
 cases op with
 | load t x=>
  rcases key x with h | ⟨v,h,g⟩
  ·simp[aY,h] at q
  simp only[aY,h] at q;simp only[bA,g];split at q<;>simp_all
 | store t x y=>
  rcases key x with h | ⟨v,h,g⟩
  ·simp[aY,h] at q
  simp only[aY,h] at q;simp only[bA,g];split at q<;>simp_all
 | slice t x lo hi mx=>
  rcases key x with h | ⟨v,h,g⟩
  ·simp[aY,h] at q
  simp only[aY,h] at q;simp only[bA,g];split at q<;>simp_all
 | lookup t x y ok=>
  rcases key x with h | ⟨v,h,g⟩
  ·simp[aY,h] at q
  simp only[aY,h] at q;simp only[bA,g];split at q<;>simp_all
 | binOp op t x y m=>
  rcases key x with h | ⟨v,h,g⟩
  ·simp[aY,h] at q
  rcases key y with h2 | ⟨v2,h2,g2⟩
  ·simp[aY,h,h2] at q
  simp only[aY,h,h2,IT] at q;simp only[bA,g,g2];rw[<-q];congr 1<;>(split<;>simp_all)
 | call c=>
  cases c with
  | mk callee args argTypes=>
  cases callee with
  | builtin b=>
   cases b<;>first | (cases q;rfl) | skip
   cases hx:args.toList with
   | nil=>
    simp only[aY,hx] at q;cases q;simp only[bA,hx]
   | cons x xs=>
    simp only[aY,hx] at q;simp only[bA,hx];rcases key x with h | ⟨v,h,g⟩
    ·simp[h] at q
    simp only[h] at q;simp only[g];split at q<;>simp_all
  | _=>cases q;rfl
 | _=>cases q;rfl
def nm:Op->Bool
 | .load _ _=>true
 | .store _ _ _=>true
 | .slice _ _ _ _ _=>true
 | .lookup _ _ _ _=>true
 | .binOp _ _ _ _ _=>true
 | .call c=>match c.callee with
  | .builtin .len=>true
  | _=>false
 | _=>false
theorem tQ{ρ:Operand->Option Value}{op:Op}{l:List Nat}(hn:nm op=false)(q:aY ρ op=some l):l=[]:=by
 cases op with
 | call c=>
  cases c with
  | mk callee args argTypes=>
  cases callee with
  | builtin b=>cases b<;>first | (cases hn;done) | (cases q;rfl)
  | _=>cases q;rfl
 | _=>first | (cases hn;done) | (cases q;rfl)
def aE(ops:List Oper)(k:bu)(o:Oper):Option Bool:=
 match o.guard with
 | none=>some true
 | some (j,want)=>match (ops[j]?).bind (·.dst) with
  | none=>some false
  | some d=>match lk k d with
   | some (.bool b)=>some (b==want)
   | some (.tuple ⟨[]⟩)=>some false
   | _=>none
theorem eN{ops:List Oper}{k:bu}{e:Env}{o:Oper}{b:Bool}(hk:dE n e k)(q:aE ops k o=some b):ru ops e o=some b:=by
 cases hg:o.guard with
 | none=>simp only[aE,hg] at q;simp only[ru,hg];exact q
 | some jw=>
  obtain⟨j,want⟩:=jw;cases hd:(ops[j]?).bind (·.dst) with
  | none=>simp only[aE,hg,hd] at q;simp only[ru,hg,hd];exact q
  | some d=>
   simp only[aE,hg,hd] at q;simp only[ru,hg,hd];cases h:lk k d with
   | none=>simp[h] at q
   | some v=>
    rw[h] at q;rw[hk.get d v h];split at q
    ·rename_i hv;cases hv;exact q
    ·rename_i hv;cases hv;exact q
    ·cases q
class Od where
 p:aq->Prop
instance noBend:Od:=⟨λ_=>False⟩
structure Rec where
 F:ar
 own:a6
 F':ar
 az:a6
 looks:List Nat
 [bend:Od]
inductive Told:List Oper->List wN->List Rec->Prop
 | nil:Told [] [] []
 | cons {o:Oper} {os:List Oper} {h h1:aq} {r:Rec} {fl:aq->Bool} {tr:List wN} {rs:List Rec}:(nm o.op=false->r.looks=[])->(∀h2,r.bend.p h2->fl h2=true)->St r.F r.own h->St r.F' r.az h1->ar.le r.F r.F'->Told os tr rs->
   Told (o::os) ((h,h1,r.looks,fl)::tr) (r::rs)
def WT(C:Ctx)(n:Nat)(ops rest:List Oper)(k:bu)(F:ar)(own:a6)(Q:bu->ar->a6->List Rec->Prop):Prop:=
 ∀e h,dE n e k->St F own h->∃e' h' tr k' F' az rs,(∃m,∀N,m<=N->iG C (call C N) ops rest e h=some (e',h',tr))/\
  dE n e' k'/\ar.le F F'/\St F' az h'/\Told rest tr rs/\Q k' F' az rs
variable {ops rest:List Oper}{o:Oper}{k:bu}{F:ar}{own:a6}{Q:bu->ar->a6->List Rec->Prop}
theorem WT.nil(h:Q k F own []):WT C n ops [] k F own Q:=
 λe h' hk hs=>⟨e,h',[],k,F,own,[],⟨0,λ_ _=>rfl⟩,hk,ar.le.refl F,hs,.nil,h⟩
theorem WT.step{l:List Nat}(hl:aY (aU C k) o.op=some l)
  (hop:∀e h,dE n e k->St F own h->∃v h' F' az,(∃m,∀N,m<=N->ek C (call C N) ops o e h=some (e.put o.dst v,h'))/\ar.le F F'/\St F' az h'/\
   WT C n ops rest (ck n k o.dst v) F' az (λk2 F2 own2 rs=>Q k2 F2 own2 (⟨F,own,F',az,l⟩::rs))):WT C n ops (o::rest) k F own Q:=by
 intro e h hk hs;obtain⟨v,h1,F1,own1,⟨m1,hst⟩,hF1,hs1,hw⟩:=hop e h hk hs;obtain⟨e2,h2,tr,k2,F2,own2,rs,⟨m2,hr⟩,hk2,hF2,hs2,ht,hq⟩:=hw (e.put o.dst v) h1 (hk.put o.dst v) hs1;refine⟨e2,h2,(h,h1,l,lJ C (e.eval C) h o.op)::tr,k2,F2,own2,⟨F,own,F1,own1,l⟩::rs,⟨max m1 m2,λN hN=>?_⟩,hk2,hF1.trans hF2,hs2,.cons (r:=⟨F,own,F1,own1,l⟩) (λhn=>tQ hn hl) (λ_ hb=>hb.elim) hs hs1 hF1 ht,hq⟩;unfold iG;rw[hst N (by omega)];simp only[hr N (by omega),yl hk.eval hl]
theorem WT.po{l:List Nat}(bend:aq->Prop)(hl:aY (aU C k) o.op=some l)
  (hop:∀e h,dE n e k->St F own h->∃v,(∃m,∀N,m<=N->ek C (call C N) ops o e h=some (e.put o.dst v,h))/\(∀h2,bend h2->lJ C (e.eval C) h o.op h2=true)/\
   WT C n ops rest (ck n k o.dst v) F own (λk2 F2 own2 rs=>Q k2 F2 own2 (@Rec.mk F own F own l ⟨bend⟩::rs))):WT C n ops (o::rest) k F own Q:=by
 intro e h hk hs;obtain⟨v,⟨m1,hst⟩,hb,hw⟩:=hop e h hk hs;obtain⟨e2,h2,tr,k2,F2,own2,rs,⟨m2,hr⟩,hk2,hF2,hs2,ht,hq⟩:=hw (e.put o.dst v) h (hk.put o.dst v) hs;refine⟨e2,h2,(h,h,l,lJ C (e.eval C) h o.op)::tr,k2,F2,own2,@Rec.mk F own F own l ⟨bend⟩::rs,⟨max m1 m2,λN hN=>?_⟩,hk2,hF2,hs2,.cons (r:=@Rec.mk F own F own l ⟨bend⟩) (λhn=>tQ hn hl) hb hs hs (ar.le.refl F) ht,hq⟩;unfold iG;rw[hst N (by omega)];simp only[hr N (by omega),yl hk.eval hl]
theorem WT.skip{l:List Nat}(hw:aE ops k o=some false)(hl:aY (aU C k) o.op=some l)
  (h:WT C n ops rest (ck n k o.dst dq) F own (λk2 F2 own2 rs=>Q k2 F2 own2 (⟨F,own,F,own,l⟩::rs))):WT C n ops (o::rest) k F own Q:=by
 refine WT.step hl λe h' hk hs=>⟨dq,h',F,own,⟨0,λN _=>?_⟩,ar.le.refl F,hs,h⟩;unfold ek;rw[eN hk hw]
theorem gp{e:Env}{h h':aq}{v:Value}(hk:dE n e k)(hw:aE ops k o=some true)(hop:aN C (aU C k) h o.op=some (.val v h'))(cal:uy) :
  ek C cal ops o e h=some (e.put o.dst v,h'):=by
 unfold ek;rw[eN hk hw];simp only[ef hk.eval hop]
theorem WT.still{v:Value}{l:List Nat}(hw:aE ops k o=some true)(hl:aY (aU C k) o.op=some l)
  (hop:∀h,St F own h->aN C (aU C k) h o.op=some (.val v h))
  (h:WT C n ops rest (ck n k o.dst v) F own (λk2 F2 own2 rs=>Q k2 F2 own2 (⟨F,own,F,own,l⟩::rs))):WT C n ops (o::rest) k F own Q:=
 WT.step hl λe h' hk hs=>⟨v,h',F,own,⟨0,λN _=>gp hk hw (hop h' hs) _⟩,ar.le.refl F,hs,h⟩
theorem WT.new{mk:Nat->Value}{b:aD}{l:List Nat}(hw:aE ops k o=some true)(hl:aY (aU C k) o.op=some l)
  (hop:∀h,St F own h->aN C (aU C k) h o.op=some (.val (mk h.next) (h.alloc b)))
  (h:∀i,F i=none->WT C n ops rest (ck n k o.dst (mk i)) F ([(i,b)]::own) (λk2 F2 own2 rs=>Q k2 F2 own2 (⟨F,own,F,[(i,b)]::own,l⟩::rs))):WT C n ops (o::rest) k F own Q:=
 WT.step hl λe h' hk hs=>
  let ⟨s1,s2,s3⟩:=hs.alloc b
  ⟨mk h'.next,h'.alloc b,F,[(h'.next,b)]::own,⟨0,λN _=>gp hk hw (hop h' hs) _⟩,ar.le.refl F,s1,h h'.next s3⟩
theorem WT.put{v:Value}{i:Nat}{b b':aD}{l:List Nat}(p q:Nat){B:List (Nat×aD)}(hp:own[p]?=some B)(hq:B[q]?=some (i,b))(hw:aE ops k o=some true)(hl:aY (aU C k) o.op=some l)
  (hop:∀h,St F own h->h.get i=some b->aN C (aU C k) h o.op=some (.val v (h.put i (some b'))))
  (h:WT C n ops rest (ck n k o.dst v) F (own.set p (B.set q (i,b'))) (λk2 F2 own2 rs=>Q k2 F2 own2 (⟨F,own,F,own.set p (B.set q (i,b')),l⟩::rs))):WT C n ops (o::rest) k F own Q:=
 WT.step hl λe h' hk hs=>⟨v,h'.put i (some b'),F,own.set p (B.set q (i,b')),⟨0,λN _=>gp hk hw (hop h' hs (hs.has hp (SI hq))) _⟩,ar.le.refl F,hs.put hp hq b',h⟩
theorem WT.move{mk:Nat->Value}{i:Nat}{b b':aD}{l:List Nat}(p:Nat)(hp:own[p]?=some [(i,b)])(hw:aE ops k o=some true)(hl:aY (aU C k) o.op=some l)
  (hop:∀h,St F own h->h.get i=some b->aN C (aU C k) h o.op=some (.val (mk h.next) ((h.put i none).alloc b')))
  (h:∀j,F j=none->WT C n ops rest (ck n k o.dst (mk j)) F (own.set p [(j,b')]) (λk2 F2 own2 rs=>Q k2 F2 own2 (⟨F,own,F,own.set p [(j,b')],l⟩::rs))) :
  WT C n ops (o::rest) k F own Q:=
 WT.step hl λe h' hk hs=>
  have s0:jA F (own.eraseIdx p).flatten (h'.put i none):=(hs.first (q:=0) hp rfl).kill
  let ⟨s1,s2,s3⟩:=s0.alloc b'
  ⟨mk h'.next,(h'.put i none).alloc b',F,own.set p [(h'.next,b')],⟨0,λN _=>gp hk hw (hop h' hs (hs.has hp (Rl ..))) _⟩,ar.le.refl F,St.back hp s1 (Rc _),h h'.next s3⟩
theorem WT.fill{mk:Nat->Value}{b:aD}{l:List Nat}(p:Nat)(hp:own[p]?=some [])(hw:aE ops k o=some true)(hl:aY (aU C k) o.op=some l)
  (hop:∀h,St F own h->aN C (aU C k) h o.op=some (.val (mk h.next) (h.alloc b)))
  (h:∀i,F i=none->WT C n ops rest (ck n k o.dst (mk i)) F (own.set p [(i,b)]) (λk2 F2 own2 rs=>Q k2 F2 own2 (⟨F,own,F,own.set p [(i,b)],l⟩::rs))):WT C n ops (o::rest) k F own Q:=
 WT.step hl λe h' hk hs=>
  have s0:jA F (own.eraseIdx p).flatten h':=by
   have:=jA.perm hs (TS (bX hp));simpa using this
  let ⟨s1,s2,s3⟩:=s0.alloc b
  ⟨mk h'.next,h'.alloc b,F,own.set p [(h'.next,b)],⟨0,λN _=>gp hk hw (hop h' hs) _⟩,ar.le.refl F,St.back hp s1 (Rc _),h h'.next s3⟩
def Spec(C:Ctx)(f:FuncId)(args:List Value)(F:ar)(oin:a6)(c9:ar->Value->a6->Prop):Prop:=
 ∀own h,St F (oin++own) h->∃v h' F' oout,Ou C f args h v h'/\ar.le F F'/\St F' (oout++own) h'/\c9 F' v oout
theorem Spec.mono{f:FuncId}{args:List Value}{oin:a6}{c9 Post':ar->Value->a6->Prop}(h:Spec C f args F oin c9)(hp:∀F' v oout,ar.le F F'->c9 F' v oout->Post' F' v oout):Spec C f args F oin Post':=
 λown h0 hs=>let ⟨v,h',F',oout,h1,h2,h3,h4⟩:=h own h0 hs;⟨v,h',F',oout,h1,h2,h3,hp _ _ _ h2 h4⟩
theorem WT.call{f:FuncId}{args:List Value}{oin fr:a6}{c9:ar->Value->a6->Prop}{l:List Nat}(hw:aE ops k o=some true)(hl:aY (aU C k) o.op=some l)
  (hop:∀h,aN C (aU C k) h o.op=some (.call f args)) (spec:Spec C f args F oin c9) (hperm:own.Perm (oin++fr))
  (h:∀F' v oout,ar.le F F'->c9 F' v oout->WT C n ops rest (ck n k o.dst v) F' (oout++fr) (λk2 F2 own2 rs=>Q k2 F2 own2 (⟨F,own,F',oout++fr,l⟩::rs))) :
  WT C n ops (o::rest) k F own Q:=
 WT.step hl λe h' hk hs=>by
  obtain⟨v,h1,F1,oout,⟨m,hd⟩,hF,hs1,hp⟩:=spec fr h' (hs.perm hperm);refine⟨v,h1,F1,oout++fr,⟨m,λN hN=>?_⟩,hF,hs1,h F1 v oout hF hp⟩;unfold ek;rw[eN hk hw];simp only[ef hk.eval (hop h'),hd N hN]
theorem WT.weaken{k2:bu}(hk:bD k2 k)(h:WT C n ops rest k2 F own Q):WT C n ops rest k F own Q:=λe h' hk' hs=>h e h' (hk'.weaken hk) hs
def mJ(masks:List Nat)(i:Nat):List Oper->Nat->List (Nat×Nat)
 | [],_=>[]
 | o::os,j=>bif bS o.op||i==j||((masks[i]?).getD 0).testBit j||((masks[j]?).getD 0).testBit i then mJ masks i os (j+1) else (i,j)::mJ masks i os (j+1)
def lp(masks:List Nat)(ops:List Oper):List Oper->Nat->List (Nat×Nat)
 | [],_=>[]
 | o::os,i=>(bif nm o.op then mJ masks i ops 0 else [])++lp masks ops os (i+1)
def Cc(ops:List Oper):List (Nat×Nat):=lp (bk [] ops) ops ops 0
def Rec.keeps(r:Rec)(x:Nat):Prop:=(∃b,r.F x=some b)\/∃b,(x,b)∈r.own.flatten/\(x,b)∈r.az.flatten
def j4:List (Nat×Nat)->List Rec->Prop
 | [],_=>True
 | (i,j)::ps,rs=>(∀a b,rs[i]?=some a->rs[j]?=some b->(∀x∈a.looks,b.keeps x)\/(i<j/\∀h2,St b.F' b.az h2->a.bend.p h2))/\j4 ps rs
theorem H5{r:Rec}{x:Nat}{h h1:aq}(s:St r.F r.own h)(s1:St r.F' r.az h1)(hF:ar.le r.F r.F')(hk:r.keeps x):h.get x=h1.get x:=by
 rcases hk with ⟨b,hb⟩ | ⟨b,hb,hb'⟩
 ·rw[s.xQ x b hb,s1.xQ x b (hF x b hb)]
 ·rw[jA.has s (x,b) hb,jA.has s1 (x,b) hb']
theorem CP{ps:List (Nat×Nat)}{rs:List Rec}(h:j4 ps rs):∀i j,(i,j)∈ps->∀a b,rs[i]?=some a->rs[j]?=some b->(∀x∈a.looks,b.keeps x)\/(i<j/\∀h2,St b.F' b.az h2->a.bend.p h2):=by
 induction ps with
 | nil=>intro i j hm;cases hm
 | cons p ps ih=>
  obtain⟨i0,j0⟩:=p;intro i j hm;rcases Rt.1 hm with e | hm
  ·cases e;exact h.1
  ·exact ih h.2 i j hm
theorem tD(masks:List Nat)(i:Nat):∀(os:List Oper) (j:Nat) (m:Nat) (o:Oper),os[m]?=some o->bS o.op=false->i≠j+m->((masks[i]?).getD 0).testBit (j+m)=false->((masks[j+m]?).getD 0).testBit i=false->
  (i,j+m)∈mJ masks i os j
 | [],j,m,o,h,_,_,_,_=>by simp at h
 | o'::os,j,0,o,h,h1,h2,h3,h4=>by
  simp at h;subst h;unfold mJ;have:(i==j)=false:=by simpa using h2
  simp only[SJ] at h3 h4 ⊢;rw[h1,this,h3,h4];simp
 | o'::os,j,m+1,o,h,h1,h2,h3,h4=>by
  have ih:=tD masks i os (j+1) m o (by simpa using h) h1 (by omega) (by rw[show j+1+m=j+(m+1) by omega];exact h3) (by rw[show j+1+m=j+(m+1) by omega];exact h4);rw[show j+1+m=j+(m+1) by omega] at ih;unfold mJ;cases (bS o'.op||i==j||((masks[i]?).getD 0).testBit j||((masks[j]?).getD 0).testBit i) with
  | true=>exact ih
  | false=>exact I9 _ ih
theorem pk(masks:List Nat)(ops:List Oper):∀(os:List Oper) (i m:Nat) (o:Oper) (p:Nat×Nat),os[m]?=some o->nm o.op=true->p∈mJ masks (i+m) ops 0->p∈lp masks ops os i
 | [],i,m,o,p,h,_,_=>by simp at h
 | o'::os,i,0,o,p,h,h1,h2=>by
  simp at h;subst h;unfold lp;rw[h1];exact R6 _ h2
 | o'::os,i,m+1,o,p,h,h1,h2=>by
  have ih:=pk masks ops os (i+1) m o p (by simpa using h) h1 (by rw[show i+1+m=i+(m+1) by omega];exact h2);unfold lp;exact R7 _ ih
theorem Told.at{os:List Oper}{tr:List wN}{rs:List Rec}(ht:Told os tr rs):∀(i:Nat) (h h1:aq) (l:List Nat) (fl:aq->Bool),tr[i]?=some (h,h1,l,fl)->
  ∃(o:Oper) (r:Rec),os[i]?=some o/\rs[i]?=some r/\r.looks=l/\(nm o.op=false->l=[])/\(∀h2,r.bend.p h2->fl h2=true)/\St r.F r.own h/\St r.F' r.az h1/\ar.le r.F r.F':=by
 induction ht with
 | nil=>intro i h h1 l fl q;simp at q
 | cons a a2 b c d e ih=>
  rename_i o os h0 h10 r fl0 tr rs;intro i h h1 l fl q;cases i with
  | zero=>simp at q;obtain⟨rfl,rfl,rfl,rfl⟩:=q;exact⟨o,r,rfl,rfl,rfl,a,a2,b,c,d⟩
  | succ i=>exact ih i h h1 l fl (by simpa using q)
theorem AX{ops:List Oper}{tr:List wN}{rs:List Rec}(ht:Told ops tr rs)(hr:j4 (Cc ops) rs):ed ops (bk [] ops) tr=true:=by
 have inner:∀(i:Nat) (look:List Nat) (fl:aq->Bool) (o:Oper) (r:Rec),ops[i]?=some o->rs[i]?=some r->r.looks=look->(∀h2,r.bend.p h2->fl h2=true)->nm o.op=true->
   ∀(os:List Oper) (tr':List wN) (j:Nat),(∀m o,os[m]?=some o->ops[j+m]?=some o)->(∀m t,tr'[m]?=some t->tr[j+m]?=some t)->
   ed.outer.inner (bk [] ops) fl i look (((bk [] ops)[i]?).getD 0) os tr' j=true:=by
  intro i look fl o r hi hri hl hfl hlo os
  induction os with
  | nil=>intro tr' j _ _;unfold ed.outer.inner;rfl
  | cons o2 os ih=>
   intro tr' j hos htr;cases tr' with
   | nil=>unfold ed.outer.inner;rfl
   | cons t tr'=>
    obtain⟨h,h1,l2,fl2⟩:=t;unfold ed.outer.inner;have ih':=ih tr' (j+1) (λm o q=>by rw[show j+1+m=j+(m+1) by omega];exact hos (m+1) o (by simpa using q)) (λm t q=>by rw[show j+1+m=j+(m+1) by omega];exact htr (m+1) t (by simpa using q));simp only[IN];refine⟨?_,ih'⟩;have ho2:ops[j]?=some o2:=hos 0 o2 rfl;obtain⟨o3,r2,q1,q2,q3,q4,_,q5,q6,q7⟩:=ht.at j h h1 l2 fl2 (htr 0 _ rfl);cases e1:bS o2.op with
    | true=>simp
    | false=>
    cases e2:(i==j) with
    | true=>simp
    | false=>
    cases e3:(((bk [] ops)[i]?).getD 0).testBit j with
    | true=>simp
    | false=>
    cases e4:(((bk [] ops)[j]?).getD 0).testBit i with
    | true=>simp
    | false=>
     simp only[Bool.false_or];have hne:i≠0+j:=by simp at e2;omega
     have hm:=tD (bk [] ops) i ops 0 j o2 ho2 e1 hne (by rw[Rn];exact e3) (by rw[Rn];exact e4);rw[Rn] at hm;have hm2:=pk (bk [] ops) ops ops 0 i o (i,j) hi hlo (by rw[Rn];exact hm);rcases CP hr i j hm2 r r2 hri q2 with hk | ⟨hij,hk⟩
     ·have ha:(look.all λx=>pn (h.get x) (h1.get x))=true:=by
       rw[Sf];intro x hx;rw[H5 q5 q6 q7 (hk x (by rw[hl];exact hx))];exact Df _
      rw[ha,Bool.true_or]
     ·have hb:(Nat.blt i j&&fl h1)=true:=by rw[hfl h1 (hk h1 q6),Ue];exact RP hij
      rw[hb,Bool.or_true]
 have outer:∀(tr':List wN) (i:Nat),(∀m t,tr'[m]?=some t->tr[i+m]?=some t)->ed.outer ops (bk [] ops) tr tr' i=true:=by
  intro tr'
  induction tr' with
  | nil=>intro i _;unfold ed.outer;rfl
  | cons t tr' ih=>
   obtain⟨h,h1,look,fl⟩:=t;intro i htr;unfold ed.outer;rw[ih (i+1) (λm t q=>by rw[show i+1+m=i+(m+1) by omega];exact htr (m+1) t (by simpa using q)),Ue];obtain⟨o,r,q1,q2,q3,q4,q5,_⟩:=ht.at i h h1 look fl (htr 0 _ rfl);cases look with
   | nil=>rfl
   | cons x l=>
    have hlo:nm o.op=true:=by
     cases hh:nm o.op with
     | true=>rfl
     | false=>exact absurd (q4 hh) (by simp)
    exact inner i (x::l) fl o r q1 q2 q3 q5 hlo ops tr 0 (λm o q=>by rw[Rn];exact q) (λm t q=>by rw[Rn];exact q)
 unfold ed;exact outer tr 0 (λm t q=>by rw[Rn];exact q)
theorem jJ{cal:uy}{ops:List Oper}:∀(rest:List Oper) (e e':Env) (h h':aq) (tr:List wN),iG C cal ops rest e h=some (e',h',tr)->wW C cal ops rest e h=some (e',h')
 | [],e,e',h,h',tr,q=>by cases q;rfl
 | o::rest,e,e',h,h',tr,q=>by
  unfold iG at q;unfold wW;split at q
  ·cases q
  ·rename_i e1 h1 hst;split at q
   ·cases q
   ·rename_i e2 h2 l ht;cases q;exact jJ rest _ _ _ _ _ ht
def AW(C:Ctx)(n:Nat)(c:Code)(k:bu)(F:ar)(own:a6)(Q:Ex->bu->ar->a6->Prop):Prop:=
 ∀e h,dE n e k->St F own h->∃x e' h' k' F' az,Ml C c e h x e' h'/\dE n e' k'/\ar.le F F'/\St F' az h'/\Q x k' F' az
variable {A:Ex->bu->ar->a6->Prop}
theorem AW.region{id:Nat}{ops:Array Oper}{draw:Bool}(h:WT C n ops.toList ops.toList k F own λk' F' az rs=>(draw=true->lZ ops.toList=true/\j4 (Cc ops.toList) rs)/\A .normal k' F' az) :
  AW C n (.region id ops draw) k F own A:=by
 intro e h0 hk hs;obtain⟨e',h',tr,k',F',az,rs,⟨m,hm⟩,hk',hF,hs',ht,hd,hq⟩:=h e h0 hk hs;refine⟨.normal,e',h',k',F',az,⟨m+1,λN hN=>?_⟩,hk',hF,hs',hq⟩;obtain⟨N,rfl⟩:∃N',N=N'+1:=⟨N-1,by omega⟩;have hm:=hm N (by omega);show bt C (exec C N) _ e h0=_;have hr:mF C (jf C (exec C N)) ops.toList draw e h0=some (e',h'):=by
  unfold mF;cases draw with
  | true=>
   simp only[OF];have hm:iG C (jf C (exec C N)) ops.toList ops.toList e h0=some (e',h',tr):=hm;rw[hm];simp only[(hd rfl).1,AX ht (hd rfl).2,TC,OF]
  | false=>exact jJ _ _ _ _ _ _ hm
 simp only[bt,hr]
theorem AW.skip(h:A .normal k F own):AW C n .skip k F own A:=λe h0 hk hs=>
 ⟨.normal,e,h0,k,F,own,⟨1,λN hN=>by obtain⟨N,rfl⟩:∃N',N=N'+1:=⟨N-1,by omega⟩;rfl⟩,hk,ar.le.refl F,hs,h⟩
theorem AW.exit{id:Nat}(h:A (.exit id) k F own):AW C n (.exit id) k F own A:=λe h0 hk hs=>
 ⟨.exit id,e,h0,k,F,own,⟨1,λN hN=>by obtain⟨N,rfl⟩:∃N',N=N'+1:=⟨N-1,by omega⟩;rfl⟩,hk,ar.le.refl F,hs,h⟩
theorem AW.ret(h:A .ret k F own):AW C n .ret k F own A:=λe h0 hk hs=>
 ⟨.ret,e,h0,k,F,own,⟨1,λN hN=>by obtain⟨N,rfl⟩:∃N',N=N'+1:=⟨N-1,by omega⟩;rfl⟩,hk,ar.le.refl F,hs,h⟩
def mV(B:bu->ar->a6->Prop)(A:Ex->bu->ar->a6->Prop):Ex->bu->ar->a6->Prop
 | .normal,k,F,own=>B k F own
 | x,k,F,own=>A x k F own
theorem AW.seq{a b:Code}(h:AW C n a k F own (mV (λk' F' az=>AW C n b k' F' az A) A)):AW C n (.seq a b) k F own A:=by
 intro e h0 hk hs;obtain⟨x,e1,h1,k1,F1,own1,⟨m,hm⟩,hk1,hF1,hs1,hq⟩:=h e h0 hk hs;have other:x≠.normal->A x k1 F1 own1->∃x e' h' k' F' az,Ml C (.seq a b) e h0 x e' h'/\dE n e' k'/\ar.le F F'/\St F' az h'/\A x k' F' az:=by
  intro hx hq;refine⟨x,e1,h1,k1,F1,own1,⟨m+1,λN hN=>?_⟩,hk1,hF1,hs1,hq⟩;obtain⟨N,rfl⟩:∃N',N=N'+1:=⟨N-1,by omega⟩;show bt C (exec C N) _ e h0=_;simp only[bt,hm N (by omega)];cases x with
  | normal=>exact absurd rfl hx
  | exit id=>rfl
  | ret=>rfl
 cases x with
 | exit id=>exact other (by simp) hq
 | ret=>exact other (by simp) hq
 | normal=>
  obtain⟨x,e2,h2,k2,F2,own2,⟨m2,hm2⟩,hk2,hF2,hs2,hq2⟩:=hq e1 h1 hk1 hs1;refine⟨x,e2,h2,k2,F2,own2,⟨max m m2+1,λN hN=>?_⟩,hk2,hF1.trans hF2,hs2,hq2⟩;obtain⟨N,rfl⟩:∃N',N=N'+1:=⟨N-1,by omega⟩;show bt C (exec C N) _ e h0=_;simp only[bt,hm N (by omega),hm2 N (by omega)]
theorem AW.cond{cc:Operand}{a b:Code}{v:Bool}(hv:aU C k cc=some (.bool v))(h1:v=true->AW C n a k F own A)(h2:v=false->AW C n b k F own A):AW C n (.cond cc a b) k F own A:=by
 intro e h0 hk hs;cases v with
 | true=>
  obtain⟨x,e1,h1,k1,F1,own1,⟨m,hm⟩,r⟩:=h1 rfl e h0 hk hs;refine⟨x,e1,h1,k1,F1,own1,⟨m+1,λN hN=>?_⟩,r⟩;obtain⟨N,rfl⟩:∃N',N=N'+1:=⟨N-1,by omega⟩;show bt C (exec C N) _ e h0=_;simp only[bt,hk.eval _ _ hv,hm N (by omega)]
 | false=>
  obtain⟨x,e1,h1,k1,F1,own1,⟨m,hm⟩,r⟩:=h2 rfl e h0 hk hs;refine⟨x,e1,h1,k1,F1,own1,⟨m+1,λN hN=>?_⟩,r⟩;obtain⟨N,rfl⟩:∃N',N=N'+1:=⟨N-1,by omega⟩;show bt C (exec C N) _ e h0=_;simp only[bt,hk.eval _ _ hv,hm N (by omega)]
def fv(id:Nat)(A:Ex->bu->ar->a6->Prop):Ex->bu->ar->a6->Prop
 | .exit i,k,F,own=>A (bif i==id then .normal else .exit i) k F own
 | x,k,F,own=>A x k F own
theorem AW.block{id:Nat}{a:Code}(h:AW C n a k F own (fv id A)):AW C n (.block id a) k F own A:=by
 intro e h0 hk hs;obtain⟨x,e1,h1,k1,F1,own1,⟨m,hm⟩,hk1,hF1,hs1,hq⟩:=h e h0 hk hs;cases x with
 | exit i=>
  refine⟨_,e1,h1,k1,F1,own1,⟨m+1,λN hN=>?_⟩,hk1,hF1,hs1,hq⟩;obtain⟨N,rfl⟩:∃N',N=N'+1:=⟨N-1,by omega⟩;show bt C (exec C N) _ e h0=_;simp only[bt,hm N (by omega)]
 | normal=>
  refine⟨_,e1,h1,k1,F1,own1,⟨m+1,λN hN=>?_⟩,hk1,hF1,hs1,hq⟩;obtain⟨N,rfl⟩:∃N',N=N'+1:=⟨N-1,by omega⟩;show bt C (exec C N) _ e h0=_;simp only[bt,hm N (by omega)]
 | ret=>
  refine⟨_,e1,h1,k1,F1,own1,⟨m+1,λN hN=>?_⟩,hk1,hF1,hs1,hq⟩;obtain⟨N,rfl⟩:∃N',N=N'+1:=⟨N-1,by omega⟩;show bt C (exec C N) _ e h0=_;simp only[bt,hm N (by omega)]
theorem AW.weaken{c:Code}{k2:bu}(hk:bD k2 k)(h:AW C n c k2 F own A):AW C n c k F own A:=λe h0 hk' hs=>h e h0 (hk'.weaken hk) hs
theorem AW.drop{c:Code}{own2:a6}(ho:own2.Sublist own)(h:AW C n c k F own2 A):AW C n c k F own A:=λe h0 hk' hs=>h e h0 hk' (hs.sub ho)
theorem AW.perm{c:Code}{own2:a6}(ho:own.Perm own2)(h:AW C n c k F own2 A):AW C n c k F own A:=λe h0 hk' hs=>h e h0 hk' (hs.perm ho)
theorem AW.mono{c:Code}{A':Ex->bu->ar->a6->Prop}(h:AW C n c k F own A)(hA:∀x k' F' az,ar.le F F'->A x k' F' az->A' x k' F' az):AW C n c k F own A':=λe h0 hk hs=>
 let ⟨x,e2,h2,k2,F2,own2,h3,h4,h5,h6,h7⟩:=h e h0 hk hs
 ⟨x,e2,h2,k2,F2,own2,h3,h4,h5,h6,hA _ _ _ _ h5 h7⟩
theorem AW.loop{ι:Type}(I:ι->bu->ar->a6->Prop)(m:ι->Nat){c:Code}
  (step:∀i k F own,I i k F own->AW C n c k F own (mV (λk' F' az=>∃j k2 own2,m j<m i/\bD k2 k'/\own2.Sublist az/\I j k2 F' own2) A)) :
  ∀i k F own,I i k F own->AW C n (.loop c) k F own A:=by
 have main:∀(w:Nat) i k F own,m i<w->I i k F own->AW C n (.loop c) k F own A:=by
  intro w
  induction w with
  | zero=>intro i k F own h;omega
  | succ w ih=>
   intro i k F own hw hi e h0 hk hs;obtain⟨x,e1,h1,k1,F1,own1,⟨m1,hm1⟩,hk1,hF1,hs1,hq⟩:=step i k F own hi e h0 hk hs;have other:x≠.normal->A x k1 F1 own1->∃x e' h' k' F' az,Ml C (.loop c) e h0 x e' h'/\dE n e' k'/\ar.le F F'/\St F' az h'/\A x k' F' az:=by
    intro hx hq;refine⟨x,e1,h1,k1,F1,own1,⟨m1+1,λN hN=>?_⟩,hk1,hF1,hs1,hq⟩;obtain⟨N,rfl⟩:∃N',N=N'+1:=⟨N-1,by omega⟩;show bt C (exec C N) _ e h0=_;simp only[bt,hm1 N (by omega)];cases x with
    | normal=>exact absurd rfl hx
    | exit id=>rfl
    | ret=>rfl
   cases x with
   | exit id=>exact other (by simp) hq
   | ret=>exact other (by simp) hq
   | normal=>
    obtain⟨j,k2,own2,hj,hsub,hso,hI⟩:=hq;obtain⟨x,e2,h2,k2,F2,own2,⟨m2,hm2⟩,hk2,hF2,hs2,hq2⟩:=ih j k2 F1 own2 (by omega) hI e1 h1 (hk1.weaken hsub) (hs1.sub hso);refine⟨x,e2,h2,k2,F2,own2,⟨max m1 m2+1,λN hN=>?_⟩,hk2,hF1.trans hF2,hs2,hq2⟩;obtain⟨N,rfl⟩:∃N',N=N'+1:=⟨N-1,by omega⟩;show bt C (exec C N) _ e h0=_;simp only[bt,hm1 N (by omega),hm2 N (by omega)]
 exact λi k F own hi=>main (m i+1) i k F own (SK _) hi
def tT:List Value->Nat->bu
 | [],_=>[]
 | v::vs,i=>(i,v)::tT vs (i+1)
theorem yk:∀(vs:List Value) (i j:Nat) (v:Value),lk (tT vs i) j=some v->i<=j/\vs[j-i]?=some v
 | [],i,j,v,q=>by cases q
 | u::vs,i,j,v,q=>by
  simp only[tT,lk] at q;cases hb:Nat.beq i j with
  | true=>
   rw[hb] at q;have:=RF hb;subst this;cases q;exact⟨AS _,by simp⟩
  | false=>
   rw[hb] at q;obtain⟨h1,h2⟩:=yk vs (i+1) j v q;refine⟨by omega,?_⟩;rw[show j-i=(j-(i+1))+1 by omega,Tg];exact h2
theorem dE.args(m:Nat)(vs:List Value):dE (max m vs.length) (mO m vs) (tT vs 0):=by
 refine⟨rfl,λi v q=>?_⟩;obtain⟨_,h2⟩:=yk vs 0 i v q;simp only[Nat.sub_zero] at h2;show (mO.go vs 0 .e).get i=some v;rw[sI];have:i<vs.length:=(RH.1 h2).1;rw[If (by omega)];simpa using h2
def JV(C:Ctx)(k:bu)(own:a6)(r:ResultVar)(v:Value):Prop:=
 match r with
 | .tmp t=>lk k t=some v
 | .cell a t=>∃p,lk k a=some p/\∀F h,St F own h->mU C h t p=some v
def nP(C:Ctx)(k:bu)(own:a6):List ResultVar->List Value->Prop
 | [],vs=>vs=[]
 | r::rs,vs=>∃v us,JV C k own r v/\nP C k own rs us/\vs=v::us
theorem nF{e:Env}{h:aq}(hk:dE n e k)(hs:St F own h):∀(rs:List ResultVar) (vs:List Value),nP C k own rs vs->kj C e h rs=some vs
 | [],vs,q=>by cases q;rfl
 | r::rs,vs,q=>by
  obtain⟨v,us,h1,h2,rfl⟩:=q;unfold kj;rw[nF hk hs rs us h2];have:rD C e h r=some v:=by
   cases r with
   | tmp t=>exact hk.get t v h1
   | cell a t=>
    obtain⟨p,h3,h4⟩:=h1;simp only[rD,hk.get a p h3,h4 F h hs]
  rw[this]
def KF(C:Ctx)(fn:Func)(own:a6)(c9:ar->Value->a6->Prop):Ex->bu->ar->a6->Prop
 | .exit _,_,_,_=>False
 | _,k,F,az=>∃vs oout,nP C k az fn.results.toList vs/\(oout++own).Sublist az/\c9 F (ei vs) oout
theorem Spec.of{f:FuncId}{fn:Func}{c:Code}{args:List Value}{oin:a6}{c9:ar->Value->a6->Prop}(hnf:C.fact f=none)(hf:C.func f=some fn)(hb:fn.body=some c)
  (h:∀own,AW C (max fn.ntmps args.length) c (tT args 0) F (oin++own) (KF C fn own c9)):Spec C f args F oin c9:=by
 intro own h0 hs;obtain⟨x,e1,h1,k1,F1,own1,⟨m,hm⟩,hk1,hF1,hs1,hq⟩:=h own (mO fn.ntmps args) h0 (dE.args _ _) hs;have fin:(∃vs oout,nP C k1 own1 fn.results.toList vs/\(oout++own).Sublist own1/\c9 F1 (ei vs) oout)->(∀id,x≠.exit id)->∃v h' F' oout,Ou C f args h0 v h'/\ar.le F F'/\St F' (oout++own) h'/\c9 F' v oout:=by
  rintro⟨vs,oout,h2,h3,h4⟩ hne;refine⟨ei vs,h1,F1,oout,⟨m,λN hN=>?_⟩,hF1,hs1.sub h3,h4⟩;unfold call jf;simp only[hnf,hf,hb,hm N hN];have hrs:=nF hk1 hs1 _ _ h2;cases x with
  | exit id=>exact absurd rfl (hne id)
  | normal=>simp only[hrs]
  | ret=>simp only[hrs]
 cases x with
 | exit id=>exact False.elim hq
 | normal=>exact fin hq (by simp)
 | ret=>exact fin hq (by simp)
end
end Go.Abs
/-
 The logic's rules,in the forms that a walk uses.
-/
set_option linter.unusedVariables false
namespace Go.Abs
open Go
section
variable {C:Ctx}{n:Nat}{k:bu}{F:ar}{own:a6}{A:Ex->bu->ar->a6->Prop}{ops rest:List Oper}{o:Oper}{Q:bu->ar->a6->List Rec->Prop}
theorem AW.du{id:Nat}{ops:Array Oper}(h:WT C n ops.toList ops.toList k F own λk' F' az _=>A .normal k' F' az):AW C n (.region id ops false) k F own A:=by
 refine AW.region λe h0 hk hs=>?_;obtain⟨e',h',tr,k',F',az,rs,h1,h2,h3,h4,h5,h6⟩:=h e h0 hk hs;exact⟨e',h',tr,k',F',az,rs,h1,h2,h3,h4,h5,⟨(by intro h;cases h),h6⟩⟩
theorem AW.draw{id:Nat}{ops:Array Oper}{ps:List (Nat×Nat)}(hd:lZ ops.toList=true)(hn:Cc ops.toList=ps)
  (h:WT C n ops.toList ops.toList k F own λk' F' az rs=>j4 ps rs/\A .normal k' F' az):AW C n (.region id ops true) k F own A:=by
 refine AW.region λe h0 hk hs=>?_;obtain⟨e',h',tr,k',F',az,rs,h1,h2,h3,h4,h5,h6,h7⟩:=h e h0 hk hs;exact⟨e',h',tr,k',F',az,rs,h1,h2,h3,h4,h5,λ_=>⟨hd,by rw[hn];exact h6⟩,h7⟩
theorem Spec.fn{f:FuncId}{fn:Func}{c:Code}{args:List Value}{oin:a6}{c9:ar->Value->a6->Prop}(hf:C.func f=some fn)(hb:fn.body=some c)(hn:max fn.ntmps args.length=n)
  (h:∀own,AW C n c (tT args 0) F (oin++own) (KF C fn own c9)) (hnf:C.fact f=none:=by rfl):Spec C f args F oin c9:=by subst hn;exact Spec.of hnf hf hb h
theorem wrap64{x:Int}(h:-9223372036854775808<=x/\x<=9223372036854775807):IntKind.i64.wrap x=x:=by
 have hs:IntKind.i64.signed=true:=rfl;have hbits:IntKind.i64.bits=64:=rfl;simp only[IntKind.wrap,hs,hbits,Bool.true_and,RS];have:(2:Int) ^ 64=18446744073709551616:=rfl;rw[this];have:(2:Int) ^ (64-1)=9223372036854775808:=rfl;rw[this];split<;>omega
theorem WT.bin{op:BinOp}{t ty:TypeId}{xo yo:Operand}{kd:IntKind}{x y:Int}{r:Value}(hop:o.op=.binOp op t xo yo ty)(hw:aE ops k o=some true)(hx:aU C k xo=some (.int kd x))(hy:aU C k yo=some (.int kd y))
  (hr:kQ C ⟨0,.e⟩ op t xo yo (.int kd x) (.int kd y)=some r) (hsh:op≠.shl/\op≠.shr)
  (h:WT C n ops rest (ck n k o.dst r) F own (λk2 F2 own2 rs=>Q k2 F2 own2 (⟨F,own,F,own,[]⟩::rs))):WT C n ops (o::rest) k F own Q:=by
 refine WT.still hw (by rw[hop];simp only[aY,hx,hy];rfl) (λh0 _=>?_) h;rw[hop];simp only[aN,hx,hy];have:kQ C h0 op t xo yo (.int kd x) (.int kd y)=some r:=by
  rw[<-hr];cases op<;>first | rfl | exact absurd rfl hsh.1 | exact absurd rfl hsh.2
 rw[this];rfl
theorem WT.add{t ty:TypeId}{xo yo:Operand}{x y:Int}(hop:o.op=.binOp .add t xo yo ty)(hw:aE ops k o=some true)(hx:aU C k xo=some (.int .i64 x))(hy:aU C k yo=some (.int .i64 y))
  (hr:-9223372036854775808<=x+y/\x+y<=9223372036854775807)
  (h:WT C n ops rest (ck n k o.dst (.int .i64 (x+y))) F own (λk2 F2 own2 rs=>Q k2 F2 own2 (⟨F,own,F,own,[]⟩::rs))):WT C n ops (o::rest) k F own Q:=
 WT.bin hop hw hx hy (by show (if IntKind.i64=IntKind.i64 then some (Value.int .i64 (IntKind.i64.wrap (x+y))) else none)=_;rw[If rfl,wrap64 hr]) ⟨by simp,by simp⟩ h
theorem WT.sub{t ty:TypeId}{xo yo:Operand}{x y:Int}(hop:o.op=.binOp .sub t xo yo ty)(hw:aE ops k o=some true)(hx:aU C k xo=some (.int .i64 x))(hy:aU C k yo=some (.int .i64 y))
  (hr:-9223372036854775808<=x-y/\x-y<=9223372036854775807)
  (h:WT C n ops rest (ck n k o.dst (.int .i64 (x-y))) F own (λk2 F2 own2 rs=>Q k2 F2 own2 (⟨F,own,F,own,[]⟩::rs))):WT C n ops (o::rest) k F own Q:=
 WT.bin hop hw hx hy (by show (if IntKind.i64=IntKind.i64 then some (Value.int .i64 (IntKind.i64.wrap (x-y))) else none)=_;rw[If rfl,wrap64 hr]) ⟨by simp,by simp⟩ h
theorem WT.mul{t ty:TypeId}{xo yo:Operand}{x y:Int}(hop:o.op=.binOp .mul t xo yo ty)(hw:aE ops k o=some true)(hx:aU C k xo=some (.int .i64 x))(hy:aU C k yo=some (.int .i64 y))
  (hr:-9223372036854775808<=x*y/\x*y<=9223372036854775807)
  (h:WT C n ops rest (ck n k o.dst (.int .i64 (x*y))) F own (λk2 F2 own2 rs=>Q k2 F2 own2 (⟨F,own,F,own,[]⟩::rs))):WT C n ops (o::rest) k F own Q:=
 WT.bin hop hw hx hy (by show (if IntKind.i64=IntKind.i64 then some (Value.int .i64 (IntKind.i64.wrap (x*y))) else none)=_;rw[If rfl,wrap64 hr]) ⟨by simp,by simp⟩ h
theorem WT.rem{t ty:TypeId}{xo yo:Operand}{x y:Int}(hop:o.op=.binOp .rem t xo yo ty)(hw:aE ops k o=some true)(hx:aU C k xo=some (.int .i64 x))(hy:aU C k yo=some (.int .i64 y))
  (hr:y≠0)
  (h:WT C n ops rest (ck n k o.dst (.int .i64 (x.tmod y))) F own (λk2 F2 own2 rs=>Q k2 F2 own2 (⟨F,own,F,own,[]⟩::rs))):WT C n ops (o::rest) k F own Q:=
 WT.bin hop hw hx hy (by show (if IntKind.i64=IntKind.i64 then (if y=0 then none else some (Value.int .i64 (x.tmod y))) else none)=_;rw[If rfl,By hr]) ⟨by simp,by simp⟩ h
theorem bV{h:aq}{t:TypeId}{i off:Nat}{ro:Bool}{cs:List Value}{v:Value}(hb:h.get i=some (.cells ro cs))(hr:eI C cs t off=some v):mU C h t (.pointer (some ⟨i,off,none⟩))=some v:=by
 simp only[mU,iv,hb,hr]
theorem WT.load{t:TypeId}{a:Operand}{i off:Nat}{v:Value}(hop:o.op=.load t a)(hw:aE ops k o=some true)(ha:aU C k a=some (.pointer (some ⟨i,off,none⟩)))
  (hr:∀h,St F own h->mU C h t (.pointer (some ⟨i,off,none⟩))=some v)
  (h:WT C n ops rest (ck n k o.dst v) F own (λk2 F2 own2 rs=>Q k2 F2 own2 (⟨F,own,F,own,[i]⟩::rs))):WT C n ops (o::rest) k F own Q:=by
 refine WT.still hw (by rw[hop];simp only[aY,ha]) (λh0 hs=>?_) h;rw[hop];simp only[aN,ha,hr h0 hs];rfl
theorem WT.mD(p:Nat){t:TypeId}{a:Operand}{i off:Nat}{ro:Bool}{cs:List Value}{v:Value}(hop:o.op=.load t a)(hw:aE ops k o=some true)(ha:aU C k a=some (.pointer (some ⟨i,off,none⟩)))
  {B:List (Nat×aD)} (hp:own[p]?=some B) (hq:(i,aD.cells ro cs)∈B) (hr:eI C cs t off=some v)
  (h:WT C n ops rest (ck n k o.dst v) F own (λk2 F2 own2 rs=>Q k2 F2 own2 (⟨F,own,F,own,[i]⟩::rs))):WT C n ops (o::rest) k F own Q:=
 WT.load hop hw ha (λh0 hs=>bV (hs.has hp hq) hr) h
theorem WT.uA{t:TypeId}{a:Operand}{i off:Nat}{ro:Bool}{cs:List Value}{v:Value}(hop:o.op=.load t a)(hw:aE ops k o=some true)(ha:aU C k a=some (.pointer (some ⟨i,off,none⟩)))
  (hp:F i=some (.cells ro cs)) (hr:eI C cs t off=some v)
  (h:WT C n ops rest (ck n k o.dst v) F own (λk2 F2 own2 rs=>Q k2 F2 own2 (⟨F,own,F,own,[i]⟩::rs))):WT C n ops (o::rest) k F own Q:=
 WT.load hop hw ha (λh0 hs=>bV (hs.xQ _ _ hp) hr) h
theorem WT.store(p q:Nat){B:List (Nat×aD)}{t:TypeId}{a x:Operand}{i off m:Nat}{cs:List Value}{v:Value}(hop:o.op=.store t a x)(hw:aE ops k o=some true)(ha:aU C k a=some (.pointer (some ⟨i,off,none⟩)))
  (hx:aU C k x=some v) (hp:own[p]?=some B) (hq:B[q]?=some (i,.cells false cs)) (hm:C.size t=some m) (hl:v.cells.toList.length=m) (ho:v.cells.toList.all one=true) (hle:off+m<=cs.length)
  (h:WT C n ops rest (ck n k o.dst dq) F (own.set p (B.set q (i,.cells false (aV cs off v.cells.toList)))) (λk2 F2 own2 rs=>Q k2 F2 own2 (⟨F,own,F,own.set p (B.set q (i,.cells false (aV cs off v.cells.toList))),[i]⟩::rs))) :
  WT C n ops (o::rest) k F own Q:=by
 refine WT.put p q hp hq hw (by rw[hop];simp only[aY,ha]) (λh0 hs hb=>?_) h;rw[hop];have hle':Nat.ble (off+m) cs.length=true:=RP hle;have hl':(v.cells.toList.length==m)=true:=by simpa using hl
 simp only[aN,ha,hx,sd,hb,hm,hl',ho,hle',TC,OF];rfl
theorem WT.alloc{t:TypeId}{z:Value}(hop:o.op=.alloc t)(hw:aE ops k o=some true)(hz:C.zero t=some z)
  (h:∀i,F i=none->WT C n ops rest (ck n k o.dst (.pointer (some ⟨i,0,none⟩))) F ([(i,.cells false z.cells.toList)]::own) (λk2 F2 own2 rs=>Q k2 F2 own2 (⟨F,own,F,[(i,.cells false z.cells.toList)]::own,[]⟩::rs))) :
  WT C n ops (o::rest) k F own Q:=by
 refine WT.new (mk:=λi=>.pointer (some ⟨i,0,none⟩)) hw (by rw[hop];rfl) (λh0 hs=>?_) h;rw[hop];simp only[aN,hz]
theorem WT.box{t:TypeId}{x:Operand}{v:Value}(hop:o.op=.box t x)(hw:aE ops k o=some true)(hx:aU C k x=some v)
  (h:∀i,F i=none->WT C n ops rest (ck n k o.dst (.pointer (some ⟨i,0,none⟩))) F ([(i,.cells false v.cells.toList)]::own) (λk2 F2 own2 rs=>Q k2 F2 own2 (⟨F,own,F,[(i,.cells false v.cells.toList)]::own,[]⟩::rs))) :
  WT C n ops (o::rest) k F own Q:=by
 refine WT.new (mk:=λi=>.pointer (some ⟨i,0,none⟩)) hw (by rw[hop];rfl) (λh0 hs=>?_) h;rw[hop];simp only[aN,hx]
end
end Go.Abs
/-
 A table of the program's types,and the operations that need no more than it.
-/
set_option linter.unusedVariables false
namespace Go.Abs
open Go
inductive Shape where
 | word
 | bool
 | int (k:IntKind)
 | string
 | slice (e:Nat)
 | struct (fs:List (Nat×Nat))
 | array (n e:Nat)
 | map (k e:Nat)
 | pointer (e:Nat)
structure Row where
 t:Nat
 d:Shape
 size:Nat
 bytes:Nat
 zero:Value
def mN(d:Shape)(u:TypeDesc):Bool:=
 match d,u with
 | .word,.struct _=>false
 | .word,.array _ _=>false
 | .word,.slice _=>false
 | .word,.interface _=>false
 | .word,.string=>false
 | .word,.map _ _=>false
 | .word,_=>true
 | .bool,.bool=>true
 | .int k,.int k'=>decide (k=k')
 | .string,.string=>true
 | .slice e,.slice e'=>Nat.beq e e'
 | .struct fs,.struct fs'=>fs==fs'.toList.map λf=>(f.offset,f.type)
 | .array n e,.array n' e'=>Nat.beq n n'&&Nat.beq e e'
 | .map k e,.map k' e'=>Nat.beq k k'&&Nat.beq e e'
 | .pointer e,.pointer e'=>Nat.beq e e'
 | _,_=>false
def LR(C:Ctx)(r:Row):Bool:=
 (match C.size r.t with | some n=>Nat.beq n r.size | none=>false)&&(match C.bytes r.t with | some n=>Nat.beq n r.bytes | none=>false) &&
 (match C.zero r.t with | some z=>bI z r.zero | none=>false)&&(match C.gQ r.t with | some d=>mN r.d d | none=>false)
inductive RT where
 | e
 | n (l:RT) (r:Row) (g:RT)
def aO(C:Ctx):RT->Bool
 | .e=>true
 | .n l r g=>aO C l&&LR C r&&aO C g
def rowOf:RT->Nat->Option Row
 | .e,_=>none
 | .n l r g,t=>bif Nat.beq r.t t then some r else bif Nat.blt t r.t then rowOf l t else rowOf g t
theorem dz{C:Ctx}{T:RT}(h:aO C T=true){t:Nat}{r:Row}(q:rowOf T t=some r):r.t=t/\C.size t=some r.size/\C.bytes t=some r.bytes/\C.zero t=some r.zero/\∃d,C.gQ t=some d/\mN r.d d=true:=by
 induction T with
 | e=>cases q
 | n l r0 g ihl ihg=>
  simp only[aO,IN] at h;simp only[rowOf] at q;cases hb:Nat.beq r0.t t with
  | false=>
   rw[hb] at q;simp only[Ri] at q;cases hc:Nat.blt t r0.t with
   | false=>rw[hc] at q;exact ihg h.2 q
   | true=>rw[hc] at q;exact ihl h.1.1 q
  | true=>
   rw[hb] at q;cases q;have:=RF hb;subst this;obtain⟨⟨_,h1⟩,_⟩:=h;simp only[LR,IN] at h1;obtain⟨⟨⟨h1,h2⟩,h3⟩,h4⟩:=h1;refine⟨rfl,?_,?_,?_,?_⟩
   ·split at h1
    ·rename_i n hn;rw[hn,RF h1]
    ·cases h1
   ·split at h2
    ·rename_i n hn;rw[hn,RF h2]
    ·cases h2
   ·split at h3
    ·rename_i n hn;rw[hn,jg h3]
    ·cases h3
   ·split at h4
    ·rename_i d hd;exact⟨d,hd,h4⟩
    ·cases h4
def eY(T:RT)(t:Nat):Option Nat:=match rowOf T t with | some r=>some r.size | none=>none
def jB(T:RT)(t:Nat):Option Value:=match rowOf T t with | some r=>some r.zero | none=>none
def Shape.agg:Shape->Bool
 | .struct _=>true
 | .array _ _=>true
 | _=>false
theorem sR{d:Shape}{u:TypeDesc}(h:mN d u=true):tt u=d.agg:=by
 cases d<;>cases u<;>first | rfl | cases h
def takeN:Nat->List Value->Option (List Value)
 | 0,_=>some []
 | _+1,[]=>none
 | n+1,c::cs=>match takeN n cs with
  | some l=>some (c::l)
  | none=>none
def IW:Nat->List Value->Nat->Option (List Value)
 | 0,cs,n=>takeN n cs
 | _+1,[],_=>none
 | off+1,_::cs,n=>IW off cs n
theorem nl:∀(n:Nat) (cs l:List Value),takeN n cs=some l->cs.take n=l/\l.length=n
 | 0,cs,l,q=>by cases q;simp
 | n+1,[],l,q=>by cases q
 | n+1,c::cs,l,q=>by
  unfold takeN at q;split at q
  ·rename_i l2 h;cases q;obtain⟨h1,h2⟩:=nl n cs l2 h;simp[h1,h2]
  ·cases q
theorem BK:∀(off:Nat) (cs:List Value) (n:Nat) (l:List Value),IW off cs n=some l->bF cs off n=some l
 | 0,cs,n,l,q=>by
  obtain⟨h1,h2⟩:=nl n cs l q;unfold bF;simp[h1,h2]
 | off+1,[],_,_,q=>by cases q
 | off+1,c::cs,n,l,q=>by
  have:=BK off cs n l q;unfold bF at this ⊢;simpa using this
def rI(T:RT)(cs:List Value)(t:Nat)(off:Nat):Option Value:=
 match rowOf T t with
 | some r=>bif r.d.agg then (match IW off cs r.size with | some l=>some (.agg ⟨l⟩) | none=>none) else cs[off]?
 | none=>none
section
variable {C:Ctx}{T:RT}(hT:aO C T=true)
include hT
theorem cq{t m:Nat}(q:eY T t=some m):C.size t=some m:=by
 unfold eY at q;split at q
 ·rename_i r hr;cases q;exact(dz hT hr).2.1
 ·cases q
theorem ej{t:Nat}{z:Value}(q:jB T t=some z):C.zero t=some z:=by
 unfold jB at q;split at q
 ·rename_i r hr;cases q;exact(dz hT hr).2.2.2.1
 ·cases q
theorem cl{cs:List Value}{t off:Nat}{v:Value}(q:rI T cs t off=some v):eI C cs t off=some v:=by
 unfold rI at q;split at q
 ·rename_i r hr;obtain⟨_,h1,_,_,d,h4,h5⟩:=dz hT hr;unfold eI;rw[h4];simp only[sR h5,h1];cases hd:r.d.agg with
  | true=>
   rw[hd] at q;simp only[OF] at q ⊢;split at q
   ·rename_i l hl;rw[BK _ _ _ _ hl];exact q
   ·cases q
  | false=>rw[hd] at q;exact q
 ·cases q
theorem bO{t e:Nat}{r:Row}(q:rowOf T t=some r)(hd:r.d=.slice e):C.gQ t=some (.slice e):=by
 obtain⟨_,_,_,_,d,h4,h5⟩:=dz hT q;rw[hd] at h5;cases d<;>first | (cases h5;done) | skip
 rw[h4,RF h5]
theorem iO{t:Nat}{r:Row}{fs:List (Nat×Nat)}(q:rowOf T t=some r)(hd:r.d=.struct fs):∃fs',C.gQ t=some (.struct fs')/\fs=fs'.toList.map λf=>(f.offset,f.type):=by
 obtain⟨_,_,_,_,d,h4,h5⟩:=dz hT q;rw[hd] at h5;cases d<;>first | (cases h5;done) | skip
 exact⟨_,h4,by simpa [mN] using h5⟩
theorem si{t m e:Nat}{r:Row}(q:rowOf T t=some r)(hd:r.d=.array m e):C.gQ t=some (.array m e):=by
 obtain⟨_,_,_,_,d,h4,h5⟩:=dz hT q;rw[hd] at h5;cases d<;>first | (cases h5;done) | skip
 simp only[mN,IN] at h5;rw[h4,RF h5.1,RF h5.2]
theorem Am{t:Nat}{kd:IntKind}{r:Row}(q:rowOf T t=some r)(hd:r.d=.int kd):C.gQ t=some (.int kd):=by
 obtain⟨_,_,_,_,d,h4,h5⟩:=dz hT q;rw[hd] at h5;cases d<;>first | (cases h5;done) | skip
 rw[h4];simp[mN] at h5;rw[h5]
end
def pY(T:RT)(t:Nat)(x:Value)(f:Nat):Option Value:=
 match rowOf T t with
 | some r=>match r.d,x with
  | .struct fs,.pointer (some ⟨b,off,none⟩)=>match fs[f]? with
   | some (fo,ft)=>match eY T ft with
    | some m=>bif m==0 then none else some (.pointer (some ⟨b,off+fo,none⟩))
    | none=>none
   | none=>none
  | _,_=>none
 | none=>none
def Dn(T:RT)(t:Nat)(x:Value)(f:Nat):Option Value:=
 match rowOf T t with
 | some r=>match r.d,x with
  | .struct fs,.agg ⟨cs⟩=>match fs[f]? with
   | some (fo,ft)=>rI T cs ft fo
   | none=>none
  | _,_=>none
 | none=>none
def uJ(T:RT):List (Nat×Nat)->Option (List (Nat×Nat))
 | []=>some []
 | (fo,ft)::fs=>match eY T ft,uJ T fs with
  | some n,some r=>some ((fo,n)::r)
  | _,_=>none
def El:List Value->List Value->Option (List Value)
 | [],cs=>some cs
 | _::_,[]=>none
 | v::vs,_::cs=>match El vs cs with
  | some l=>some (v::l)
  | none=>none
def qW:Nat->List Value->List Value->Option (List Value)
 | 0,cs,vs=>El vs cs
 | _+1,[],_=>none
 | off+1,c::cs,vs=>match qW off cs vs with
  | some l=>some (c::l)
  | none=>none
theorem BO:∀(vs cs l:List Value),El vs cs=some l->vs++cs.drop vs.length=l/\vs.length<=cs.length
 | [],cs,l,q=>by cases q;simp
 | _::_,[],l,q=>by cases q
 | v::vs,c::cs,l,q=>by
  unfold El at q;split at q
  ·rename_i l2 h;cases q;obtain⟨h1,h2⟩:=BO vs cs l2 h;simp[h1,h2]
  ·cases q
theorem pZ:∀(off:Nat) (cs vs l:List Value),qW off cs vs=some l->aV cs off vs=l/\off+vs.length<=cs.length
 | 0,cs,vs,l,q=>by
  obtain⟨h1,h2⟩:=BO vs cs l q;unfold aV;simp[h1,h2]
 | off+1,[],vs,l,q=>by cases q
 | off+1,c::cs,vs,l,q=>by
  unfold qW at q;split at q
  ·rename_i l2 h;cases q;obtain⟨h1,h2⟩:=pZ off cs vs l2 h;unfold aV at h1 ⊢;constructor
   ·rw[<-h1];simp[Nat.add_right_comm]
   ·simp;omega
  ·cases q
def xE(place:Nat->Option (Nat×Nat)):List Value->List (Nat×Value)->Option (List Value)
 | cs,[]=>some cs
 | cs,(i,v)::rest=>
  match place i with
  | none=>none
  | some (off,size)=>bif Nat.beq v.cells.toList.length size then (match qW off cs v.cells.toList with
   | some cs=>xE place cs rest
   | none=>none) else none
theorem qg{place:Nat->Option (Nat×Nat)}:∀(ps:List (Nat×Value)) (cs l:List Value),xE place cs ps=some l->ld place cs ps=some l
 | [],cs,l,q=>q
 | (i,v)::rest,cs,l,q=>by
  unfold xE at q;unfold ld;split at q
  ·cases q
  ·rename_i off size hp;cases hb:Nat.beq v.cells.toList.length size with
   | false=>rw[hb] at q;cases q
   | true=>
    rw[hb] at q;simp only[OF] at q;split at q
    ·rename_i cs2 h;obtain⟨h1,h2⟩:=pZ _ _ _ _ h;have h3:=RF hb;simp only[hp];have e1:(v.cells.toList.length==size)=true:=by simpa using h3
     have e2:Nat.ble (off+size) cs.length=true:=RP (by rw[<-h3];exact h2);rw[e1,e2];simp only[TC,OF,h1];exact qg rest cs2 l q
    ·cases q
def bd(T:RT)(t:Nat)(parts:List (Nat×Value)):Option Value:=
 match rowOf T t with
 | some r=>match r.d with
  | .struct fs=>match uJ T fs with
   | some ps=>match xE (λi=>ps[i]?) r.zero.cells.toList parts with
    | some cs=>some (.agg ⟨cs⟩)
    | none=>none
   | none=>none
  | .array _ e=>match eY T e with
   | some n=>match xE (λi=>some (i*n,n)) r.zero.cells.toList parts with
    | some cs=>some (.agg ⟨cs⟩)
    | none=>none
   | none=>none
  | _=>none
 | none=>none
def Mh(T:RT)(t:Nat)(x:Value):Option Value:=
 match rowOf T t with
 | some r=>match r.d,x with
  | .slice _,.slice _ n _=>some (.int .i64 n)
  | .array n _,_=>some (.int .i64 n)
  | _,_=>none
 | none=>none
section
variable {C:Ctx}{T:RT}(hT:aO C T=true)
include hT
theorem xj{t:Nat}{x:Value}{f:Nat}{v:Value}(q:pY T t x f=some v):jX C t x f=some v:=by
 unfold pY at q;split at q
 ·rename_i r hr;split at q
  ·rename_i fs b off hd;obtain⟨fs',hu,hfs⟩:=iO hT hr hd;split at q
   ·rename_i fo ft hf;split at q
    ·rename_i m hm;rw[hfs,Re] at hf;cases hg:fs'.toList[f]? with
     | none=>simp[hg] at hf
     | some fd=>
      simp[hg] at hf;obtain⟨rfl,rfl⟩:=hf;unfold jX;simp only[hu,hg,cq hT hm];exact q
    ·cases q
   ·cases q
  ·cases q
 ·cases q
theorem Fe{t:Nat}{x:Value}{f:Nat}{v:Value}(q:Dn T t x f=some v):vb C t x f=some v:=by
 unfold Dn at q;split at q
 ·rename_i r hr;split at q
  ·rename_i fs cs hd;obtain⟨fs',hu,hfs⟩:=iO hT hr hd;split at q
   ·rename_i fo ft hf;rw[hfs,Re] at hf;cases hg:fs'.toList[f]? with
    | none=>simp[hg] at hf
    | some fd=>
     simp[hg] at hf;obtain⟨rfl,rfl⟩:=hf;unfold vb;simp only[hu,hg];exact cl hT q
   ·cases q
  ·cases q
 ·cases q
theorem vO:∀(fs:List Field) (ps:List (Nat×Nat)),uJ T (fs.map λf=>(f.offset,f.type))=some ps->places C fs=some ps
 | [],ps,q=>q
 | f::fs,ps,q=>by
  simp only[Na,uJ] at q;split at q
  ·rename_i m r h1 h2;cases q;unfold places;rw[cq hT h1,vO fs r h2]
  ·cases q
theorem Gw{t:Nat}{parts:List (Nat×Value)}{v:Value}(q:bd T t parts=some v):rU C t parts=some v:=by
 unfold bd at q;split at q
 ·rename_i r hr;have hz:=(dz hT hr).2.2.2.1;split at q
  ·rename_i fs hd;obtain⟨fs',hu,hfs⟩:=iO hT hr hd;split at q
   ·rename_i ps hps;rw[hfs] at hps;have:=vO hT _ _ hps;unfold rU;simp only[hz,hu,this];split at q
    ·rename_i cs hcs;rw[qg _ _ _ hcs];exact q
    ·cases q
   ·cases q
  ·rename_i m e hd;have hu:=si hT hr hd;split at q
   ·rename_i n hn;unfold rU;simp only[hz,hu,cq hT hn];split at q
    ·rename_i cs hcs;rw[qg _ _ _ hcs];exact q
    ·cases q
   ·cases q
  ·cases q
 ·cases q
theorem Kz{t:Nat}{x v:Value}(q:Mh T t x=some v)(h:aq):CZ C h t x=some v:=by
 unfold Mh at q;split at q
 ·rename_i r hr;split at q
  ·rename_i e a n c hd;unfold CZ;rw[bO hT hr hd];exact q
  ·rename_i m e x hd;unfold CZ;rw[si hT hr hd];exact q
  ·cases q
 ·cases q
end
def Ew(T:RT)(ρ:Operand->Option Value)(op:Op):Option Value:=
 match op with
 | .move x=>ρ x
 | .assign x=>ρ x
 | .pick c a b=>match ρ c with
  | some (.bool true)=>ρ a
  | some (.bool false)=>ρ b
  | _=>none
 | .build t ps=>match ez ρ ps.toList with
  | some ps=>bd T t ps
  | none=>none
 | .nilCheck x=>match ρ x with
  | some (.pointer (some a))=>some (.pointer (some a))
  | some (.func (.func f) xs ys)=>some (.func (.func f) xs ys)
  | _=>none
 | .unOp op _ x=>match ρ x with
  | some a=>OM op a
  | none=>none
 | .makeFunc fn xs ys=>match dx ρ xs.toList,dx ρ ys.toList with
  | some a,some b=>some (.func fn ⟨a⟩ ⟨b⟩)
  | _,_=>none
 | .fieldAddr t x f=>match ρ x with
  | some x=>pY T t x f
  | none=>none
 | .field t x f=>match ρ x with
  | some x=>Dn T t x f
  | none=>none
 | .extract x i=>match ρ x with
  | some (.tuple vs)=>vs.toList[i]?
  | _=>none
 | .call c=>match c.callee with
  | .builtin .len=>match dx ρ c.args.toList,c.argTypes.toList with
   | some [x],t::_=>Mh T t x
   | _,_=>none
  | _=>none
 | .binOp op _ x y _=>match op,ρ x,ρ y with
  | .eql,some (.int k a),some (.int k' b)=>if k=k' then some (.bool (a==b)) else none
  | .neq,some (.int k a),some (.int k' b)=>if k=k' then some (.bool (a != b)) else none
  | .lss,some (.int k a),some (.int k' b)=>if k=k' then some (.bool (decide (a<b))) else none
  | .leq,some (.int k a),some (.int k' b)=>if k=k' then some (.bool (decide (a<=b))) else none
  | .gtr,some (.int k a),some (.int k' b)=>if k=k' then some (.bool (decide (a > b))) else none
  | .geq,some (.int k a),some (.int k' b)=>if k=k' then some (.bool (decide (a≥b))) else none
  | _,_,_=>none
 | _=>none
theorem ML{C:Ctx}{T:RT}(hT:aO C T=true){ρ:Operand->Option Value}{op:Op}{v:Value}(q:Ew T ρ op=some v)(h:aq):aN C ρ h op=some (.val v h):=by
 cases op with
 | move x=>simp only[Ew] at q;simp only[aN,q];rfl
 | assign x=>simp only[Ew] at q;simp only[aN,q];rfl
 | pick c a b=>
  simp only[Ew] at q;simp only[aN];split at q
  ·rename_i hc;simp only[hc,q];rfl
  ·rename_i hc;simp only[hc,q];rfl
  ·cases q
 | build t ps=>
  simp only[Ew] at q;simp only[aN];split at q
  ·rename_i hc;simp only[hc,Gw hT q];rfl
  ·cases q
 | nilCheck x=>
  simp only[Ew] at q;simp only[aN];split at q
  ·rename_i hc;cases q;simp only[hc];rfl
  ·rename_i hc;cases q;simp only[hc];rfl
  ·cases q
 | unOp op t x=>
  simp only[Ew] at q;simp only[aN];split at q
  ·rename_i hc;simp only[hc,q];rfl
  ·cases q
 | makeFunc fn xs ys=>
  simp only[Ew] at q;simp only[aN];split at q
  ·rename_i h1 h2;cases q;simp only[h1,h2];rfl
  ·cases q
 | fieldAddr t x f=>
  simp only[Ew] at q;simp only[aN];split at q
  ·rename_i hc;simp only[hc,xj hT q];rfl
  ·cases q
 | field t x f=>
  simp only[Ew] at q;simp only[aN];split at q
  ·rename_i hc;simp only[hc,Fe hT q];rfl
  ·cases q
 | extract x i=>
  simp only[Ew] at q;simp only[aN];split at q
  ·rename_i hc;simp only[hc,q];rfl
  ·cases q
 | call c=>
  cases c with
  | mk callee args argTypes=>
  cases callee with
  | builtin b=>
   cases b<;>first | (cases q;done) | skip
   simp only[Ew] at q;split at q
   ·rename_i x t ts h1 h2;simp only[aN,h1,bR,h2,Kz hT q h];rfl
   ·cases q
  | _=>cases q
 | binOp op t x y m=>
  simp only[Ew] at q;simp only[aN];split at q
  all_goals first
   | (rename_i h1 h2
      split at q
      · rename_i hk;subst hk;cases q
        simp only[h1,h2,kQ,b9,Sv];rfl
      · cases q)
   | (cases q;done)
 | _=>cases q
def ur:List (Nat×aD)->Nat->Nat×aD->Option (List (Nat×aD))
 | [],_,_=>none
 | _::B,0,x=>some (x::B)
 | b::B,q+1,x=>match ur B q x with
  | some B=>some (b::B)
  | none=>none
def mX:a6->Nat->List (Nat×aD)->Option a6
 | [],_,_=>none
 | _::own,0,x=>some (x::own)
 | B::own,p+1,x=>match mX own p x with
  | some own=>some (B::own)
  | none=>none
theorem oW:∀(B:List (Nat×aD)) (q:Nat) (x:Nat×aD) (B':List (Nat×aD)),ur B q x=some B'->B.set q x=B'
 | [],_,_,_,h=>by cases h
 | _::B,0,x,B',h=>by cases h;rfl
 | b::B,q+1,x,B',h=>by
  unfold ur at h;split at h
  ·rename_i B2 h2;cases h;simp[oW B q x B2 h2]
  ·cases h
theorem dY:∀(own:a6) (p:Nat) (x:List (Nat×aD)) (az:a6),mX own p x=some az->own.set p x=az
 | [],_,_,_,h=>by cases h
 | _::B,0,x,B',h=>by cases h;rfl
 | b::B,q+1,x,B',h=>by
  unfold mX at h;split at h
  ·rename_i B2 h2;cases h;simp[dY B q x B2 h2]
  ·cases h
section
variable {C:Ctx}{T:RT}{n:Nat}{k:bu}{F:ar}{own:a6}{ops rest:List Oper}{o:Oper}{Q:bu->ar->a6->List Rec->Prop}
theorem ay{d:Nat}{v:Value}(hn:Nat.blt d n=true):ck n k (some d) v=(d,v)::k:=by simp only[ck,hn,OF]
theorem WT.DR(hT:aO C T=true){d:Nat}{v:Value}{l:List Nat}(hw:aE ops k o=some true)(hop:Ew T (aU C k) o.op=some v)(hd:o.dst=some d)(hn:Nat.blt d n=true)(hl:aY (aU C k) o.op=some l)
  (h:WT C n ops rest ((d,v)::k) F own (λk2 F2 own2 rs=>Q k2 F2 own2 (⟨F,own,F,own,l⟩::rs))):WT C n ops (o::rest) k F own Q:=
 WT.still hw hl (λh0 _=>ML hT hop h0) (by rw[hd,ay hn];exact h)
theorem WT.loadT(hT:aO C T=true)(p:Nat){d:Nat}{t:TypeId}{a:Operand}{i off:Nat}{ro:Bool}{cs:List Value}{v:Value}(hop:o.op=.load t a)(hw:aE ops k o=some true)(hd:o.dst=some d)(hn:Nat.blt d n=true)(ha:aU C k a=some (.pointer (some ⟨i,off,none⟩)))
  {B:List (Nat×aD)} (hp:own[p]?=some B) (hq:(i,aD.cells ro cs)∈B) (hr:rI T cs t off=some v)
  (h:WT C n ops rest ((d,v)::k) F own (λk2 F2 own2 rs=>Q k2 F2 own2 (⟨F,own,F,own,[i]⟩::rs))):WT C n ops (o::rest) k F own Q:=
 WT.mD p hop hw ha hp hq (cl hT hr) (by rw[hd,ay hn];exact h)
theorem WT.storeT(hT:aO C T=true)(p q:Nat){B B':List (Nat×aD)}{az:a6}{t:TypeId}{a x:Operand}{i off m:Nat}{cs cs':List Value}{v:Value}(hop:o.op=.store t a x)(hw:aE ops k o=some true)(hd:o.dst=none)(ha:aU C k a=some (.pointer (some ⟨i,off,none⟩)))
  (hx:aU C k x=some v) (hp:own[p]?=some B) (hq:B[q]?=some (i,.cells false cs)) (hm:eY T t=some m) (hl:(Nat.beq v.cells.toList.length m&&v.cells.toList.all one)=true) (hcs:qW off cs v.cells.toList=some cs')
  (hB:ur B q (i,.cells false cs')=some B') (ho:mX own p B'=some az)
  (h:WT C n ops rest k F az (λk2 F2 own2 rs=>Q k2 F2 own2 (⟨F,own,F,az,[i]⟩::rs))) :
  WT C n ops (o::rest) k F own Q:=by
 simp only[IN] at hl;obtain⟨rfl,hle⟩:=pZ _ _ _ _ hcs;have e1:=oW _ _ _ _ hB;have e2:=dY _ _ _ _ ho;subst e1;subst e2;have hlen:=RF hl.1;exact WT.store p q hop hw ha hx hp hq (cq hT hm) hlen hl.2 (by rw[<-hlen];exact hle) (by rw[hd];exact h)
theorem WT.aI(hT:aO C T=true){d:Nat}{t:TypeId}{z:Value}(hop:o.op=.alloc t)(hw:aE ops k o=some true)(hd:o.dst=some d)(hn:Nat.blt d n=true)(hz:jB T t=some z)
  {zs:List Value} (hzs:takeN z.cells.toList.length z.cells.toList=some zs)
  (h:∀i,F i=none->WT C n ops rest ((d,.pointer (some ⟨i,0,none⟩))::k) F ([(i,.cells false zs)]::own) (λk2 F2 own2 rs=>Q k2 F2 own2 (⟨F,own,F,[(i,.cells false zs)]::own,[]⟩::rs))) :
  WT C n ops (o::rest) k F own Q:=by
 have:=(nl _ _ _ hzs).1;rw[S1] at this;subst this;exact WT.alloc hop hw (ej hT hz) (λi hi=>by rw[hd,ay hn];exact h i hi)
theorem WT.cC{d:Nat}{t:TypeId}{x:Operand}{v:Value}{vs:List Value}(hop:o.op=.box t x)(hw:aE ops k o=some true)(hd:o.dst=some d)(hn:Nat.blt d n=true)(hx:aU C k x=some v)(hv:takeN v.cells.toList.length v.cells.toList=some vs)
  (h:∀i,F i=none->WT C n ops rest ((d,.pointer (some ⟨i,0,none⟩))::k) F ([(i,.cells false vs)]::own) (λk2 F2 own2 rs=>Q k2 F2 own2 (⟨F,own,F,[(i,.cells false vs)]::own,[]⟩::rs))) :
  WT C n ops (o::rest) k F own Q:=by
 have:=(nl _ _ _ hv).1;rw[S1] at this;subst this;exact WT.box hop hw hx (λi hi=>by rw[hd,ay hn];exact h i hi)
theorem WT.KH{d:Nat}{t ty:TypeId}{xo yo:Operand}{x y:Int}(hop:o.op=.binOp .add t xo yo ty)(hw:aE ops k o=some true)(hd:o.dst=some d)(hn:Nat.blt d n=true)(hx:aU C k xo=some (.int .i64 x))(hy:aU C k yo=some (.int .i64 y))
  (hr:-9223372036854775808<=x+y/\x+y<=9223372036854775807)
  (h:WT C n ops rest ((d,.int .i64 (x+y))::k) F own (λk2 F2 own2 rs=>Q k2 F2 own2 (⟨F,own,F,own,[]⟩::rs))):WT C n ops (o::rest) k F own Q:=
 WT.add hop hw hx hy hr (by rw[hd,ay hn];exact h)
theorem WT.Io{d:Nat}{t ty:TypeId}{xo yo:Operand}{x y:Int}(hop:o.op=.binOp .sub t xo yo ty)(hw:aE ops k o=some true)(hd:o.dst=some d)(hn:Nat.blt d n=true)(hx:aU C k xo=some (.int .i64 x))(hy:aU C k yo=some (.int .i64 y))
  (hr:-9223372036854775808<=x-y/\x-y<=9223372036854775807)
  (h:WT C n ops rest ((d,.int .i64 (x-y))::k) F own (λk2 F2 own2 rs=>Q k2 F2 own2 (⟨F,own,F,own,[]⟩::rs))):WT C n ops (o::rest) k F own Q:=
 WT.sub hop hw hx hy hr (by rw[hd,ay hn];exact h)
end
end Go.Abs