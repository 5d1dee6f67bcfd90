/-
  A logic over the abstract machine: what is known, what is owned, rules for operations and code.
-/
import Derived.Test.YtmbdmfjijofmmaaGreatDoorAbs5
/-
 A logic over the abstract machine: what is known of the slots,which blocks are frozen,which blocks are one's own.
-/
namespace Go.Abs
open Go
def Does(C:Ctx)(f:FuncId)(args:List Value)(h:Heap)(v:Value)(h':Heap):Prop:=∃m,∀n,m≤n→call C n f args h=some (v,h')
def Runs(C:Ctx)(c:Code)(e:Env)(h:Heap)(x:Ex)(e':Env)(h':Heap):Prop:=∃m,∀n,m≤n→exec C n c e h=some (x,e',h')
abbrev Kno:=List (Nat×Value)
def lk:Kno→Nat→Option Value
 | [],_=>none
 | (i,v)::k,j=>bif Nat.beq i j then some v else lk k j
structure Knows(n:Nat)(e:Env)(k:Kno):Prop where
 n:e.n=n
 get:∀i v,lk k i=some v→e.get i=some v
def evK(C:Ctx)(k:Kno):Operand→Option Value
 | .tmp i=>lk k i
 | .const v=>bif plain v then some v else none
 | .global g=>bif Nat.blt g C.globs then some (.pointer (some ⟨g,0,none⟩)) else none
 | .func f=>some (.func (.func f) #[] #[])
theorem Knows.eval{C:Ctx}{n:Nat}{e:Env}{k:Kno}(h:Knows n e k):∀x v,evK C k x=some v→e.eval C x=some v
 | .tmp i,v,q=>h.get i v q
 | .const _,_,q=>q
 | .global _,_,q=>q
 | .func _,_,q=>q
def putK(n:Nat)(k:Kno)(d:Option Tmp)(v:Value):Kno:=
 match d with
 | none=>k
 | some d=>bif Nat.blt d n then (d,v)::k else k
theorem Knows.put{n:Nat}{e:Env}{k:Kno}(h:Knows n e k)(d:Option Tmp)(v:Value):Knows n (e.put d v) (putK n k d v):=by
 cases d with
 | none=>exact h
 | some d=>
  simp only[Env.put,putK,h.n];cases hb:Nat.blt d n with
  | false=>exact h
  | true=>
   simp only[cond_true];refine⟨rfl,fun i u q=>?_⟩;simp only[lk] at q;show T.get (T.set e.t d (some v)) i=some u;rw[T.get_set];by_cases hi:i=d
   ·subst hi;have:Nat.beq i i=true:=Nat.beq_refl i;rw[this] at q;simpa using q
   ·rw[if_neg hi];have:Nat.beq d i=false:=by
     cases hh:Nat.beq d i with
     | false=>rfl
     | true=>exact absurd (Nat.eq_of_beq_eq_true hh).symm hi
    rw[this] at q;exact h.get i u q
def SubK(k2 k:Kno):Prop:=∀i v,lk k2 i=some v→lk k i=some v
theorem SubK.nil(k:Kno):SubK [] k:=fun _ _ q=>by cases q
theorem SubK.cons{i:Nat}{v:Value}{k2 k:Kno}(h1:lk k i=some v)(h2:SubK k2 k):SubK ((i,v)::k2) k:=by
 intro j u q;simp only[lk] at q;cases hb:Nat.beq i j with
 | true=>
  rw[hb] at q;have:=Nat.eq_of_beq_eq_true hb;subst this;cases q;exact h1
 | false=>rw[hb] at q;exact h2 j u q
theorem Knows.weaken{n:Nat}{e:Env}{k k2:Kno}(h:Knows n e k)(hs:SubK k2 k):Knows n e k2:=⟨h.n,fun i v q=>h.get i v (hs i v q)⟩
theorem vals_mono{ρ ρ':Operand→Option Value}(hρ:∀x v,ρ x=some v→ρ' x=some v):∀(xs:List Operand) (vs:List Value),vals ρ xs=some vs→vals ρ' xs=some vs
 | [],vs,q=>q
 | x::xs,vs,q=>by
  unfold vals at q ⊢;cases h1:ρ x with
  | none=>simp[h1] at q
  | some v=>
   cases h2:vals ρ xs with
   | none=>simp[h1,h2] at q
   | some us=>
    rw[hρ x v h1,vals_mono hρ xs us h2];simpa [h1,h2] using q
theorem partsA_mono{ρ ρ':Operand→Option Value}(hρ:∀x v,ρ x=some v→ρ' x=some v):∀(xs:List (Nat×Operand)) (vs:List (Nat×Value)),partsA ρ xs=some vs→partsA ρ' xs=some vs
 | [],vs,q=>q
 | (i,x)::xs,vs,q=>by
  unfold partsA at q ⊢;cases h1:ρ x with
  | none=>simp[h1] at q
  | some v=>
   cases h2:partsA ρ xs with
   | none=>simp[h1,h2] at q
   | some us=>
    rw[hρ x v h1,partsA_mono hρ xs us h2];simpa [h1,h2] using q
theorem optA_mono{ρ ρ':Operand→Option Value}(hρ:∀x v,ρ x=some v→ρ' x=some v):∀(x:Option Operand) (r:Option Value),optA ρ x=some r→optA ρ' x=some r
 | none,r,q=>q
 | some x,r,q=>by
  simp only[optA] at q ⊢;cases h1:ρ x with
  | none=>simp[h1] at q
  | some v=>rw[hρ x v h1];simpa [h1] using q
theorem opA_mono{C:Ctx}{ρ ρ':Operand→Option Value}(hρ:∀x v,ρ x=some v→ρ' x=some v){h:Heap}{op:Op}{r:OpR}(q:opA C ρ h op=some r):opA C ρ' h op=some r:=by
 have key:∀x,ρ x=none∨∃v,ρ x=some v∧ρ' x=some v:=fun x=>by
  cases h1:ρ x with
  | none=>exact .inl rfl
  | some v=>exact .inr ⟨v,rfl,hρ x v h1⟩
 have kopt:∀x,optA ρ x=none∨∃v,optA ρ x=some v∧optA ρ' x=some v:=fun x=>by
  cases h1:optA ρ x with
  | none=>exact .inl rfl
  | some v=>exact .inr ⟨v,rfl,optA_mono hρ x v h1⟩
 have kvals:∀x:List Operand,vals ρ x=none∨∃v,vals ρ x=some v∧vals ρ' x=some v:=fun x=>by
  cases h1:vals ρ x with
  | none=>exact .inl rfl
  | some v=>exact .inr ⟨v,rfl,vals_mono hρ x v h1⟩
 have kparts:∀x:List (Nat×Operand),partsA ρ x=none∨∃v,partsA ρ x=some v∧partsA ρ' x=some v:=fun x=>by
  cases h1:partsA ρ x with
  | none=>exact .inl rfl
  | some v=>exact .inr ⟨v,rfl,partsA_mono hρ x v h1⟩
 cases op with
 | makeMap t hint=>exact(by cases hint<;>exact q)
 | alloc e=>exact q
 | call c=>
  cases c with
  | mk callee args argTypes=>
  cases callee with
  | builtin b=>
   rcases kvals args.toList with h0 | ⟨v0,h0,g0⟩
   ·simp[opA,h0] at q
   simp only[opA,h0] at q;simp only[opA,g0];exact q
  | value f=>
   rcases key f with h1 | ⟨v1,h1,g1⟩
   ·simp[opA,h1] at q
   rcases kvals args.toList with h0 | ⟨v0,h0,g0⟩
   ·simp[opA,h0,h1] at q
   simp only[opA,h0,h1] at q;simp only[opA,g0,g1];exact q
  | invoke f m=>
   rcases key f with h1 | ⟨v1,h1,g1⟩
   ·simp[opA,h1] at q
   rcases kvals args.toList with h0 | ⟨v0,h0,g0⟩
   ·simp[opA,h0,h1] at q
   simp only[opA,h0,h1] at q;simp only[opA,g0,g1];exact q
 | pick c x y=>
  rcases key c with h0 | ⟨v0,h0,g0⟩
  ·simp[opA,h0] at q
  simp only[opA,h0] at q;simp only[opA,g0];split at q
  ·rcases key x with h1 | ⟨v1,h1,g1⟩
   ·simp[h1] at q
   ·rw[h1] at q;rw[g1];exact q
  ·rcases key y with h1 | ⟨v1,h1,g1⟩
   ·simp[h1] at q
   ·rw[h1] at q;rw[g1];exact q
  ·cases q
 | move x=>
  rcases key x with h0 | ⟨v0,h0,g0⟩
  ·simp[opA,h0] at q
  simp only[opA,h0] at q;simp only[opA,g0];exact q
 | assign x=>
  rcases key x with h0 | ⟨v0,h0,g0⟩
  ·simp[opA,h0] at q
  simp only[opA,h0] at q;simp only[opA,g0];exact q
 | box t x=>
  rcases key x with h0 | ⟨v0,h0,g0⟩
  ·simp[opA,h0] at q
  simp only[opA,h0] at q;simp only[opA,g0];exact q
 | build t ps=>
  rcases kparts ps.toList with h0 | ⟨v0,h0,g0⟩
  ·simp[opA,h0] at q
  simp only[opA,h0] at q;simp only[opA,g0];exact q
 | buildSlice t n ps=>
  rcases kparts ps.toList with h0 | ⟨v0,h0,g0⟩
  ·simp[opA,h0] at q
  simp only[opA,h0] at q;simp only[opA,g0];exact q
 | load t x=>
  rcases key x with h0 | ⟨v0,h0,g0⟩
  ·simp[opA,h0] at q
  simp only[opA,h0] at q;simp only[opA,g0];exact q
 | store t x y=>
  rcases key x with h0 | ⟨v0,h0,g0⟩
  ·simp[opA,h0] at q
  rcases key y with h1 | ⟨v1,h1,g1⟩
  ·simp[opA,h0,h1] at q
  simp only[opA,h0,h1] at q;simp only[opA,g0,g1];exact q
 | nilCheck x=>
  rcases key x with h0 | ⟨v0,h0,g0⟩
  ·simp[opA,h0] at q
  simp only[opA,h0] at q;simp only[opA,g0];exact q
 | binOp op t x y m=>
  rcases key x with h0 | ⟨v0,h0,g0⟩
  ·simp[opA,h0] at q
  rcases key y with h1 | ⟨v1,h1,g1⟩
  ·simp[opA,h0,h1] at q
  simp only[opA,h0,h1] at q;simp only[opA,g0,g1];exact q
 | unOp op t x=>
  rcases key x with h0 | ⟨v0,h0,g0⟩
  ·simp[opA,h0] at q
  simp only[opA,h0] at q;simp only[opA,g0];exact q
 | convert s d x=>
  rcases key x with h0 | ⟨v0,h0,g0⟩
  ·simp[opA,h0] at q
  simp only[opA,h0] at q;simp only[opA,g0];exact q
 | makeInterface t x=>
  rcases key x with h0 | ⟨v0,h0,g0⟩
  ·simp[opA,h0] at q
  simp only[opA,h0] at q;simp only[opA,g0];exact q
 | makeFunc f xs ys=>
  rcases kvals xs.toList with h0 | ⟨v0,h0,g0⟩
  ·simp[opA,h0] at q
  rcases kvals ys.toList with h1 | ⟨v1,h1,g1⟩
  ·simp[opA,h0,h1] at q
  simp only[opA,h0,h1] at q;simp only[opA,g0,g1];exact q
 | makeSlice t x y=>
  rcases key x with h0 | ⟨v0,h0,g0⟩
  ·simp[opA,h0] at q
  rcases key y with h1 | ⟨v1,h1,g1⟩
  ·simp[opA,h0,h1] at q
  simp only[opA,h0,h1] at q;simp only[opA,g0,g1];exact q
 | slice t x lo hi mx=>
  rcases key x with h0 | ⟨v0,h0,g0⟩
  ·simp[opA,h0] at q
  rcases kopt lo with h1 | ⟨v1,h1,g1⟩
  ·simp[opA,h0,h1] at q
  rcases kopt hi with h2 | ⟨v2,h2,g2⟩
  ·simp[opA,h0,h1,h2] at q
  rcases kopt mx with h3 | ⟨v3,h3,g3⟩
  ·simp[opA,h0,h1,h2,h3] at q
  simp only[opA,h0,h1,h2,h3] at q;simp only[opA,g0,g1,g2,g3];exact q
 | fieldAddr t x f=>
  rcases key x with h0 | ⟨v0,h0,g0⟩
  ·simp[opA,h0] at q
  simp only[opA,h0] at q;simp only[opA,g0];exact q
 | field t x f=>
  rcases key x with h0 | ⟨v0,h0,g0⟩
  ·simp[opA,h0] at q
  simp only[opA,h0] at q;simp only[opA,g0];exact q
 | indexAddr t x i=>
  rcases key x with h0 | ⟨v0,h0,g0⟩
  ·simp[opA,h0] at q
  rcases key i with h1 | ⟨v1,h1,g1⟩
  ·simp[opA,h0,h1] at q
  simp only[opA,h0,h1] at q;simp only[opA,g0,g1];exact q
 | index t x i=>
  rcases key x with h0 | ⟨v0,h0,g0⟩
  ·simp[opA,h0] at q
  rcases key i with h1 | ⟨v1,h1,g1⟩
  ·simp[opA,h0,h1] at q
  simp only[opA,h0,h1] at q;simp only[opA,g0,g1];exact q
 | lookup t x i ok=>
  rcases key x with h0 | ⟨v0,h0,g0⟩
  ·simp[opA,h0] at q
  rcases key i with h1 | ⟨v1,h1,g1⟩
  ·simp[opA,h0,h1] at q
  simp only[opA,h0,h1] at q;simp only[opA,g0,g1];exact q
 | mapUpdate t x y z=>
  rcases key x with h0 | ⟨v0,h0,g0⟩
  ·simp[opA,h0] at q
  rcases key y with h1 | ⟨v1,h1,g1⟩
  ·simp[opA,h0,h1] at q
  rcases key z with h2 | ⟨v2,h2,g2⟩
  ·simp[opA,h0,h1,h2] at q
  simp only[opA,h0,h1,h2] at q;simp only[opA,g0,g1,g2];exact q
 | mapEntry t x y=>
  rcases key x with h0 | ⟨v0,h0,g0⟩
  ·simp[opA,h0] at q
  rcases key y with h1 | ⟨v1,h1,g1⟩
  ·simp[opA,h0,h1] at q
  simp only[opA,h0,h1] at q;simp only[opA,g0,g1];exact q
 | entryStore t x y z=>
  rcases key x with h0 | ⟨v0,h0,g0⟩
  ·simp[opA,h0] at q
  rcases key y with h1 | ⟨v1,h1,g1⟩
  ·simp[opA,h0,h1] at q
  rcases key z with h2 | ⟨v2,h2,g2⟩
  ·simp[opA,h0,h1,h2] at q
  simp only[opA,h0,h1,h2] at q;simp only[opA,g0,g1,g2];exact q
 | insert t x y z=>
  rcases key x with h0 | ⟨v0,h0,g0⟩
  ·simp[opA,h0] at q
  rcases key y with h1 | ⟨v1,h1,g1⟩
  ·simp[opA,h0,h1] at q
  rcases key z with h2 | ⟨v2,h2,g2⟩
  ·simp[opA,h0,h1,h2] at q
  simp only[opA,h0,h1,h2] at q;simp only[opA,g0,g1,g2];exact q
 | typeAssert x xt t b=>
  rcases key x with h0 | ⟨v0,h0,g0⟩
  ·simp[opA,h0] at q
  simp only[opA,h0] at q;simp only[opA,g0];exact q
 | extract x i=>
  rcases key x with h0 | ⟨v0,h0,g0⟩
  ·simp[opA,h0] at q
  simp only[opA,h0] at q;simp only[opA,g0];exact q
 | _=>exact q
mutual
theorem sameV_refl:∀(a:Value),sameV a a=true
 | .bool a=>by simp[sameV]
 | .int k a=>by simp[sameV]
 | .float k a=>by simp[sameV]
 | .complex k a c=>by simp[sameV]
 | .string a=>by simp[sameV]
 | .pointer a=>by simp[sameV]
 | .slice a n c=>by simp[sameV]
 | .map a=>by simp[sameV]
 | .chan a=>by simp[sameV]
 | .func f ⟨xs⟩ ⟨ys⟩=>by simp[sameV,sameVs_refl xs,sameVs_refl ys]
 | .nilFunc=>rfl
 | .iface t v=>by simp[sameV,sameV_refl v]
 | .nilIface=>rfl
 | .agg ⟨xs⟩=>by simp only[sameV];exact sameVs_refl xs
 | .tuple ⟨xs⟩=>by simp only[sameV];exact sameVs_refl xs
theorem sameVs_refl:∀(a:List Value),sameVs a a=true
 | []=>rfl
 | x::xs=>by simp only[sameVs,sameV_refl x,sameVs_refl xs];rfl
end
theorem sameEs_refl:∀(a:List (Value×Value)),sameEs a a=true
 | []=>rfl
 | (x,y)::xs=>by simp only[sameEs,sameV_refl x,sameV_refl y,sameEs_refl xs];rfl
theorem sameB_refl:∀(a:Option Blk),sameB a a=true
 | none=>rfl
 | some (.cells r xs)=>by simp only[sameB,sameVs_refl xs];simp
 | some (.map xs)=>by simp only[sameB,sameEs_refl xs]
abbrev Frz:=Nat→Option Blk
abbrev Own:=List (List (Nat×Blk))
def Frz.le(F G:Frz):Prop:=∀i b,F i=some b→G i=some b
theorem Frz.le.refl(F:Frz):Frz.le F F:=fun _ _ q=>q
theorem Frz.le.trans{F G H:Frz}(h1:Frz.le F G)(h2:Frz.le G H):Frz.le F H:=fun i b q=>h2 i b (h1 i b q)
structure StF(F:Frz)(l:List (Nat×Blk))(h:Heap):Prop where
 frz:∀i b,F i=some b→h.get i=some b
 has:∀p∈l,h.get p.1=some p.2
 apart:∀p∈l,F p.1=none
 nodup:(l.map (·.1)).Nodup
 wf:∀i b,h.get i=some b→i<h.next
theorem StF.perm{F:Frz}{l l':List (Nat×Blk)}{h:Heap}(s:StF F l h)(hp:l.Perm l'):StF F l' h:=
 ⟨s.frz,fun p q=>s.has p (hp.mem_iff.2 q),fun p q=>s.apart p (hp.mem_iff.2 q),(hp.map _).nodup_iff.1 s.nodup,s.wf⟩
theorem StF.sub{F:Frz}{l l':List (Nat×Blk)}{h:Heap}(s:StF F l h)(hp:l'.Sublist l):StF F l' h:=
 ⟨s.frz,fun p q=>s.has p (hp.subset q),fun p q=>s.apart p (hp.subset q),s.nodup.sublist (hp.map _),s.wf⟩
def Frz.with(F:Frz)(i:Nat)(b:Blk):Frz:=fun j=>if j=i then some b else F j
section
variable {F:Frz}{l:List (Nat×Blk)}{h:Heap}{i:Nat}{b b':Blk}
theorem StF.ne(s:StF F ((i,b)::l) h):∀q∈l,q.1≠i:=fun q hq e=>by
 have hn:=s.nodup;simp only[List.map_cons,List.nodup_cons] at hn;exact hn.1 (e▸List.mem_map_of_mem hq)
theorem StF.tail(s:StF F ((i,b)::l) h):StF F l h:=s.sub (List.sublist_cons_self _ _)
theorem StF.alloc(s:StF F l h)(b:Blk):StF F ((h.next,b)::l) (h.alloc b)∧(∀p∈l,p.1≠h.next)∧F h.next=none:=by
 have h1:∀p∈l,p.1≠h.next:=fun p q e=>by have:=s.wf _ _ (s.has p q);omega
 have h2:F h.next=none:=by
  cases hf:F h.next with
  | none=>rfl
  | some c=>have:=s.wf _ _ (s.frz _ _ hf);omega
 refine⟨⟨fun i c q=>?_,fun p q=>?_,fun p q=>?_,?_,fun i c q=>?_⟩,h1,h2⟩
 ·rw[Heap.get_alloc];split
  ·rename_i e;rw[e,h2] at q;cases q
  ·exact s.frz i c q
 ·rw[Heap.get_alloc];rcases List.mem_cons.1 q with rfl | q
  ·simp
  ·rw[if_neg (h1 p q)];exact s.has p q
 ·rcases List.mem_cons.1 q with rfl | q
  ·exact h2
  ·exact s.apart p q
 ·simp only[List.map_cons,List.nodup_cons];refine⟨fun hm=>?_,s.nodup⟩;obtain⟨p,hp,e⟩:=List.mem_map.1 hm;exact h1 p hp e
 ·rw[Heap.get_alloc] at q;show i<h.next+1
  split at q
  ·omega
  ·have:=s.wf i c q;omega
theorem StF.put(s:StF F ((i,b)::l) h)(b':Blk):StF F ((i,b')::l) (h.put i (some b')):=by
 have h0:F i=none:=s.apart _ (List.mem_cons_self ..);have hi:i<h.next:=s.wf _ _ (s.has (i,b) (List.mem_cons_self ..))
 refine⟨fun j c q=>?_,fun p q=>?_,fun p q=>?_,s.nodup,fun j c q=>?_⟩
 ·rw[Heap.get_put];split
  ·rename_i e;rw[e,h0] at q;cases q
  ·exact s.frz j c q
 ·rw[Heap.get_put];rcases List.mem_cons.1 q with rfl | q
  ·simp
  ·rw[if_neg (s.ne p q)];exact s.tail.has p q
 ·rcases List.mem_cons.1 q with rfl | q
  ·exact h0
  ·exact s.tail.apart p q
 ·rw[Heap.get_put] at q;show j<h.next
  split at q
  ·rename_i e;rw[e];exact hi
  ·exact s.wf j c q
theorem StF.kill(s:StF F ((i,b)::l) h):StF F l (h.put i none):=by
 have h0:F i=none:=s.apart _ (List.mem_cons_self ..);refine⟨fun j c q=>?_,fun p q=>?_,s.tail.apart,s.tail.nodup,fun j c q=>?_⟩
 ·rw[Heap.get_put];split
  ·rename_i e;rw[e,h0] at q;cases q
  ·exact s.frz j c q
 ·rw[Heap.get_put,if_neg (s.ne p q)];exact s.tail.has p q
 ·rw[Heap.get_put] at q;show j<h.next
  split at q
  ·cases q
  ·exact s.wf j c q
end
theorem perm_pick{α:Type}{l:List α}{p:Nat}{x:α}(h:l[p]?=some x):l.Perm (x::l.eraseIdx p):=by
 obtain⟨hl,hx⟩:=List.getElem?_eq_some_iff.1 h;have h1:l=l.take p++x::l.drop (p+1):=by
  rw[←hx,List.getElem_cons_drop hl,List.take_append_drop]
 rw[List.eraseIdx_eq_take_drop_succ];refine(List.Perm.of_eq h1).trans ?_;exact List.perm_middle
theorem perm_set{α:Type}{l:List α}{p:Nat}{x:α}(y:α)(h:l[p]?=some x):(l.set p y).Perm (y::l.eraseIdx p):=by
 obtain⟨hl,hx⟩:=List.getElem?_eq_some_iff.1 h;have h2:(l.set p y)[p]?=some y:=by simp[hl]
 have h3:=perm_pick h2;have h4:(l.set p y).eraseIdx p=l.eraseIdx p:=by simp[List.eraseIdx_set_eq]
 rw[h4] at h3;exact h3
theorem sub_flatten{α:Type}{l l':List (List α)}(h:l'.Sublist l):l'.flatten.Sublist l.flatten:=by
 induction h with
 | slnil=>exact List.Sublist.refl _
 | cons a _ ih=>simp only[List.flatten_cons];exact ih.trans (List.sublist_append_right _ _)
 | cons_cons a _ ih=>simp only[List.flatten_cons];exact ih.append_left a
def St(F:Frz)(own:Own)(h:Heap):Prop:=StF F own.flatten h
section
variable {F:Frz}{own own':Own}{h:Heap}{i p q:Nat}{b:Blk}{B:List (Nat×Blk)}
theorem St.frz(s:St F own h):∀i b,F i=some b→h.get i=some b:=StF.frz s
theorem St.wf(s:St F own h):∀i b,h.get i=some b→i<h.next:=StF.wf s
theorem St.perm(s:St F own h)(hp:own.Perm own'):St F own' h:=StF.perm s (List.Perm.flatten hp)
theorem St.sub(s:St F own h)(hp:own'.Sublist own):St F own' h:=StF.sub s (sub_flatten hp)
theorem St.has(s:St F own h)(hp:own[p]?=some B)(hq:(i,b)∈B):h.get i=some b:=
 StF.has s (i,b) (List.mem_flatten.2 ⟨B,List.mem_of_getElem? hp,hq⟩)
theorem St.first(s:St F own h)(hp:own[p]?=some B)(hq:B[q]?=some (i,b)):StF F ((i,b)::(B.eraseIdx q++(own.eraseIdx p).flatten)) h:=by
 have h1:StF F (B++(own.eraseIdx p).flatten) h:=by
  have:=StF.perm s (List.Perm.flatten (perm_pick hp));simpa using this
 exact h1.perm ((perm_pick hq).append_right _)
theorem St.back{B':List (Nat×Blk)}(hp:own[p]?=some B){l:List (Nat×Blk)}(s:StF F l h)(hl:l.Perm (B'++(own.eraseIdx p).flatten)):St F (own.set p B') h:=by
 refine StF.perm s (hl.trans ?_);have:=List.Perm.flatten (perm_set B' hp);simpa using this.symm
theorem St.put(s:St F own h)(hp:own[p]?=some B)(hq:B[q]?=some (i,b))(b':Blk):St F (own.set p (B.set q (i,b'))) (h.put i (some b')):=
 St.back hp ((s.first hp hq).put b') ((perm_set (i,b') hq).symm.append_right _)
theorem St.alloc(s:St F own h)(b:Blk):St F ([(h.next,b)]::own) (h.alloc b)∧(∀p∈own.flatten,p.1≠h.next)∧F h.next=none:=StF.alloc s b
end
end Go.Abs
/-
 The logic's rules for operations and regions.
-/
set_option linter.unusedVariables false
namespace Go.Abs
open Go
section
variable {C:Ctx}{n:Nat}
def looksK(ρ:Operand→Option Value):Op→Option (List Nat)
 | .load _ a=>match ρ a with
  | some (.pointer (some a))=>some [a.block]
  | some _=>some []
  | none=>none
 | .store _ a _=>match ρ a with
  | some (.pointer (some a))=>some [a.block]
  | some _=>some []
  | none=>none
 | .slice _ a _ _ _=>match ρ a with
  | some (.pointer (some a))=>some [a.block]
  | some _=>some []
  | none=>none
 | .lookup _ m _ _=>match ρ m with
  | some (.map (some r))=>some [r]
  | some _=>some []
  | none=>none
 | .binOp _ _ x y _=>match ρ x,ρ y with
  | some x,some y=>some ((match x with | .pointer (some a)=>[a.block] | _=>[])++(match y with | .pointer (some a)=>[a.block] | _=>[]))
  | _,_=>none
 | .call c=>match c.callee with
  | .builtin .len=>match c.args.toList with
   | x::_=>match ρ x with
    | some (.map (some r))=>some [r]
    | some _=>some []
    | none=>none
   | _=>some []
  | _=>some []
 | _=>some []
theorem looksK_ok{ρ ρ':Operand→Option Value}(hρ:∀x v,ρ x=some v→ρ' x=some v){op:Op}{l:List Nat}(q:looksK ρ op=some l):looksA ρ' op=l:=by
 have key:∀x,ρ x=none∨∃v,ρ x=some v∧ρ' x=some v:=fun x=>by
  cases h1:ρ x with
  | none=>exact .inl rfl
  | some v=>exact .inr ⟨v,rfl,hρ x v h1⟩
 cases op with
 | load t x=>
  rcases key x with h | ⟨v,h,g⟩
  ·simp[looksK,h] at q
  simp only[looksK,h] at q;simp only[looksA,g];split at q<;>simp_all
 | store t x y=>
  rcases key x with h | ⟨v,h,g⟩
  ·simp[looksK,h] at q
  simp only[looksK,h] at q;simp only[looksA,g];split at q<;>simp_all
 | slice t x lo hi mx=>
  rcases key x with h | ⟨v,h,g⟩
  ·simp[looksK,h] at q
  simp only[looksK,h] at q;simp only[looksA,g];split at q<;>simp_all
 | lookup t x y ok=>
  rcases key x with h | ⟨v,h,g⟩
  ·simp[looksK,h] at q
  simp only[looksK,h] at q;simp only[looksA,g];split at q<;>simp_all
 | binOp op t x y m=>
  rcases key x with h | ⟨v,h,g⟩
  ·simp[looksK,h] at q
  rcases key y with h2 | ⟨v2,h2,g2⟩
  ·simp[looksK,h,h2] at q
  simp only[looksK,h,h2,Option.some.injEq] at q;simp only[looksA,g,g2];rw[←q];congr 1<;>(split<;>simp_all)
 | call c=>
  cases c with
  | mk callee args argTypes=>
  cases callee with
  | builtin b=>
   cases b<;>first | (cases q;rfl) | skip
   cases hx:args.toList with
   | nil=>
    simp only[looksK,hx] at q;cases q;simp only[looksA,hx]
   | cons x xs=>
    simp only[looksK,hx] at q;simp only[looksA,hx];rcases key x with h | ⟨v,h,g⟩
    ·simp[h] at q
    simp only[h] at q;simp only[g];split at q<;>simp_all
  | _=>cases q;rfl
 | _=>cases q;rfl
def looker:Op→Bool
 | .load _ _=>true
 | .store _ _ _=>true
 | .slice _ _ _ _ _=>true
 | .lookup _ _ _ _=>true
 | .binOp _ _ _ _ _=>true
 | .call c=>match c.callee with
  | .builtin .len=>true
  | _=>false
 | _=>false
theorem looksK_none{ρ:Operand→Option Value}{op:Op}{l:List Nat}(hn:looker op=false)(q:looksK ρ op=some l):l=[]:=by
 cases op with
 | call c=>
  cases c with
  | mk callee args argTypes=>
  cases callee with
  | builtin b=>cases b<;>first | (cases hn;done) | (cases q;rfl)
  | _=>cases q;rfl
 | _=>first | (cases hn;done) | (cases q;rfl)
def wantK(ops:List Oper)(k:Kno)(o:Oper):Option Bool:=
 match o.guard with
 | none=>some true
 | some (j,want)=>match (ops[j]?).bind (·.dst) with
  | none=>some false
  | some d=>match lk k d with
   | some (.bool b)=>some (b==want)
   | some (.tuple ⟨[]⟩)=>some false
   | _=>none
theorem wantK_ok{ops:List Oper}{k:Kno}{e:Env}{o:Oper}{b:Bool}(hk:Knows n e k)(q:wantK ops k o=some b):wantA ops e o=some b:=by
 cases hg:o.guard with
 | none=>simp only[wantK,hg] at q;simp only[wantA,hg];exact q
 | some jw=>
  obtain⟨j,want⟩:=jw;cases hd:(ops[j]?).bind (·.dst) with
  | none=>simp only[wantK,hg,hd] at q;simp only[wantA,hg,hd];exact q
  | some d=>
   simp only[wantK,hg,hd] at q;simp only[wantA,hg,hd];cases h:lk k d with
   | none=>simp[h] at q
   | some v=>
    rw[h] at q;rw[hk.get d v h];split at q
    ·rename_i hv;cases hv;exact q
    ·rename_i hv;cases hv;exact q
    ·cases q
class Bend where
 p:Heap→Prop
instance noBend:Bend:=⟨fun _=>False⟩
structure Rec where
 F:Frz
 own:Own
 F':Frz
 own':Own
 looks:List Nat
 [bend:Bend]
inductive Told:List Oper→List Trc→List Rec→Prop
 | nil:Told [] [] []
 | cons {o:Oper} {os:List Oper} {h h1:Heap} {r:Rec} {fl:Heap→Bool} {tr:List Trc} {rs:List Rec}:(looker o.op=false→r.looks=[])→(∀h2,r.bend.p h2→fl h2=true)→St r.F r.own h→St r.F' r.own' h1→Frz.le r.F r.F'→Told os tr rs→
   Told (o::os) ((h,h1,r.looks,fl)::tr) (r::rs)
def WT(C:Ctx)(n:Nat)(ops rest:List Oper)(k:Kno)(F:Frz)(own:Own)(Q:Kno→Frz→Own→List Rec→Prop):Prop:=
 ∀e h,Knows n e k→St F own h→∃e' h' tr k' F' own' rs,(∃m,∀N,m≤N→traceA C (call C N) ops rest e h=some (e',h',tr))∧
  Knows n e' k'∧Frz.le F F'∧St F' own' h'∧Told rest tr rs∧Q k' F' own' rs
variable {ops rest:List Oper}{o:Oper}{k:Kno}{F:Frz}{own:Own}{Q:Kno→Frz→Own→List Rec→Prop}
theorem WT.nil(h:Q k F own []):WT C n ops [] k F own Q:=
 fun e h' hk hs=>⟨e,h',[],k,F,own,[],⟨0,fun _ _=>rfl⟩,hk,Frz.le.refl F,hs,.nil,h⟩
theorem WT.step{l:List Nat}(hl:looksK (evK C k) o.op=some l)
  (hop:∀e h,Knows n e k→St F own h→∃v h' F' own',(∃m,∀N,m≤N→stepA C (call C N) ops o e h=some (e.put o.dst v,h'))∧Frz.le F F'∧St F' own' h'∧
   WT C n ops rest (putK n k o.dst v) F' own' (fun k2 F2 own2 rs=>Q k2 F2 own2 (⟨F,own,F',own',l⟩::rs))):WT C n ops (o::rest) k F own Q:=by
 intro e h hk hs;obtain⟨v,h1,F1,own1,⟨m1,hst⟩,hF1,hs1,hw⟩:=hop e h hk hs;obtain⟨e2,h2,tr,k2,F2,own2,rs,⟨m2,hr⟩,hk2,hF2,hs2,ht,hq⟩:=hw (e.put o.dst v) h1 (hk.put o.dst v) hs1;refine⟨e2,h2,(h,h1,l,flexA C (e.eval C) h o.op)::tr,k2,F2,own2,⟨F,own,F1,own1,l⟩::rs,⟨max m1 m2,fun N hN=>?_⟩,hk2,hF1.trans hF2,hs2,.cons (r:=⟨F,own,F1,own1,l⟩) (fun hn=>looksK_none hn hl) (fun _ hb=>hb.elim) hs hs1 hF1 ht,hq⟩;unfold traceA;rw[hst N (by omega)];simp only[hr N (by omega),looksK_ok hk.eval hl]
theorem WT.stepB{l:List Nat}(bend:Heap→Prop)(hl:looksK (evK C k) o.op=some l)
  (hop:∀e h,Knows n e k→St F own h→∃v,(∃m,∀N,m≤N→stepA C (call C N) ops o e h=some (e.put o.dst v,h))∧(∀h2,bend h2→flexA C (e.eval C) h o.op h2=true)∧
   WT C n ops rest (putK n k o.dst v) F own (fun k2 F2 own2 rs=>Q k2 F2 own2 (@Rec.mk F own F own l ⟨bend⟩::rs))):WT C n ops (o::rest) k F own Q:=by
 intro e h hk hs;obtain⟨v,⟨m1,hst⟩,hb,hw⟩:=hop e h hk hs;obtain⟨e2,h2,tr,k2,F2,own2,rs,⟨m2,hr⟩,hk2,hF2,hs2,ht,hq⟩:=hw (e.put o.dst v) h (hk.put o.dst v) hs;refine⟨e2,h2,(h,h,l,flexA C (e.eval C) h o.op)::tr,k2,F2,own2,@Rec.mk F own F own l ⟨bend⟩::rs,⟨max m1 m2,fun N hN=>?_⟩,hk2,hF2,hs2,.cons (r:=@Rec.mk F own F own l ⟨bend⟩) (fun hn=>looksK_none hn hl) hb hs hs (Frz.le.refl F) ht,hq⟩;unfold traceA;rw[hst N (by omega)];simp only[hr N (by omega),looksK_ok hk.eval hl]
theorem WT.skip{l:List Nat}(hw:wantK ops k o=some false)(hl:looksK (evK C k) o.op=some l)
  (h:WT C n ops rest (putK n k o.dst undefA) F own (fun k2 F2 own2 rs=>Q k2 F2 own2 (⟨F,own,F,own,l⟩::rs))):WT C n ops (o::rest) k F own Q:=by
 refine WT.step hl fun e h' hk hs=>⟨undefA,h',F,own,⟨0,fun N _=>?_⟩,Frz.le.refl F,hs,h⟩;unfold stepA;rw[wantK_ok hk hw]
theorem step_val{e:Env}{h h':Heap}{v:Value}(hk:Knows n e k)(hw:wantK ops k o=some true)(hop:opA C (evK C k) h o.op=some (.val v h'))(cal:Cal) :
  stepA C cal ops o e h=some (e.put o.dst v,h'):=by
 unfold stepA;rw[wantK_ok hk hw];simp only[opA_mono hk.eval hop]
theorem WT.still{v:Value}{l:List Nat}(hw:wantK ops k o=some true)(hl:looksK (evK C k) o.op=some l)
  (hop:∀h,St F own h→opA C (evK C k) h o.op=some (.val v h))
  (h:WT C n ops rest (putK n k o.dst v) F own (fun k2 F2 own2 rs=>Q k2 F2 own2 (⟨F,own,F,own,l⟩::rs))):WT C n ops (o::rest) k F own Q:=
 WT.step hl fun e h' hk hs=>⟨v,h',F,own,⟨0,fun N _=>step_val hk hw (hop h' hs) _⟩,Frz.le.refl F,hs,h⟩
theorem WT.new{mk:Nat→Value}{b:Blk}{l:List Nat}(hw:wantK ops k o=some true)(hl:looksK (evK C k) o.op=some l)
  (hop:∀h,St F own h→opA C (evK C k) h o.op=some (.val (mk h.next) (h.alloc b)))
  (h:∀i,F i=none→WT C n ops rest (putK n k o.dst (mk i)) F ([(i,b)]::own) (fun k2 F2 own2 rs=>Q k2 F2 own2 (⟨F,own,F,[(i,b)]::own,l⟩::rs))):WT C n ops (o::rest) k F own Q:=
 WT.step hl fun e h' hk hs=>
  let ⟨s1,s2,s3⟩:=hs.alloc b
  ⟨mk h'.next,h'.alloc b,F,[(h'.next,b)]::own,⟨0,fun N _=>step_val hk hw (hop h' hs) _⟩,Frz.le.refl F,s1,h h'.next s3⟩
theorem WT.put{v:Value}{i:Nat}{b b':Blk}{l:List Nat}(p q:Nat){B:List (Nat×Blk)}(hp:own[p]?=some B)(hq:B[q]?=some (i,b))(hw:wantK ops k o=some true)(hl:looksK (evK C k) o.op=some l)
  (hop:∀h,St F own h→h.get i=some b→opA C (evK C k) h o.op=some (.val v (h.put i (some b'))))
  (h:WT C n ops rest (putK n k o.dst v) F (own.set p (B.set q (i,b'))) (fun k2 F2 own2 rs=>Q k2 F2 own2 (⟨F,own,F,own.set p (B.set q (i,b')),l⟩::rs))):WT C n ops (o::rest) k F own Q:=
 WT.step hl fun e h' hk hs=>⟨v,h'.put i (some b'),F,own.set p (B.set q (i,b')),⟨0,fun N _=>step_val hk hw (hop h' hs (hs.has hp (List.mem_of_getElem? hq))) _⟩,Frz.le.refl F,hs.put hp hq b',h⟩
theorem WT.move{mk:Nat→Value}{i:Nat}{b b':Blk}{l:List Nat}(p:Nat)(hp:own[p]?=some [(i,b)])(hw:wantK ops k o=some true)(hl:looksK (evK C k) o.op=some l)
  (hop:∀h,St F own h→h.get i=some b→opA C (evK C k) h o.op=some (.val (mk h.next) ((h.put i none).alloc b')))
  (h:∀j,F j=none→WT C n ops rest (putK n k o.dst (mk j)) F (own.set p [(j,b')]) (fun k2 F2 own2 rs=>Q k2 F2 own2 (⟨F,own,F,own.set p [(j,b')],l⟩::rs))) :
  WT C n ops (o::rest) k F own Q:=
 WT.step hl fun e h' hk hs=>
  have s0:StF F (own.eraseIdx p).flatten (h'.put i none):=(hs.first (q:=0) hp rfl).kill
  let ⟨s1,s2,s3⟩:=s0.alloc b'
  ⟨mk h'.next,(h'.put i none).alloc b',F,own.set p [(h'.next,b')],⟨0,fun N _=>step_val hk hw (hop h' hs (hs.has hp (List.mem_cons_self ..))) _⟩,Frz.le.refl F,St.back hp s1 (List.Perm.refl _),h h'.next s3⟩
theorem WT.fill{mk:Nat→Value}{b:Blk}{l:List Nat}(p:Nat)(hp:own[p]?=some [])(hw:wantK ops k o=some true)(hl:looksK (evK C k) o.op=some l)
  (hop:∀h,St F own h→opA C (evK C k) h o.op=some (.val (mk h.next) (h.alloc b)))
  (h:∀i,F i=none→WT C n ops rest (putK n k o.dst (mk i)) F (own.set p [(i,b)]) (fun k2 F2 own2 rs=>Q k2 F2 own2 (⟨F,own,F,own.set p [(i,b)],l⟩::rs))):WT C n ops (o::rest) k F own Q:=
 WT.step hl fun e h' hk hs=>
  have s0:StF F (own.eraseIdx p).flatten h':=by
   have:=StF.perm hs (List.Perm.flatten (perm_pick hp));simpa using this
  let ⟨s1,s2,s3⟩:=s0.alloc b
  ⟨mk h'.next,h'.alloc b,F,own.set p [(h'.next,b)],⟨0,fun N _=>step_val hk hw (hop h' hs) _⟩,Frz.le.refl F,St.back hp s1 (List.Perm.refl _),h h'.next s3⟩
def Spec(C:Ctx)(f:FuncId)(args:List Value)(F:Frz)(oin:Own)(Post:Frz→Value→Own→Prop):Prop:=
 ∀own h,St F (oin++own) h→∃v h' F' oout,Does C f args h v h'∧Frz.le F F'∧St F' (oout++own) h'∧Post F' v oout
theorem Spec.mono{f:FuncId}{args:List Value}{oin:Own}{Post Post':Frz→Value→Own→Prop}(h:Spec C f args F oin Post)(hp:∀F' v oout,Frz.le F F'→Post F' v oout→Post' F' v oout):Spec C f args F oin Post':=
 fun own h0 hs=>let ⟨v,h',F',oout,h1,h2,h3,h4⟩:=h own h0 hs;⟨v,h',F',oout,h1,h2,h3,hp _ _ _ h2 h4⟩
theorem WT.call{f:FuncId}{args:List Value}{oin fr:Own}{Post:Frz→Value→Own→Prop}{l:List Nat}(hw:wantK ops k o=some true)(hl:looksK (evK C k) o.op=some l)
  (hop:∀h,opA C (evK C k) h o.op=some (.call f args)) (spec:Spec C f args F oin Post) (hperm:own.Perm (oin++fr))
  (h:∀F' v oout,Frz.le F F'→Post F' v oout→WT C n ops rest (putK n k o.dst v) F' (oout++fr) (fun k2 F2 own2 rs=>Q k2 F2 own2 (⟨F,own,F',oout++fr,l⟩::rs))) :
  WT C n ops (o::rest) k F own Q:=
 WT.step hl fun e h' hk hs=>by
  obtain⟨v,h1,F1,oout,⟨m,hd⟩,hF,hs1,hp⟩:=spec fr h' (hs.perm hperm);refine⟨v,h1,F1,oout++fr,⟨m,fun N hN=>?_⟩,hF,hs1,h F1 v oout hF hp⟩;unfold stepA;rw[wantK_ok hk hw];simp only[opA_mono hk.eval (hop h'),hd N hN]
theorem WT.weaken{k2:Kno}(hk:SubK k2 k)(h:WT C n ops rest k2 F own Q):WT C n ops rest k F own Q:=fun e h' hk' hs=>h e h' (hk'.weaken hk) hs
def needsOf(masks:List Nat)(i:Nat):List Oper→Nat→List (Nat×Nat)
 | [],_=>[]
 | o::os,j=>bif isStill o.op||i==j||((masks[i]?).getD 0).testBit j||((masks[j]?).getD 0).testBit i then needsOf masks i os (j+1) else (i,j)::needsOf masks i os (j+1)
def needsFrom(masks:List Nat)(ops:List Oper):List Oper→Nat→List (Nat×Nat)
 | [],_=>[]
 | o::os,i=>(bif looker o.op then needsOf masks i ops 0 else [])++needsFrom masks ops os (i+1)
def needs(ops:List Oper):List (Nat×Nat):=needsFrom (masksFrom [] ops) ops ops 0
def Rec.keeps(r:Rec)(x:Nat):Prop:=(∃b,r.F x=some b)∨∃b,(x,b)∈r.own.flatten∧(x,b)∈r.own'.flatten
def recsOk:List (Nat×Nat)→List Rec→Prop
 | [],_=>True
 | (i,j)::ps,rs=>(∀a b,rs[i]?=some a→rs[j]?=some b→(∀x∈a.looks,b.keeps x)∨(i<j∧∀h2,St b.F' b.own' h2→a.bend.p h2))∧recsOk ps rs
theorem keeps_ok{r:Rec}{x:Nat}{h h1:Heap}(s:St r.F r.own h)(s1:St r.F' r.own' h1)(hF:Frz.le r.F r.F')(hk:r.keeps x):h.get x=h1.get x:=by
 rcases hk with ⟨b,hb⟩ | ⟨b,hb,hb'⟩
 ·rw[s.frz x b hb,s1.frz x b (hF x b hb)]
 ·rw[StF.has s (x,b) hb,StF.has s1 (x,b) hb']
theorem recsOk_mem{ps:List (Nat×Nat)}{rs:List Rec}(h:recsOk ps rs):∀i j,(i,j)∈ps→∀a b,rs[i]?=some a→rs[j]?=some b→(∀x∈a.looks,b.keeps x)∨(i<j∧∀h2,St b.F' b.own' h2→a.bend.p h2):=by
 induction ps with
 | nil=>intro i j hm;cases hm
 | cons p ps ih=>
  obtain⟨i0,j0⟩:=p;intro i j hm;rcases List.mem_cons.1 hm with e | hm
  ·cases e;exact h.1
  ·exact ih h.2 i j hm
theorem needsOf_mem(masks:List Nat)(i:Nat):∀(os:List Oper) (j:Nat) (m:Nat) (o:Oper),os[m]?=some o→isStill o.op=false→i≠j+m→((masks[i]?).getD 0).testBit (j+m)=false→((masks[j+m]?).getD 0).testBit i=false→
  (i,j+m)∈needsOf masks i os j
 | [],j,m,o,h,_,_,_,_=>by simp at h
 | o'::os,j,0,o,h,h1,h2,h3,h4=>by
  simp at h;subst h;unfold needsOf;have:(i==j)=false:=by simpa using h2
  simp only[Nat.add_zero] at h3 h4 ⊢;rw[h1,this,h3,h4];simp
 | o'::os,j,m+1,o,h,h1,h2,h3,h4=>by
  have ih:=needsOf_mem masks i os (j+1) m o (by simpa using h) h1 (by omega) (by rw[show j+1+m=j+(m+1) by omega];exact h3) (by rw[show j+1+m=j+(m+1) by omega];exact h4);rw[show j+1+m=j+(m+1) by omega] at ih;unfold needsOf;cases (isStill o'.op||i==j||((masks[i]?).getD 0).testBit j||((masks[j]?).getD 0).testBit i) with
  | true=>exact ih
  | false=>exact List.mem_cons_of_mem _ ih
theorem needsFrom_mem(masks:List Nat)(ops:List Oper):∀(os:List Oper) (i m:Nat) (o:Oper) (p:Nat×Nat),os[m]?=some o→looker o.op=true→p∈needsOf masks (i+m) ops 0→p∈needsFrom masks ops os i
 | [],i,m,o,p,h,_,_=>by simp at h
 | o'::os,i,0,o,p,h,h1,h2=>by
  simp at h;subst h;unfold needsFrom;rw[h1];exact List.mem_append_left _ h2
 | o'::os,i,m+1,o,p,h,h1,h2=>by
  have ih:=needsFrom_mem masks ops os (i+1) m o p (by simpa using h) h1 (by rw[show i+1+m=i+(m+1) by omega];exact h2);unfold needsFrom;exact List.mem_append_right _ ih
theorem Told.at{os:List Oper}{tr:List Trc}{rs:List Rec}(ht:Told os tr rs):∀(i:Nat) (h h1:Heap) (l:List Nat) (fl:Heap→Bool),tr[i]?=some (h,h1,l,fl)→
  ∃(o:Oper) (r:Rec),os[i]?=some o∧rs[i]?=some r∧r.looks=l∧(looker o.op=false→l=[])∧(∀h2,r.bend.p h2→fl h2=true)∧St r.F r.own h∧St r.F' r.own' h1∧Frz.le r.F r.F':=by
 induction ht with
 | nil=>intro i h h1 l fl q;simp at q
 | cons a a2 b c d e ih=>
  rename_i o os h0 h10 r fl0 tr rs;intro i h h1 l fl q;cases i with
  | zero=>simp at q;obtain⟨rfl,rfl,rfl,rfl⟩:=q;exact⟨o,r,rfl,rfl,rfl,a,a2,b,c,d⟩
  | succ i=>exact ih i h h1 l fl (by simpa using q)
theorem clash_ok{ops:List Oper}{tr:List Trc}{rs:List Rec}(ht:Told ops tr rs)(hr:recsOk (needs ops) rs):clashOk ops (masksFrom [] ops) tr=true:=by
 have inner:∀(i:Nat) (look:List Nat) (fl:Heap→Bool) (o:Oper) (r:Rec),ops[i]?=some o→rs[i]?=some r→r.looks=look→(∀h2,r.bend.p h2→fl h2=true)→looker o.op=true→
   ∀(os:List Oper) (tr':List Trc) (j:Nat),(∀m o,os[m]?=some o→ops[j+m]?=some o)→(∀m t,tr'[m]?=some t→tr[j+m]?=some t)→
   clashOk.outer.inner (masksFrom [] ops) fl i look (((masksFrom [] ops)[i]?).getD 0) os tr' j=true:=by
  intro i look fl o r hi hri hl hfl hlo os
  induction os with
  | nil=>intro tr' j _ _;unfold clashOk.outer.inner;rfl
  | cons o2 os ih=>
   intro tr' j hos htr;cases tr' with
   | nil=>unfold clashOk.outer.inner;rfl
   | cons t tr'=>
    obtain⟨h,h1,l2,fl2⟩:=t;unfold clashOk.outer.inner;have ih':=ih tr' (j+1) (fun m o q=>by rw[show j+1+m=j+(m+1) by omega];exact hos (m+1) o (by simpa using q)) (fun m t q=>by rw[show j+1+m=j+(m+1) by omega];exact htr (m+1) t (by simpa using q));simp only[Bool.and_eq_true];refine⟨?_,ih'⟩;have ho2:ops[j]?=some o2:=hos 0 o2 rfl;obtain⟨o3,r2,q1,q2,q3,q4,_,q5,q6,q7⟩:=ht.at j h h1 l2 fl2 (htr 0 _ rfl);cases e1:isStill o2.op with
    | true=>simp
    | false=>
    cases e2:(i==j) with
    | true=>simp
    | false=>
    cases e3:(((masksFrom [] ops)[i]?).getD 0).testBit j with
    | true=>simp
    | false=>
    cases e4:(((masksFrom [] ops)[j]?).getD 0).testBit i with
    | true=>simp
    | false=>
     simp only[Bool.false_or];have hne:i≠0+j:=by simp at e2;omega
     have hm:=needsOf_mem (masksFrom [] ops) i ops 0 j o2 ho2 e1 hne (by rw[Nat.zero_add];exact e3) (by rw[Nat.zero_add];exact e4);rw[Nat.zero_add] at hm;have hm2:=needsFrom_mem (masksFrom [] ops) ops ops 0 i o (i,j) hi hlo (by rw[Nat.zero_add];exact hm);rcases recsOk_mem hr i j hm2 r r2 hri q2 with hk | ⟨hij,hk⟩
     ·have ha:(look.all fun x=>sameB (h.get x) (h1.get x))=true:=by
       rw[List.all_eq_true];intro x hx;rw[keeps_ok q5 q6 q7 (hk x (by rw[hl];exact hx))];exact sameB_refl _
      rw[ha,Bool.true_or]
     ·have hb:(Nat.blt i j&&fl h1)=true:=by rw[hfl h1 (hk h1 q6),Bool.and_true];exact Nat.ble_eq_true_of_le hij
      rw[hb,Bool.or_true]
 have outer:∀(tr':List Trc) (i:Nat),(∀m t,tr'[m]?=some t→tr[i+m]?=some t)→clashOk.outer ops (masksFrom [] ops) tr tr' i=true:=by
  intro tr'
  induction tr' with
  | nil=>intro i _;unfold clashOk.outer;rfl
  | cons t tr' ih=>
   obtain⟨h,h1,look,fl⟩:=t;intro i htr;unfold clashOk.outer;rw[ih (i+1) (fun m t q=>by rw[show i+1+m=i+(m+1) by omega];exact htr (m+1) t (by simpa using q)),Bool.and_true];obtain⟨o,r,q1,q2,q3,q4,q5,_⟩:=ht.at i h h1 look fl (htr 0 _ rfl);cases look with
   | nil=>rfl
   | cons x l=>
    have hlo:looker o.op=true:=by
     cases hh:looker o.op with
     | true=>rfl
     | false=>exact absurd (q4 hh) (by simp)
    exact inner i (x::l) fl o r q1 q2 q3 q5 hlo ops tr 0 (fun m o q=>by rw[Nat.zero_add];exact q) (fun m t q=>by rw[Nat.zero_add];exact q)
 unfold clashOk;exact outer tr 0 (fun m t q=>by rw[Nat.zero_add];exact q)
theorem seq_of_trace{cal:Cal}{ops:List Oper}:∀(rest:List Oper) (e e':Env) (h h':Heap) (tr:List Trc),traceA C cal ops rest e h=some (e',h',tr)→seqA C cal ops rest e h=some (e',h')
 | [],e,e',h,h',tr,q=>by cases q;rfl
 | o::rest,e,e',h,h',tr,q=>by
  unfold traceA at q;unfold seqA;split at q
  ·cases q
  ·rename_i e1 h1 hst;split at q
   ·cases q
   ·rename_i e2 h2 l ht;cases q;exact seq_of_trace rest _ _ _ _ _ ht
def AW(C:Ctx)(n:Nat)(c:Code)(k:Kno)(F:Frz)(own:Own)(Q:Ex→Kno→Frz→Own→Prop):Prop:=
 ∀e h,Knows n e k→St F own h→∃x e' h' k' F' own',Runs C c e h x e' h'∧Knows n e' k'∧Frz.le F F'∧St F' own' h'∧Q x k' F' own'
variable {A:Ex→Kno→Frz→Own→Prop}
theorem AW.region{id:Nat}{ops:Array Oper}{draw:Bool}(h:WT C n ops.toList ops.toList k F own fun k' F' own' rs=>(draw=true→drawOk ops.toList=true∧recsOk (needs ops.toList) rs)∧A .normal k' F' own') :
  AW C n (.region id ops draw) k F own A:=by
 intro e h0 hk hs;obtain⟨e',h',tr,k',F',own',rs,⟨m,hm⟩,hk',hF,hs',ht,hd,hq⟩:=h e h0 hk hs;refine⟨.normal,e',h',k',F',own',⟨m+1,fun N hN=>?_⟩,hk',hF,hs',hq⟩;obtain⟨N,rfl⟩:∃N',N=N'+1:=⟨N-1,by omega⟩;have hm:=hm N (by omega);show codeBody C (exec C N) _ e h0=_;have hr:regionA C (callBody C (exec C N)) ops.toList draw e h0=some (e',h'):=by
  unfold regionA;cases draw with
  | true=>
   simp only[cond_true];have hm:traceA C (callBody C (exec C N)) ops.toList ops.toList e h0=some (e',h',tr):=hm;rw[hm];simp only[(hd rfl).1,clash_ok ht (hd rfl).2,Bool.and_self,cond_true]
  | false=>exact seq_of_trace _ _ _ _ _ _ hm
 simp only[codeBody,hr]
theorem AW.skip(h:A .normal k F own):AW C n .skip k F own A:=fun e h0 hk hs=>
 ⟨.normal,e,h0,k,F,own,⟨1,fun N hN=>by obtain⟨N,rfl⟩:∃N',N=N'+1:=⟨N-1,by omega⟩;rfl⟩,hk,Frz.le.refl F,hs,h⟩
theorem AW.exit{id:Nat}(h:A (.exit id) k F own):AW C n (.exit id) k F own A:=fun e h0 hk hs=>
 ⟨.exit id,e,h0,k,F,own,⟨1,fun N hN=>by obtain⟨N,rfl⟩:∃N',N=N'+1:=⟨N-1,by omega⟩;rfl⟩,hk,Frz.le.refl F,hs,h⟩
theorem AW.ret(h:A .ret k F own):AW C n .ret k F own A:=fun e h0 hk hs=>
 ⟨.ret,e,h0,k,F,own,⟨1,fun N hN=>by obtain⟨N,rfl⟩:∃N',N=N'+1:=⟨N-1,by omega⟩;rfl⟩,hk,Frz.le.refl F,hs,h⟩
def thenQ(B:Kno→Frz→Own→Prop)(A:Ex→Kno→Frz→Own→Prop):Ex→Kno→Frz→Own→Prop
 | .normal,k,F,own=>B k F own
 | x,k,F,own=>A x k F own
theorem AW.seq{a b:Code}(h:AW C n a k F own (thenQ (fun k' F' own'=>AW C n b k' F' own' A) A)):AW C n (.seq a b) k F own A:=by
 intro e h0 hk hs;obtain⟨x,e1,h1,k1,F1,own1,⟨m,hm⟩,hk1,hF1,hs1,hq⟩:=h e h0 hk hs;have other:x≠.normal→A x k1 F1 own1→∃x e' h' k' F' own',Runs C (.seq a b) e h0 x e' h'∧Knows n e' k'∧Frz.le F F'∧St F' own' h'∧A x k' F' own':=by
  intro hx hq;refine⟨x,e1,h1,k1,F1,own1,⟨m+1,fun N hN=>?_⟩,hk1,hF1,hs1,hq⟩;obtain⟨N,rfl⟩:∃N',N=N'+1:=⟨N-1,by omega⟩;show codeBody C (exec C N) _ e h0=_;simp only[codeBody,hm N (by omega)];cases x with
  | normal=>exact absurd rfl hx
  | exit id=>rfl
  | ret=>rfl
 cases x with
 | exit id=>exact other (by simp) hq
 | ret=>exact other (by simp) hq
 | normal=>
  obtain⟨x,e2,h2,k2,F2,own2,⟨m2,hm2⟩,hk2,hF2,hs2,hq2⟩:=hq e1 h1 hk1 hs1;refine⟨x,e2,h2,k2,F2,own2,⟨max m m2+1,fun N hN=>?_⟩,hk2,hF1.trans hF2,hs2,hq2⟩;obtain⟨N,rfl⟩:∃N',N=N'+1:=⟨N-1,by omega⟩;show codeBody C (exec C N) _ e h0=_;simp only[codeBody,hm N (by omega),hm2 N (by omega)]
theorem AW.cond{cc:Operand}{a b:Code}{v:Bool}(hv:evK C k cc=some (.bool v))(h1:v=true→AW C n a k F own A)(h2:v=false→AW C n b k F own A):AW C n (.cond cc a b) k F own A:=by
 intro e h0 hk hs;cases v with
 | true=>
  obtain⟨x,e1,h1,k1,F1,own1,⟨m,hm⟩,r⟩:=h1 rfl e h0 hk hs;refine⟨x,e1,h1,k1,F1,own1,⟨m+1,fun N hN=>?_⟩,r⟩;obtain⟨N,rfl⟩:∃N',N=N'+1:=⟨N-1,by omega⟩;show codeBody C (exec C N) _ e h0=_;simp only[codeBody,hk.eval _ _ hv,hm N (by omega)]
 | false=>
  obtain⟨x,e1,h1,k1,F1,own1,⟨m,hm⟩,r⟩:=h2 rfl e h0 hk hs;refine⟨x,e1,h1,k1,F1,own1,⟨m+1,fun N hN=>?_⟩,r⟩;obtain⟨N,rfl⟩:∃N',N=N'+1:=⟨N-1,by omega⟩;show codeBody C (exec C N) _ e h0=_;simp only[codeBody,hk.eval _ _ hv,hm N (by omega)]
def blockQ(id:Nat)(A:Ex→Kno→Frz→Own→Prop):Ex→Kno→Frz→Own→Prop
 | .exit i,k,F,own=>A (bif i==id then .normal else .exit i) k F own
 | x,k,F,own=>A x k F own
theorem AW.block{id:Nat}{a:Code}(h:AW C n a k F own (blockQ id A)):AW C n (.block id a) k F own A:=by
 intro e h0 hk hs;obtain⟨x,e1,h1,k1,F1,own1,⟨m,hm⟩,hk1,hF1,hs1,hq⟩:=h e h0 hk hs;cases x with
 | exit i=>
  refine⟨_,e1,h1,k1,F1,own1,⟨m+1,fun N hN=>?_⟩,hk1,hF1,hs1,hq⟩;obtain⟨N,rfl⟩:∃N',N=N'+1:=⟨N-1,by omega⟩;show codeBody C (exec C N) _ e h0=_;simp only[codeBody,hm N (by omega)]
 | normal=>
  refine⟨_,e1,h1,k1,F1,own1,⟨m+1,fun N hN=>?_⟩,hk1,hF1,hs1,hq⟩;obtain⟨N,rfl⟩:∃N',N=N'+1:=⟨N-1,by omega⟩;show codeBody C (exec C N) _ e h0=_;simp only[codeBody,hm N (by omega)]
 | ret=>
  refine⟨_,e1,h1,k1,F1,own1,⟨m+1,fun N hN=>?_⟩,hk1,hF1,hs1,hq⟩;obtain⟨N,rfl⟩:∃N',N=N'+1:=⟨N-1,by omega⟩;show codeBody C (exec C N) _ e h0=_;simp only[codeBody,hm N (by omega)]
theorem AW.weaken{c:Code}{k2:Kno}(hk:SubK k2 k)(h:AW C n c k2 F own A):AW C n c k F own A:=fun e h0 hk' hs=>h e h0 (hk'.weaken hk) hs
theorem AW.drop{c:Code}{own2:Own}(ho:own2.Sublist own)(h:AW C n c k F own2 A):AW C n c k F own A:=fun e h0 hk' hs=>h e h0 hk' (hs.sub ho)
theorem AW.mono{c:Code}{A':Ex→Kno→Frz→Own→Prop}(h:AW C n c k F own A)(hA:∀x k' F' own',Frz.le F F'→A x k' F' own'→A' x k' F' own'):AW C n c k F own A':=fun e h0 hk hs=>
 let ⟨x,e2,h2,k2,F2,own2,h3,h4,h5,h6,h7⟩:=h e h0 hk hs
 ⟨x,e2,h2,k2,F2,own2,h3,h4,h5,h6,hA _ _ _ _ h5 h7⟩
theorem AW.loop{ι:Type}(I:ι→Kno→Frz→Own→Prop)(m:ι→Nat){c:Code}
  (step:∀i k F own,I i k F own→AW C n c k F own (thenQ (fun k' F' own'=>∃j k2 own2,m j<m i∧SubK k2 k'∧own2.Sublist own'∧I j k2 F' own2) A)) :
  ∀i k F own,I i k F own→AW C n (.loop c) k F own A:=by
 have main:∀(w:Nat) i k F own,m i<w→I i k F own→AW C n (.loop c) k F own A:=by
  intro w
  induction w with
  | zero=>intro i k F own h;omega
  | succ w ih=>
   intro i k F own hw hi e h0 hk hs;obtain⟨x,e1,h1,k1,F1,own1,⟨m1,hm1⟩,hk1,hF1,hs1,hq⟩:=step i k F own hi e h0 hk hs;have other:x≠.normal→A x k1 F1 own1→∃x e' h' k' F' own',Runs C (.loop c) e h0 x e' h'∧Knows n e' k'∧Frz.le F F'∧St F' own' h'∧A x k' F' own':=by
    intro hx hq;refine⟨x,e1,h1,k1,F1,own1,⟨m1+1,fun N hN=>?_⟩,hk1,hF1,hs1,hq⟩;obtain⟨N,rfl⟩:∃N',N=N'+1:=⟨N-1,by omega⟩;show codeBody C (exec C N) _ e h0=_;simp only[codeBody,hm1 N (by omega)];cases x with
    | normal=>exact absurd rfl hx
    | exit id=>rfl
    | ret=>rfl
   cases x with
   | exit id=>exact other (by simp) hq
   | ret=>exact other (by simp) hq
   | normal=>
    obtain⟨j,k2,own2,hj,hsub,hso,hI⟩:=hq;obtain⟨x,e2,h2,k2,F2,own2,⟨m2,hm2⟩,hk2,hF2,hs2,hq2⟩:=ih j k2 F1 own2 (by omega) hI e1 h1 (hk1.weaken hsub) (hs1.sub hso);refine⟨x,e2,h2,k2,F2,own2,⟨max m1 m2+1,fun N hN=>?_⟩,hk2,hF1.trans hF2,hs2,hq2⟩;obtain⟨N,rfl⟩:∃N',N=N'+1:=⟨N-1,by omega⟩;show codeBody C (exec C N) _ e h0=_;simp only[codeBody,hm1 N (by omega),hm2 N (by omega)]
 exact fun i k F own hi=>main (m i+1) i k F own (Nat.lt_succ_self _) hi
def argsK:List Value→Nat→Kno
 | [],_=>[]
 | v::vs,i=>(i,v)::argsK vs (i+1)
theorem argsK_get:∀(vs:List Value) (i j:Nat) (v:Value),lk (argsK vs i) j=some v→i≤j∧vs[j-i]?=some v
 | [],i,j,v,q=>by cases q
 | u::vs,i,j,v,q=>by
  simp only[argsK,lk] at q;cases hb:Nat.beq i j with
  | true=>
   rw[hb] at q;have:=Nat.eq_of_beq_eq_true hb;subst this;cases q;exact⟨Nat.le_refl _,by simp⟩
  | false=>
   rw[hb] at q;obtain⟨h1,h2⟩:=argsK_get vs (i+1) j v q;refine⟨by omega,?_⟩;rw[show j-i=(j-(i+1))+1 by omega,List.getElem?_cons_succ];exact h2
theorem Knows.args(m:Nat)(vs:List Value):Knows (max m vs.length) (envOf m vs) (argsK vs 0):=by
 refine⟨rfl,fun i v q=>?_⟩;obtain⟨_,h2⟩:=argsK_get vs 0 i v q;simp only[Nat.sub_zero] at h2;show (envOf.go vs 0 .e).get i=some v;rw[envOf_get];have:i<vs.length:=(List.getElem?_eq_some_iff.1 h2).1;rw[if_pos (by omega)];simpa using h2
def resultK(C:Ctx)(k:Kno)(own:Own)(r:ResultVar)(v:Value):Prop:=
 match r with
 | .tmp t=>lk k t=some v
 | .cell a t=>∃p,lk k a=some p∧∀F h,St F own h→loadA C h t p=some v
def resultsK(C:Ctx)(k:Kno)(own:Own):List ResultVar→List Value→Prop
 | [],vs=>vs=[]
 | r::rs,vs=>∃v us,resultK C k own r v∧resultsK C k own rs us∧vs=v::us
theorem resultsK_ok{e:Env}{h:Heap}(hk:Knows n e k)(hs:St F own h):∀(rs:List ResultVar) (vs:List Value),resultsK C k own rs vs→resultsA C e h rs=some vs
 | [],vs,q=>by cases q;rfl
 | r::rs,vs,q=>by
  obtain⟨v,us,h1,h2,rfl⟩:=q;unfold resultsA;rw[resultsK_ok hk hs rs us h2];have:resultA C e h r=some v:=by
   cases r with
   | tmp t=>exact hk.get t v h1
   | cell a t=>
    obtain⟨p,h3,h4⟩:=h1;simp only[resultA,hk.get a p h3,h4 F h hs]
  rw[this]
def endQ(C:Ctx)(fn:Func)(own:Own)(Post:Frz→Value→Own→Prop):Ex→Kno→Frz→Own→Prop
 | .exit _,_,_,_=>False
 | _,k,F,own'=>∃vs oout,resultsK C k own' fn.results.toList vs∧(oout++own).Sublist own'∧Post F (tupleA vs) oout
theorem Spec.of{f:FuncId}{fn:Func}{c:Code}{args:List Value}{oin:Own}{Post:Frz→Value→Own→Prop}(hnf:C.fact f=none)(hf:C.func f=some fn)(hb:fn.body=some c)
  (h:∀own,AW C (max fn.ntmps args.length) c (argsK args 0) F (oin++own) (endQ C fn own Post)):Spec C f args F oin Post:=by
 intro own h0 hs;obtain⟨x,e1,h1,k1,F1,own1,⟨m,hm⟩,hk1,hF1,hs1,hq⟩:=h own (envOf fn.ntmps args) h0 (Knows.args _ _) hs;have fin:(∃vs oout,resultsK C k1 own1 fn.results.toList vs∧(oout++own).Sublist own1∧Post F1 (tupleA vs) oout)→(∀id,x≠.exit id)→∃v h' F' oout,Does C f args h0 v h'∧Frz.le F F'∧St F' (oout++own) h'∧Post F' v oout:=by
  rintro⟨vs,oout,h2,h3,h4⟩ hne;refine⟨tupleA vs,h1,F1,oout,⟨m,fun N hN=>?_⟩,hF1,hs1.sub h3,h4⟩;unfold call callBody;simp only[hnf,hf,hb,hm N hN];have hrs:=resultsK_ok hk1 hs1 _ _ h2;cases x with
  | exit id=>exact absurd rfl (hne id)
  | normal=>simp only[hrs]
  | ret=>simp only[hrs]
 cases x with
 | exit id=>exact False.elim hq
 | normal=>exact fin hq (by simp)
 | ret=>exact fin hq (by simp)
end
end Go.Abs
/-
 The logic's rules,in the forms that a walk uses.
-/
set_option linter.unusedVariables false
namespace Go.Abs
open Go
section
variable {C:Ctx}{n:Nat}{k:Kno}{F:Frz}{own:Own}{A:Ex→Kno→Frz→Own→Prop}{ops rest:List Oper}{o:Oper}{Q:Kno→Frz→Own→List Rec→Prop}
theorem AW.reg{id:Nat}{ops:Array Oper}(h:WT C n ops.toList ops.toList k F own fun k' F' own' _=>A .normal k' F' own'):AW C n (.region id ops false) k F own A:=by
 refine AW.region fun e h0 hk hs=>?_;obtain⟨e',h',tr,k',F',own',rs,h1,h2,h3,h4,h5,h6⟩:=h e h0 hk hs;exact⟨e',h',tr,k',F',own',rs,h1,h2,h3,h4,h5,⟨(by intro h;cases h),h6⟩⟩
theorem AW.draw{id:Nat}{ops:Array Oper}{ps:List (Nat×Nat)}(hd:drawOk ops.toList=true)(hn:needs ops.toList=ps)
  (h:WT C n ops.toList ops.toList k F own fun k' F' own' rs=>recsOk ps rs∧A .normal k' F' own'):AW C n (.region id ops true) k F own A:=by
 refine AW.region fun e h0 hk hs=>?_;obtain⟨e',h',tr,k',F',own',rs,h1,h2,h3,h4,h5,h6,h7⟩:=h e h0 hk hs;exact⟨e',h',tr,k',F',own',rs,h1,h2,h3,h4,h5,fun _=>⟨hd,by rw[hn];exact h6⟩,h7⟩
theorem Spec.fn{f:FuncId}{fn:Func}{c:Code}{args:List Value}{oin:Own}{Post:Frz→Value→Own→Prop}(hf:C.func f=some fn)(hb:fn.body=some c)(hn:max fn.ntmps args.length=n)
  (h:∀own,AW C n c (argsK args 0) F (oin++own) (endQ C fn own Post)) (hnf:C.fact f=none:=by rfl):Spec C f args F oin Post:=by subst hn;exact Spec.of hnf hf hb h
theorem wrap64{x:Int}(h:-9223372036854775808≤x∧x≤9223372036854775807):IntKind.i64.wrap x=x:=by
 have hs:IntKind.i64.signed=true:=rfl;have hbits:IntKind.i64.bits=64:=rfl;simp only[IntKind.wrap,hs,hbits,Bool.true_and,decide_eq_true_eq];have:(2:Int) ^ 64=18446744073709551616:=rfl;rw[this];have:(2:Int) ^ (64-1)=9223372036854775808:=rfl;rw[this];split<;>omega
theorem WT.bin{op:BinOp}{t ty:TypeId}{xo yo:Operand}{kd:IntKind}{x y:Int}{r:Value}(hop:o.op=.binOp op t xo yo ty)(hw:wantK ops k o=some true)(hx:evK C k xo=some (.int kd x))(hy:evK C k yo=some (.int kd y))
  (hr:binA C ⟨0,.e⟩ op t xo yo (.int kd x) (.int kd y)=some r) (hsh:op≠.shl∧op≠.shr)
  (h:WT C n ops rest (putK n k o.dst r) F own (fun k2 F2 own2 rs=>Q k2 F2 own2 (⟨F,own,F,own,[]⟩::rs))):WT C n ops (o::rest) k F own Q:=by
 refine WT.still hw (by rw[hop];simp only[looksK,hx,hy];rfl) (fun h0 _=>?_) h;rw[hop];simp only[opA,hx,hy];have:binA C h0 op t xo yo (.int kd x) (.int kd y)=some r:=by
  rw[←hr];cases op<;>first | rfl | exact absurd rfl hsh.1 | exact absurd rfl hsh.2
 rw[this];rfl
theorem WT.add{t ty:TypeId}{xo yo:Operand}{x y:Int}(hop:o.op=.binOp .add t xo yo ty)(hw:wantK ops k o=some true)(hx:evK C k xo=some (.int .i64 x))(hy:evK C k yo=some (.int .i64 y))
  (hr:-9223372036854775808≤x+y∧x+y≤9223372036854775807)
  (h:WT C n ops rest (putK n k o.dst (.int .i64 (x+y))) F own (fun k2 F2 own2 rs=>Q k2 F2 own2 (⟨F,own,F,own,[]⟩::rs))):WT C n ops (o::rest) k F own Q:=
 WT.bin hop hw hx hy (by show (if IntKind.i64=IntKind.i64 then some (Value.int .i64 (IntKind.i64.wrap (x+y))) else none)=_;rw[if_pos rfl,wrap64 hr]) ⟨by simp,by simp⟩ h
theorem WT.sub{t ty:TypeId}{xo yo:Operand}{x y:Int}(hop:o.op=.binOp .sub t xo yo ty)(hw:wantK ops k o=some true)(hx:evK C k xo=some (.int .i64 x))(hy:evK C k yo=some (.int .i64 y))
  (hr:-9223372036854775808≤x-y∧x-y≤9223372036854775807)
  (h:WT C n ops rest (putK n k o.dst (.int .i64 (x-y))) F own (fun k2 F2 own2 rs=>Q k2 F2 own2 (⟨F,own,F,own,[]⟩::rs))):WT C n ops (o::rest) k F own Q:=
 WT.bin hop hw hx hy (by show (if IntKind.i64=IntKind.i64 then some (Value.int .i64 (IntKind.i64.wrap (x-y))) else none)=_;rw[if_pos rfl,wrap64 hr]) ⟨by simp,by simp⟩ h
theorem WT.mul{t ty:TypeId}{xo yo:Operand}{x y:Int}(hop:o.op=.binOp .mul t xo yo ty)(hw:wantK ops k o=some true)(hx:evK C k xo=some (.int .i64 x))(hy:evK C k yo=some (.int .i64 y))
  (hr:-9223372036854775808≤x*y∧x*y≤9223372036854775807)
  (h:WT C n ops rest (putK n k o.dst (.int .i64 (x*y))) F own (fun k2 F2 own2 rs=>Q k2 F2 own2 (⟨F,own,F,own,[]⟩::rs))):WT C n ops (o::rest) k F own Q:=
 WT.bin hop hw hx hy (by show (if IntKind.i64=IntKind.i64 then some (Value.int .i64 (IntKind.i64.wrap (x*y))) else none)=_;rw[if_pos rfl,wrap64 hr]) ⟨by simp,by simp⟩ h
theorem WT.rem{t ty:TypeId}{xo yo:Operand}{x y:Int}(hop:o.op=.binOp .rem t xo yo ty)(hw:wantK ops k o=some true)(hx:evK C k xo=some (.int .i64 x))(hy:evK C k yo=some (.int .i64 y))
  (hr:y≠0)
  (h:WT C n ops rest (putK n k o.dst (.int .i64 (x.tmod y))) F own (fun k2 F2 own2 rs=>Q k2 F2 own2 (⟨F,own,F,own,[]⟩::rs))):WT C n ops (o::rest) k F own Q:=
 WT.bin hop hw hx hy (by show (if IntKind.i64=IntKind.i64 then (if y=0 then none else some (Value.int .i64 (x.tmod y))) else none)=_;rw[if_pos rfl,if_neg hr]) ⟨by simp,by simp⟩ h
theorem loadA_cells{h:Heap}{t:TypeId}{i off:Nat}{ro:Bool}{cs:List Value}{v:Value}(hb:h.get i=some (.cells ro cs))(hr:readA C cs t off=some v):loadA C h t (.pointer (some ⟨i,off,none⟩))=some v:=by
 simp only[loadA,cellsAt,hb,hr]
theorem WT.load{t:TypeId}{a:Operand}{i off:Nat}{v:Value}(hop:o.op=.load t a)(hw:wantK ops k o=some true)(ha:evK C k a=some (.pointer (some ⟨i,off,none⟩)))
  (hr:∀h,St F own h→loadA C h t (.pointer (some ⟨i,off,none⟩))=some v)
  (h:WT C n ops rest (putK n k o.dst v) F own (fun k2 F2 own2 rs=>Q k2 F2 own2 (⟨F,own,F,own,[i]⟩::rs))):WT C n ops (o::rest) k F own Q:=by
 refine WT.still hw (by rw[hop];simp only[looksK,ha]) (fun h0 hs=>?_) h;rw[hop];simp only[opA,ha,hr h0 hs];rfl
theorem WT.loadOwn(p:Nat){t:TypeId}{a:Operand}{i off:Nat}{ro:Bool}{cs:List Value}{v:Value}(hop:o.op=.load t a)(hw:wantK ops k o=some true)(ha:evK C k a=some (.pointer (some ⟨i,off,none⟩)))
  {B:List (Nat×Blk)} (hp:own[p]?=some B) (hq:(i,Blk.cells ro cs)∈B) (hr:readA C cs t off=some v)
  (h:WT C n ops rest (putK n k o.dst v) F own (fun k2 F2 own2 rs=>Q k2 F2 own2 (⟨F,own,F,own,[i]⟩::rs))):WT C n ops (o::rest) k F own Q:=
 WT.load hop hw ha (fun h0 hs=>loadA_cells (hs.has hp hq) hr) h
theorem WT.loadFrz{t:TypeId}{a:Operand}{i off:Nat}{ro:Bool}{cs:List Value}{v:Value}(hop:o.op=.load t a)(hw:wantK ops k o=some true)(ha:evK C k a=some (.pointer (some ⟨i,off,none⟩)))
  (hp:F i=some (.cells ro cs)) (hr:readA C cs t off=some v)
  (h:WT C n ops rest (putK n k o.dst v) F own (fun k2 F2 own2 rs=>Q k2 F2 own2 (⟨F,own,F,own,[i]⟩::rs))):WT C n ops (o::rest) k F own Q:=
 WT.load hop hw ha (fun h0 hs=>loadA_cells (hs.frz _ _ hp) hr) h
theorem WT.store(p q:Nat){B:List (Nat×Blk)}{t:TypeId}{a x:Operand}{i off m:Nat}{cs:List Value}{v:Value}(hop:o.op=.store t a x)(hw:wantK ops k o=some true)(ha:evK C k a=some (.pointer (some ⟨i,off,none⟩)))
  (hx:evK C k x=some v) (hp:own[p]?=some B) (hq:B[q]?=some (i,.cells false cs)) (hm:C.size t=some m) (hl:v.cells.toList.length=m) (ho:v.cells.toList.all one=true) (hle:off+m≤cs.length)
  (h:WT C n ops rest (putK n k o.dst undefA) F (own.set p (B.set q (i,.cells false (spliceL cs off v.cells.toList)))) (fun k2 F2 own2 rs=>Q k2 F2 own2 (⟨F,own,F,own.set p (B.set q (i,.cells false (spliceL cs off v.cells.toList))),[i]⟩::rs))) :
  WT C n ops (o::rest) k F own Q:=by
 refine WT.put p q hp hq hw (by rw[hop];simp only[looksK,ha]) (fun h0 hs hb=>?_) h;rw[hop];have hle':Nat.ble (off+m) cs.length=true:=Nat.ble_eq_true_of_le hle;have hl':(v.cells.toList.length==m)=true:=by simpa using hl
 simp only[opA,ha,hx,storeA,hb,hm,hl',ho,hle',Bool.and_self,cond_true];rfl
theorem WT.alloc{t:TypeId}{z:Value}(hop:o.op=.alloc t)(hw:wantK ops k o=some true)(hz:C.zero t=some z)
  (h:∀i,F i=none→WT C n ops rest (putK n k o.dst (.pointer (some ⟨i,0,none⟩))) F ([(i,.cells false z.cells.toList)]::own) (fun k2 F2 own2 rs=>Q k2 F2 own2 (⟨F,own,F,[(i,.cells false z.cells.toList)]::own,[]⟩::rs))) :
  WT C n ops (o::rest) k F own Q:=by
 refine WT.new (mk:=fun i=>.pointer (some ⟨i,0,none⟩)) hw (by rw[hop];rfl) (fun h0 hs=>?_) h;rw[hop];simp only[opA,hz]
theorem WT.box{t:TypeId}{x:Operand}{v:Value}(hop:o.op=.box t x)(hw:wantK ops k o=some true)(hx:evK C k x=some v)
  (h:∀i,F i=none→WT C n ops rest (putK n k o.dst (.pointer (some ⟨i,0,none⟩))) F ([(i,.cells false v.cells.toList)]::own) (fun k2 F2 own2 rs=>Q k2 F2 own2 (⟨F,own,F,[(i,.cells false v.cells.toList)]::own,[]⟩::rs))) :
  WT C n ops (o::rest) k F own Q:=by
 refine WT.new (mk:=fun i=>.pointer (some ⟨i,0,none⟩)) hw (by rw[hop];rfl) (fun h0 hs=>?_) h;rw[hop];simp only[opA,hx]
end
end Go.Abs
/-
 A table of the program's types,and the operations that need no more than it.
-/
set_option linter.unusedVariables false
namespace Go.Abs
open Go
inductive Shape where
 | word
 | bool
 | int (k:IntKind)
 | string
 | slice (e:Nat)
 | struct (fs:List (Nat×Nat))
 | array (n e:Nat)
 | map (k e:Nat)
 | pointer (e:Nat)
structure Row where
 t:Nat
 d:Shape
 size:Nat
 bytes:Nat
 zero:Value
def shapeOk(d:Shape)(u:TypeDesc):Bool:=
 match d,u with
 | .word,.struct _=>false
 | .word,.array _ _=>false
 | .word,.slice _=>false
 | .word,.interface _=>false
 | .word,.string=>false
 | .word,.map _ _=>false
 | .word,_=>true
 | .bool,.bool=>true
 | .int k,.int k'=>decide (k=k')
 | .string,.string=>true
 | .slice e,.slice e'=>Nat.beq e e'
 | .struct fs,.struct fs'=>fs==fs'.toList.map fun f=>(f.offset,f.type)
 | .array n e,.array n' e'=>Nat.beq n n'&&Nat.beq e e'
 | .map k e,.map k' e'=>Nat.beq k k'&&Nat.beq e e'
 | .pointer e,.pointer e'=>Nat.beq e e'
 | _,_=>false
def rowOk(C:Ctx)(r:Row):Bool:=
 (match C.size r.t with | some n=>Nat.beq n r.size | none=>false)&&(match C.bytes r.t with | some n=>Nat.beq n r.bytes | none=>false) &&
 (match C.zero r.t with | some z=>sameV z r.zero | none=>false)&&(match C.und r.t with | some d=>shapeOk r.d d | none=>false)
inductive RT where
 | e
 | n (l:RT) (r:Row) (g:RT)
def rowsOk(C:Ctx):RT→Bool
 | .e=>true
 | .n l r g=>rowsOk C l&&rowOk C r&&rowsOk C g
def rowOf:RT→Nat→Option Row
 | .e,_=>none
 | .n l r g,t=>bif Nat.beq r.t t then some r else bif Nat.blt t r.t then rowOf l t else rowOf g t
theorem rowOf_ok{C:Ctx}{T:RT}(h:rowsOk C T=true){t:Nat}{r:Row}(q:rowOf T t=some r):r.t=t∧C.size t=some r.size∧C.bytes t=some r.bytes∧C.zero t=some r.zero∧∃d,C.und t=some d∧shapeOk r.d d=true:=by
 induction T with
 | e=>cases q
 | n l r0 g ihl ihg=>
  simp only[rowsOk,Bool.and_eq_true] at h;simp only[rowOf] at q;cases hb:Nat.beq r0.t t with
  | false=>
   rw[hb] at q;simp only[cond_false] at q;cases hc:Nat.blt t r0.t with
   | false=>rw[hc] at q;exact ihg h.2 q
   | true=>rw[hc] at q;exact ihl h.1.1 q
  | true=>
   rw[hb] at q;cases q;have:=Nat.eq_of_beq_eq_true hb;subst this;obtain⟨⟨_,h1⟩,_⟩:=h;simp only[rowOk,Bool.and_eq_true] at h1;obtain⟨⟨⟨h1,h2⟩,h3⟩,h4⟩:=h1;refine⟨rfl,?_,?_,?_,?_⟩
   ·split at h1
    ·rename_i n hn;rw[hn,Nat.eq_of_beq_eq_true h1]
    ·cases h1
   ·split at h2
    ·rename_i n hn;rw[hn,Nat.eq_of_beq_eq_true h2]
    ·cases h2
   ·split at h3
    ·rename_i n hn;rw[hn,sameV_eq h3]
    ·cases h3
   ·split at h4
    ·rename_i d hd;exact⟨d,hd,h4⟩
    ·cases h4
def sizeT(T:RT)(t:Nat):Option Nat:=match rowOf T t with | some r=>some r.size | none=>none
def zeroT(T:RT)(t:Nat):Option Value:=match rowOf T t with | some r=>some r.zero | none=>none
def Shape.agg:Shape→Bool
 | .struct _=>true
 | .array _ _=>true
 | _=>false
theorem shape_agg{d:Shape}{u:TypeDesc}(h:shapeOk d u=true):isAggD u=d.agg:=by
 cases d<;>cases u<;>first | rfl | cases h
def takeN:Nat→List Value→Option (List Value)
 | 0,_=>some []
 | _+1,[]=>none
 | n+1,c::cs=>match takeN n cs with
  | some l=>some (c::l)
  | none=>none
def partN:Nat→List Value→Nat→Option (List Value)
 | 0,cs,n=>takeN n cs
 | _+1,[],_=>none
 | off+1,_::cs,n=>partN off cs n
theorem takeN_ok:∀(n:Nat) (cs l:List Value),takeN n cs=some l→cs.take n=l∧l.length=n
 | 0,cs,l,q=>by cases q;simp
 | n+1,[],l,q=>by cases q
 | n+1,c::cs,l,q=>by
  unfold takeN at q;split at q
  ·rename_i l2 h;cases q;obtain⟨h1,h2⟩:=takeN_ok n cs l2 h;simp[h1,h2]
  ·cases q
theorem partN_ok:∀(off:Nat) (cs:List Value) (n:Nat) (l:List Value),partN off cs n=some l→partL cs off n=some l
 | 0,cs,n,l,q=>by
  obtain⟨h1,h2⟩:=takeN_ok n cs l q;unfold partL;simp[h1,h2]
 | off+1,[],_,_,q=>by cases q
 | off+1,c::cs,n,l,q=>by
  have:=partN_ok off cs n l q;unfold partL at this ⊢;simpa using this
def readT(T:RT)(cs:List Value)(t:Nat)(off:Nat):Option Value:=
 match rowOf T t with
 | some r=>bif r.d.agg then (match partN off cs r.size with | some l=>some (.agg ⟨l⟩) | none=>none) else cs[off]?
 | none=>none
section
variable {C:Ctx}{T:RT}(hT:rowsOk C T=true)
include hT
theorem sizeT_ok{t m:Nat}(q:sizeT T t=some m):C.size t=some m:=by
 unfold sizeT at q;split at q
 ·rename_i r hr;cases q;exact(rowOf_ok hT hr).2.1
 ·cases q
theorem zeroT_ok{t:Nat}{z:Value}(q:zeroT T t=some z):C.zero t=some z:=by
 unfold zeroT at q;split at q
 ·rename_i r hr;cases q;exact(rowOf_ok hT hr).2.2.2.1
 ·cases q
theorem readT_ok{cs:List Value}{t off:Nat}{v:Value}(q:readT T cs t off=some v):readA C cs t off=some v:=by
 unfold readT at q;split at q
 ·rename_i r hr;obtain⟨_,h1,_,_,d,h4,h5⟩:=rowOf_ok hT hr;unfold readA;rw[h4];simp only[shape_agg h5,h1];cases hd:r.d.agg with
  | true=>
   rw[hd] at q;simp only[cond_true] at q ⊢;split at q
   ·rename_i l hl;rw[partN_ok _ _ _ _ hl];exact q
   ·cases q
  | false=>rw[hd] at q;exact q
 ·cases q
theorem und_slice{t e:Nat}{r:Row}(q:rowOf T t=some r)(hd:r.d=.slice e):C.und t=some (.slice e):=by
 obtain⟨_,_,_,_,d,h4,h5⟩:=rowOf_ok hT q;rw[hd] at h5;cases d<;>first | (cases h5;done) | skip
 rw[h4,Nat.eq_of_beq_eq_true h5]
theorem und_struct{t:Nat}{r:Row}{fs:List (Nat×Nat)}(q:rowOf T t=some r)(hd:r.d=.struct fs):∃fs',C.und t=some (.struct fs')∧fs=fs'.toList.map fun f=>(f.offset,f.type):=by
 obtain⟨_,_,_,_,d,h4,h5⟩:=rowOf_ok hT q;rw[hd] at h5;cases d<;>first | (cases h5;done) | skip
 exact⟨_,h4,by simpa [shapeOk] using h5⟩
theorem und_array{t m e:Nat}{r:Row}(q:rowOf T t=some r)(hd:r.d=.array m e):C.und t=some (.array m e):=by
 obtain⟨_,_,_,_,d,h4,h5⟩:=rowOf_ok hT q;rw[hd] at h5;cases d<;>first | (cases h5;done) | skip
 simp only[shapeOk,Bool.and_eq_true] at h5;rw[h4,Nat.eq_of_beq_eq_true h5.1,Nat.eq_of_beq_eq_true h5.2]
theorem und_int{t:Nat}{kd:IntKind}{r:Row}(q:rowOf T t=some r)(hd:r.d=.int kd):C.und t=some (.int kd):=by
 obtain⟨_,_,_,_,d,h4,h5⟩:=rowOf_ok hT q;rw[hd] at h5;cases d<;>first | (cases h5;done) | skip
 rw[h4];simp[shapeOk] at h5;rw[h5]
end
def fieldAddrT(T:RT)(t:Nat)(x:Value)(f:Nat):Option Value:=
 match rowOf T t with
 | some r=>match r.d,x with
  | .struct fs,.pointer (some ⟨b,off,none⟩)=>match fs[f]? with
   | some (fo,ft)=>match sizeT T ft with
    | some m=>bif m==0 then none else some (.pointer (some ⟨b,off+fo,none⟩))
    | none=>none
   | none=>none
  | _,_=>none
 | none=>none
def fieldT(T:RT)(t:Nat)(x:Value)(f:Nat):Option Value:=
 match rowOf T t with
 | some r=>match r.d,x with
  | .struct fs,.agg ⟨cs⟩=>match fs[f]? with
   | some (fo,ft)=>readT T cs ft fo
   | none=>none
  | _,_=>none
 | none=>none
def placesT(T:RT):List (Nat×Nat)→Option (List (Nat×Nat))
 | []=>some []
 | (fo,ft)::fs=>match sizeT T ft,placesT T fs with
  | some n,some r=>some ((fo,n)::r)
  | _,_=>none
def overN:List Value→List Value→Option (List Value)
 | [],cs=>some cs
 | _::_,[]=>none
 | v::vs,_::cs=>match overN vs cs with
  | some l=>some (v::l)
  | none=>none
def spliceN:Nat→List Value→List Value→Option (List Value)
 | 0,cs,vs=>overN vs cs
 | _+1,[],_=>none
 | off+1,c::cs,vs=>match spliceN off cs vs with
  | some l=>some (c::l)
  | none=>none
theorem overN_ok:∀(vs cs l:List Value),overN vs cs=some l→vs++cs.drop vs.length=l∧vs.length≤cs.length
 | [],cs,l,q=>by cases q;simp
 | _::_,[],l,q=>by cases q
 | v::vs,c::cs,l,q=>by
  unfold overN at q;split at q
  ·rename_i l2 h;cases q;obtain⟨h1,h2⟩:=overN_ok vs cs l2 h;simp[h1,h2]
  ·cases q
theorem spliceN_ok:∀(off:Nat) (cs vs l:List Value),spliceN off cs vs=some l→spliceL cs off vs=l∧off+vs.length≤cs.length
 | 0,cs,vs,l,q=>by
  obtain⟨h1,h2⟩:=overN_ok vs cs l q;unfold spliceL;simp[h1,h2]
 | off+1,[],vs,l,q=>by cases q
 | off+1,c::cs,vs,l,q=>by
  unfold spliceN at q;split at q
  ·rename_i l2 h;cases q;obtain⟨h1,h2⟩:=spliceN_ok off cs vs l2 h;unfold spliceL at h1 ⊢;constructor
   ·rw[←h1];simp[Nat.add_right_comm]
   ·simp;omega
  ·cases q
def fillN(place:Nat→Option (Nat×Nat)):List Value→List (Nat×Value)→Option (List Value)
 | cs,[]=>some cs
 | cs,(i,v)::rest=>
  match place i with
  | none=>none
  | some (off,size)=>bif Nat.beq v.cells.toList.length size then (match spliceN off cs v.cells.toList with
   | some cs=>fillN place cs rest
   | none=>none) else none
theorem fillN_ok{place:Nat→Option (Nat×Nat)}:∀(ps:List (Nat×Value)) (cs l:List Value),fillN place cs ps=some l→fillL place cs ps=some l
 | [],cs,l,q=>q
 | (i,v)::rest,cs,l,q=>by
  unfold fillN at q;unfold fillL;split at q
  ·cases q
  ·rename_i off size hp;cases hb:Nat.beq v.cells.toList.length size with
   | false=>rw[hb] at q;cases q
   | true=>
    rw[hb] at q;simp only[cond_true] at q;split at q
    ·rename_i cs2 h;obtain⟨h1,h2⟩:=spliceN_ok _ _ _ _ h;have h3:=Nat.eq_of_beq_eq_true hb;simp only[hp];have e1:(v.cells.toList.length==size)=true:=by simpa using h3
     have e2:Nat.ble (off+size) cs.length=true:=Nat.ble_eq_true_of_le (by rw[←h3];exact h2);rw[e1,e2];simp only[Bool.and_self,cond_true,h1];exact fillN_ok rest cs2 l q
    ·cases q
def buildT(T:RT)(t:Nat)(parts:List (Nat×Value)):Option Value:=
 match rowOf T t with
 | some r=>match r.d with
  | .struct fs=>match placesT T fs with
   | some ps=>match fillN (fun i=>ps[i]?) r.zero.cells.toList parts with
    | some cs=>some (.agg ⟨cs⟩)
    | none=>none
   | none=>none
  | .array _ e=>match sizeT T e with
   | some n=>match fillN (fun i=>some (i*n,n)) r.zero.cells.toList parts with
    | some cs=>some (.agg ⟨cs⟩)
    | none=>none
   | none=>none
  | _=>none
 | none=>none
def lenT(T:RT)(t:Nat)(x:Value):Option Value:=
 match rowOf T t with
 | some r=>match r.d,x with
  | .slice _,.slice _ n _=>some (.int .i64 n)
  | .array n _,_=>some (.int .i64 n)
  | _,_=>none
 | none=>none
section
variable {C:Ctx}{T:RT}(hT:rowsOk C T=true)
include hT
theorem fieldAddrT_ok{t:Nat}{x:Value}{f:Nat}{v:Value}(q:fieldAddrT T t x f=some v):fieldAddrA C t x f=some v:=by
 unfold fieldAddrT at q;split at q
 ·rename_i r hr;split at q
  ·rename_i fs b off hd;obtain⟨fs',hu,hfs⟩:=und_struct hT hr hd;split at q
   ·rename_i fo ft hf;split at q
    ·rename_i m hm;rw[hfs,List.getElem?_map] at hf;cases hg:fs'.toList[f]? with
     | none=>simp[hg] at hf
     | some fd=>
      simp[hg] at hf;obtain⟨rfl,rfl⟩:=hf;unfold fieldAddrA;simp only[hu,hg,sizeT_ok hT hm];exact q
    ·cases q
   ·cases q
  ·cases q
 ·cases q
theorem fieldT_ok{t:Nat}{x:Value}{f:Nat}{v:Value}(q:fieldT T t x f=some v):fieldA C t x f=some v:=by
 unfold fieldT at q;split at q
 ·rename_i r hr;split at q
  ·rename_i fs cs hd;obtain⟨fs',hu,hfs⟩:=und_struct hT hr hd;split at q
   ·rename_i fo ft hf;rw[hfs,List.getElem?_map] at hf;cases hg:fs'.toList[f]? with
    | none=>simp[hg] at hf
    | some fd=>
     simp[hg] at hf;obtain⟨rfl,rfl⟩:=hf;unfold fieldA;simp only[hu,hg];exact readT_ok hT q
   ·cases q
  ·cases q
 ·cases q
theorem placesT_ok:∀(fs:List Field) (ps:List (Nat×Nat)),placesT T (fs.map fun f=>(f.offset,f.type))=some ps→places C fs=some ps
 | [],ps,q=>q
 | f::fs,ps,q=>by
  simp only[List.map_cons,placesT] at q;split at q
  ·rename_i m r h1 h2;cases q;unfold places;rw[sizeT_ok hT h1,placesT_ok fs r h2]
  ·cases q
theorem buildT_ok{t:Nat}{parts:List (Nat×Value)}{v:Value}(q:buildT T t parts=some v):buildA C t parts=some v:=by
 unfold buildT at q;split at q
 ·rename_i r hr;have hz:=(rowOf_ok hT hr).2.2.2.1;split at q
  ·rename_i fs hd;obtain⟨fs',hu,hfs⟩:=und_struct hT hr hd;split at q
   ·rename_i ps hps;rw[hfs] at hps;have:=placesT_ok hT _ _ hps;unfold buildA;simp only[hz,hu,this];split at q
    ·rename_i cs hcs;rw[fillN_ok _ _ _ hcs];exact q
    ·cases q
   ·cases q
  ·rename_i m e hd;have hu:=und_array hT hr hd;split at q
   ·rename_i n hn;unfold buildA;simp only[hz,hu,sizeT_ok hT hn];split at q
    ·rename_i cs hcs;rw[fillN_ok _ _ _ hcs];exact q
    ·cases q
   ·cases q
  ·cases q
 ·cases q
theorem lenT_ok{t:Nat}{x v:Value}(q:lenT T t x=some v)(h:Heap):lenA C h t x=some v:=by
 unfold lenT at q;split at q
 ·rename_i r hr;split at q
  ·rename_i e a n c hd;unfold lenA;rw[und_slice hT hr hd];exact q
  ·rename_i m e x hd;unfold lenA;rw[und_array hT hr hd];exact q
  ·cases q
 ·cases q
end
def opT(T:RT)(ρ:Operand→Option Value)(op:Op):Option Value:=
 match op with
 | .move x=>ρ x
 | .assign x=>ρ x
 | .pick c a b=>match ρ c with
  | some (.bool true)=>ρ a
  | some (.bool false)=>ρ b
  | _=>none
 | .build t ps=>match partsA ρ ps.toList with
  | some ps=>buildT T t ps
  | none=>none
 | .nilCheck x=>match ρ x with
  | some (.pointer (some a))=>some (.pointer (some a))
  | some (.func (.func f) xs ys)=>some (.func (.func f) xs ys)
  | _=>none
 | .unOp op _ x=>match ρ x with
  | some a=>unA op a
  | none=>none
 | .makeFunc fn xs ys=>match vals ρ xs.toList,vals ρ ys.toList with
  | some a,some b=>some (.func fn ⟨a⟩ ⟨b⟩)
  | _,_=>none
 | .fieldAddr t x f=>match ρ x with
  | some x=>fieldAddrT T t x f
  | none=>none
 | .field t x f=>match ρ x with
  | some x=>fieldT T t x f
  | none=>none
 | .extract x i=>match ρ x with
  | some (.tuple vs)=>vs.toList[i]?
  | _=>none
 | .call c=>match c.callee with
  | .builtin .len=>match vals ρ c.args.toList,c.argTypes.toList with
   | some [x],t::_=>lenT T t x
   | _,_=>none
  | _=>none
 | .binOp op _ x y _=>match op,ρ x,ρ y with
  | .eql,some (.int k a),some (.int k' b)=>if k=k' then some (.bool (a==b)) else none
  | .neq,some (.int k a),some (.int k' b)=>if k=k' then some (.bool (a != b)) else none
  | .lss,some (.int k a),some (.int k' b)=>if k=k' then some (.bool (decide (a<b))) else none
  | .leq,some (.int k a),some (.int k' b)=>if k=k' then some (.bool (decide (a≤b))) else none
  | .gtr,some (.int k a),some (.int k' b)=>if k=k' then some (.bool (decide (a > b))) else none
  | .geq,some (.int k a),some (.int k' b)=>if k=k' then some (.bool (decide (a≥b))) else none
  | _,_,_=>none
 | _=>none
theorem opT_ok{C:Ctx}{T:RT}(hT:rowsOk C T=true){ρ:Operand→Option Value}{op:Op}{v:Value}(q:opT T ρ op=some v)(h:Heap):opA C ρ h op=some (.val v h):=by
 cases op with
 | move x=>simp only[opT] at q;simp only[opA,q];rfl
 | assign x=>simp only[opT] at q;simp only[opA,q];rfl
 | pick c a b=>
  simp only[opT] at q;simp only[opA];split at q
  ·rename_i hc;simp only[hc,q];rfl
  ·rename_i hc;simp only[hc,q];rfl
  ·cases q
 | build t ps=>
  simp only[opT] at q;simp only[opA];split at q
  ·rename_i hc;simp only[hc,buildT_ok hT q];rfl
  ·cases q
 | nilCheck x=>
  simp only[opT] at q;simp only[opA];split at q
  ·rename_i hc;cases q;simp only[hc];rfl
  ·rename_i hc;cases q;simp only[hc];rfl
  ·cases q
 | unOp op t x=>
  simp only[opT] at q;simp only[opA];split at q
  ·rename_i hc;simp only[hc,q];rfl
  ·cases q
 | makeFunc fn xs ys=>
  simp only[opT] at q;simp only[opA];split at q
  ·rename_i h1 h2;cases q;simp only[h1,h2];rfl
  ·cases q
 | fieldAddr t x f=>
  simp only[opT] at q;simp only[opA];split at q
  ·rename_i hc;simp only[hc,fieldAddrT_ok hT q];rfl
  ·cases q
 | field t x f=>
  simp only[opT] at q;simp only[opA];split at q
  ·rename_i hc;simp only[hc,fieldT_ok hT q];rfl
  ·cases q
 | extract x i=>
  simp only[opT] at q;simp only[opA];split at q
  ·rename_i hc;simp only[hc,q];rfl
  ·cases q
 | call c=>
  cases c with
  | mk callee args argTypes=>
  cases callee with
  | builtin b=>
   cases b<;>first | (cases q;done) | skip
   simp only[opT] at q;split at q
   ·rename_i x t ts h1 h2;simp only[opA,h1,builtinA,h2,lenT_ok hT q h];rfl
   ·cases q
  | _=>cases q
 | binOp op t x y m=>
  simp only[opT] at q;simp only[opA];split at q
  all_goals first
   | (rename_i h1 h2
      split at q
      · rename_i hk;subst hk;cases q
        simp only[h1,h2,binA,intBinA,if_true];rfl
      · cases q)
   | (cases q;done)
 | _=>cases q
def setB:List (Nat×Blk)→Nat→Nat×Blk→Option (List (Nat×Blk))
 | [],_,_=>none
 | _::B,0,x=>some (x::B)
 | b::B,q+1,x=>match setB B q x with
  | some B=>some (b::B)
  | none=>none
def setO:Own→Nat→List (Nat×Blk)→Option Own
 | [],_,_=>none
 | _::own,0,x=>some (x::own)
 | B::own,p+1,x=>match setO own p x with
  | some own=>some (B::own)
  | none=>none
theorem setB_ok:∀(B:List (Nat×Blk)) (q:Nat) (x:Nat×Blk) (B':List (Nat×Blk)),setB B q x=some B'→B.set q x=B'
 | [],_,_,_,h=>by cases h
 | _::B,0,x,B',h=>by cases h;rfl
 | b::B,q+1,x,B',h=>by
  unfold setB at h;split at h
  ·rename_i B2 h2;cases h;simp[setB_ok B q x B2 h2]
  ·cases h
theorem setO_ok:∀(own:Own) (p:Nat) (x:List (Nat×Blk)) (own':Own),setO own p x=some own'→own.set p x=own'
 | [],_,_,_,h=>by cases h
 | _::B,0,x,B',h=>by cases h;rfl
 | b::B,q+1,x,B',h=>by
  unfold setO at h;split at h
  ·rename_i B2 h2;cases h;simp[setO_ok B q x B2 h2]
  ·cases h
section
variable {C:Ctx}{T:RT}{n:Nat}{k:Kno}{F:Frz}{own:Own}{ops rest:List Oper}{o:Oper}{Q:Kno→Frz→Own→List Rec→Prop}
theorem putK_some{d:Nat}{v:Value}(hn:Nat.blt d n=true):putK n k (some d) v=(d,v)::k:=by simp only[putK,hn,cond_true]
theorem WT.easy(hT:rowsOk C T=true){d:Nat}{v:Value}{l:List Nat}(hw:wantK ops k o=some true)(hop:opT T (evK C k) o.op=some v)(hd:o.dst=some d)(hn:Nat.blt d n=true)(hl:looksK (evK C k) o.op=some l)
  (h:WT C n ops rest ((d,v)::k) F own (fun k2 F2 own2 rs=>Q k2 F2 own2 (⟨F,own,F,own,l⟩::rs))):WT C n ops (o::rest) k F own Q:=
 WT.still hw hl (fun h0 _=>opT_ok hT hop h0) (by rw[hd,putK_some hn];exact h)
theorem WT.loadT(hT:rowsOk C T=true)(p:Nat){d:Nat}{t:TypeId}{a:Operand}{i off:Nat}{ro:Bool}{cs:List Value}{v:Value}(hop:o.op=.load t a)(hw:wantK ops k o=some true)(hd:o.dst=some d)(hn:Nat.blt d n=true)(ha:evK C k a=some (.pointer (some ⟨i,off,none⟩)))
  {B:List (Nat×Blk)} (hp:own[p]?=some B) (hq:(i,Blk.cells ro cs)∈B) (hr:readT T cs t off=some v)
  (h:WT C n ops rest ((d,v)::k) F own (fun k2 F2 own2 rs=>Q k2 F2 own2 (⟨F,own,F,own,[i]⟩::rs))):WT C n ops (o::rest) k F own Q:=
 WT.loadOwn p hop hw ha hp hq (readT_ok hT hr) (by rw[hd,putK_some hn];exact h)
theorem WT.storeT(hT:rowsOk C T=true)(p q:Nat){B B':List (Nat×Blk)}{own':Own}{t:TypeId}{a x:Operand}{i off m:Nat}{cs cs':List Value}{v:Value}(hop:o.op=.store t a x)(hw:wantK ops k o=some true)(hd:o.dst=none)(ha:evK C k a=some (.pointer (some ⟨i,off,none⟩)))
  (hx:evK C k x=some v) (hp:own[p]?=some B) (hq:B[q]?=some (i,.cells false cs)) (hm:sizeT T t=some m) (hl:(Nat.beq v.cells.toList.length m&&v.cells.toList.all one)=true) (hcs:spliceN off cs v.cells.toList=some cs')
  (hB:setB B q (i,.cells false cs')=some B') (ho:setO own p B'=some own')
  (h:WT C n ops rest k F own' (fun k2 F2 own2 rs=>Q k2 F2 own2 (⟨F,own,F,own',[i]⟩::rs))) :
  WT C n ops (o::rest) k F own Q:=by
 simp only[Bool.and_eq_true] at hl;obtain⟨rfl,hle⟩:=spliceN_ok _ _ _ _ hcs;have e1:=setB_ok _ _ _ _ hB;have e2:=setO_ok _ _ _ _ ho;subst e1;subst e2;have hlen:=Nat.eq_of_beq_eq_true hl.1;exact WT.store p q hop hw ha hx hp hq (sizeT_ok hT hm) hlen hl.2 (by rw[←hlen];exact hle) (by rw[hd];exact h)
theorem WT.allocT(hT:rowsOk C T=true){d:Nat}{t:TypeId}{z:Value}(hop:o.op=.alloc t)(hw:wantK ops k o=some true)(hd:o.dst=some d)(hn:Nat.blt d n=true)(hz:zeroT T t=some z)
  {zs:List Value} (hzs:takeN z.cells.toList.length z.cells.toList=some zs)
  (h:∀i,F i=none→WT C n ops rest ((d,.pointer (some ⟨i,0,none⟩))::k) F ([(i,.cells false zs)]::own) (fun k2 F2 own2 rs=>Q k2 F2 own2 (⟨F,own,F,[(i,.cells false zs)]::own,[]⟩::rs))) :
  WT C n ops (o::rest) k F own Q:=by
 have:=(takeN_ok _ _ _ hzs).1;rw[List.take_length] at this;subst this;exact WT.alloc hop hw (zeroT_ok hT hz) (fun i hi=>by rw[hd,putK_some hn];exact h i hi)
theorem WT.boxT{d:Nat}{t:TypeId}{x:Operand}{v:Value}{vs:List Value}(hop:o.op=.box t x)(hw:wantK ops k o=some true)(hd:o.dst=some d)(hn:Nat.blt d n=true)(hx:evK C k x=some v)(hv:takeN v.cells.toList.length v.cells.toList=some vs)
  (h:∀i,F i=none→WT C n ops rest ((d,.pointer (some ⟨i,0,none⟩))::k) F ([(i,.cells false vs)]::own) (fun k2 F2 own2 rs=>Q k2 F2 own2 (⟨F,own,F,[(i,.cells false vs)]::own,[]⟩::rs))) :
  WT C n ops (o::rest) k F own Q:=by
 have:=(takeN_ok _ _ _ hv).1;rw[List.take_length] at this;subst this;exact WT.box hop hw hx (fun i hi=>by rw[hd,putK_some hn];exact h i hi)
theorem WT.addT{d:Nat}{t ty:TypeId}{xo yo:Operand}{x y:Int}(hop:o.op=.binOp .add t xo yo ty)(hw:wantK ops k o=some true)(hd:o.dst=some d)(hn:Nat.blt d n=true)(hx:evK C k xo=some (.int .i64 x))(hy:evK C k yo=some (.int .i64 y))
  (hr:-9223372036854775808≤x+y∧x+y≤9223372036854775807)
  (h:WT C n ops rest ((d,.int .i64 (x+y))::k) F own (fun k2 F2 own2 rs=>Q k2 F2 own2 (⟨F,own,F,own,[]⟩::rs))):WT C n ops (o::rest) k F own Q:=
 WT.add hop hw hx hy hr (by rw[hd,putK_some hn];exact h)
theorem WT.subT{d:Nat}{t ty:TypeId}{xo yo:Operand}{x y:Int}(hop:o.op=.binOp .sub t xo yo ty)(hw:wantK ops k o=some true)(hd:o.dst=some d)(hn:Nat.blt d n=true)(hx:evK C k xo=some (.int .i64 x))(hy:evK C k yo=some (.int .i64 y))
  (hr:-9223372036854775808≤x-y∧x-y≤9223372036854775807)
  (h:WT C n ops rest ((d,.int .i64 (x-y))::k) F own (fun k2 F2 own2 rs=>Q k2 F2 own2 (⟨F,own,F,own,[]⟩::rs))):WT C n ops (o::rest) k F own Q:=
 WT.sub hop hw hx hy hr (by rw[hd,putK_some hn];exact h)
end
end Go.Abs