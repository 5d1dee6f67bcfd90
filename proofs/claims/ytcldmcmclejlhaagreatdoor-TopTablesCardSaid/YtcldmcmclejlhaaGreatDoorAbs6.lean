/-
  A logic over the abstract machine: what is known, what is owned, rules for operations and code.
-/
import Derived.Test.YtcldmcmclejlhaaGreatDoorAbs5
/-
 A logic over the abstract machine: what is known of the slots,which blocks are frozen,which blocks are one's own.
-/
namespace Go.Abs
open Go
def QJ(C:Ctx)(f:FuncId)(args:List Value)(h:au)(v:Value)(g:au):Prop:=∃m,∀n,m<=n->call C n f args h=some (v,g)
def OZ(C:Ctx)(c:Code)(e:Env)(h:au)(x:Ex)(g:Env)(i:au):Prop:=∃m,∀n,m<=n->exec C n c e h=some (x,g,i)
abbrev ck:=List (Nat×Value)
def lk:ck->Nat->Option Value
 | [],_=>none
 | (i,v)::k,j=>bif Nat.beq i j then some v else lk k j
structure eI(n:Nat)(e:Env)(k:ck):Prop where
 n:e.n=n
 get:∀i v,lk k i=some v->e.get i=some v
def bg(C:Ctx)(k:ck):Operand->Option Value
 | .tmp i=>lk k i
 | .const v=>bif plain v then some v else none
 | .global g=>bif Nat.blt g C.cA then some (.pointer (some ⟨g,0,none⟩)) else none
 | .func f=>some (.func (.func f) #[] #[])
theorem eI.eval{C:Ctx}{n:Nat}{e:Env}{k:ck}(h:eI n e k):∀x v,bg C k x=some v->e.eval C x=some v
 | .tmp i,v,q=>h.get i v q
 | .const _,_,q=>q
 | .global _,_,q=>q
 | .func _,_,q=>q
def ew(n:Nat)(k:ck)(d:Option Tmp)(v:Value):ck:=
 match d with
 | none=>k
 | some d=>bif Nat.blt d n then (d,v)::k else k
theorem eI.put{n:Nat}{e:Env}{k:ck}(h:eI n e k)(d:Option Tmp)(v:Value):eI n (e.put d v) (ew n k d v):=by
 cases d with| none=>{exact h}| some d=>{simp only[Env.put,ew,h.n];cases j:Nat.blt d n with| false=>{exact h}| true=>{simp only[xf];refine⟨rfl,λi u q=>?_⟩;simp only[lk] at q;show T.get (T.set e.t d (some v)) i=some u;rw[T.je];by_cases hi:i=d;{subst hi;have:Nat.beq i i=true:=UX i;rw[this] at q;simpa using q};{rw[nw hi];have:Nat.beq d i=false:=by{cases g:Nat.beq d i with| false=>{rfl}| true=>{exact absurd (Mr g).symm hi}};rw[this] at q;exact h.get i u q}}}
def jd(k2 k:ck):Prop:=∀i v,lk k2 i=some v->lk k i=some v
theorem jd.nil(k:ck):jd [] k:=λ_ _ q=>by cases q
theorem jd.cons{i:Nat}{v:Value}{k2 k:ck}(h1:lk k i=some v)(l:jd k2 k):jd ((i,v)::k2) k:=by
 intro j u q;simp only[lk] at q;cases g:Nat.beq i j with| true=>{rw[g] at q;have:=Mr g;subst this;cases q;exact h1}| false=>{rw[g] at q;exact l j u q}
theorem eI.weaken{n:Nat}{e:Env}{k k2:ck}(h:eI n e k)(hs:jd k2 k):eI n e k2:=⟨h.n,λi v q=>h.get i v (hs i v q)⟩
theorem BM{ρ g:Operand->Option Value}(i:∀x v,ρ x=some v->g x=some v):∀(xs:List Operand) (vs:List Value),dm ρ xs=some vs->dm g xs=some vs
 | [],vs,q=>q
 | x::xs,vs,q=>by{unfold dm at q ⊢;cases h1:ρ x with| none=>{simp[h1] at q}| some v=>{cases j:dm ρ xs with| none=>{simp[h1,j] at q}| some us=>{rw[i x v h1,BM i xs us j];simpa [h1,j] using q}}}
theorem wZ{ρ g:Operand->Option Value}(j:∀x v,ρ x=some v->g x=some v):∀(xs:List (Nat×Operand)) (vs:List (Nat×Value)),fC ρ xs=some vs->fC g xs=some vs
 | [],vs,q=>q
 | (i,x)::xs,vs,q=>by{unfold fC at q ⊢;cases h1:ρ x with| none=>{simp[h1] at q}| some v=>{cases l:fC ρ xs with| none=>{simp[h1,l] at q}| some us=>{rw[j x v h1,wZ j xs us l];simpa [h1,l] using q}}}
theorem Jf{ρ g:Operand->Option Value}(i:∀x v,ρ x=some v->g x=some v):∀(x:Option Operand) (r:Option Value),mC ρ x=some r->mC g x=some r
 | none,r,q=>q
 | some x,r,q=>by{simp only[mC] at q ⊢;cases h1:ρ x with| none=>{simp[h1] at q}| some v=>{rw[i x v h1];simpa [h1] using q}}
theorem dP{C:Ctx}{ρ p:Operand->Option Value}(J:∀x v,ρ x=some v->p x=some v){h:au}{op:Op}{r:Af}(q:aW C ρ h op=some r):aW C p h op=some r:=by
 have key:∀x,ρ x=none\/∃v,ρ x=some v/\p x=some v:=λx=>by
  cases h1:ρ x with
  | none=>exact .inl rfl
  | some v=>exact .inr ⟨v,rfl,J x v h1⟩
 have I:∀x,mC ρ x=none\/∃v,mC ρ x=some v/\mC p x=some v:=λx=>by
  cases h1:mC ρ x with
  | none=>exact .inl rfl
  | some v=>exact .inr ⟨v,rfl,Jf J x v h1⟩
 have j:∀x:List Operand,dm ρ x=none\/∃v,dm ρ x=some v/\dm p x=some v:=λx=>by
  cases h1:dm ρ x with
  | none=>exact .inl rfl
  | some v=>exact .inr ⟨v,rfl,BM J x v h1⟩
 have o:∀x:List (Nat×Operand),fC ρ x=none\/∃v,fC ρ x=some v/\fC p x=some v:=λx=>by
  cases h1:fC ρ x with
  | none=>exact .inl rfl
  | some v=>exact .inr ⟨v,rfl,wZ J x v h1⟩
 cases op with
 | makeMap t hint=>exact(by cases hint<;>exact q)
 | alloc e=>exact q
 | call c=>
  cases c with
  | mk callee args argTypes=>
  cases callee with
  | builtin b=>
   rcases j args.toList with g | ⟨v0,g,g0⟩
   ·simp[aW,g] at q
   simp only[aW,g] at q;simp only[aW,g0];exact q
  | value f=>
   rcases key f with h1 | ⟨v1,h1,g1⟩
   ·simp[aW,h1] at q
   rcases j args.toList with g | ⟨v0,g,g0⟩
   ·simp[aW,g,h1] at q
   simp only[aW,g,h1] at q;simp only[aW,g0,g1];exact q
  | invoke f m=>
   rcases key f with h1 | ⟨v1,h1,g1⟩
   ·simp[aW,h1] at q
   rcases j args.toList with g | ⟨v0,g,g0⟩
   ·simp[aW,g,h1] at q
   simp only[aW,g,h1] at q;simp only[aW,g0,g1];exact q
 | pick c x y=>
  rcases key c with g | ⟨v0,g,g0⟩
  ·simp[aW,g] at q
  simp only[aW,g] at q;simp only[aW,g0];split at q
  ·rcases key x with h1 | ⟨v1,h1,g1⟩
   ·simp[h1] at q
   ·rw[h1] at q;rw[g1];exact q
  ·rcases key y with h1 | ⟨v1,h1,g1⟩
   ·simp[h1] at q
   ·rw[h1] at q;rw[g1];exact q
  ·cases q
 | move x=>
  rcases key x with g | ⟨v0,g,g0⟩
  ·simp[aW,g] at q
  simp only[aW,g] at q;simp only[aW,g0];exact q
 | assign x=>
  rcases key x with g | ⟨v0,g,g0⟩
  ·simp[aW,g] at q
  simp only[aW,g] at q;simp only[aW,g0];exact q
 | box t x=>
  rcases key x with g | ⟨v0,g,g0⟩
  ·simp[aW,g] at q
  simp only[aW,g] at q;simp only[aW,g0];exact q
 | build t ps=>
  rcases o ps.toList with g | ⟨v0,g,g0⟩
  ·simp[aW,g] at q
  simp only[aW,g] at q;simp only[aW,g0];exact q
 | buildSlice t n ps=>
  rcases o ps.toList with g | ⟨v0,g,g0⟩
  ·simp[aW,g] at q
  simp only[aW,g] at q;simp only[aW,g0];exact q
 | load t x=>
  rcases key x with g | ⟨v0,g,g0⟩
  ·simp[aW,g] at q
  simp only[aW,g] at q;simp only[aW,g0];exact q
 | store t x y=>
  rcases key x with g | ⟨v0,g,g0⟩
  ·simp[aW,g] at q
  rcases key y with h1 | ⟨v1,h1,g1⟩
  ·simp[aW,g,h1] at q
  simp only[aW,g,h1] at q;simp only[aW,g0,g1];exact q
 | nilCheck x=>
  rcases key x with g | ⟨v0,g,g0⟩
  ·simp[aW,g] at q
  simp only[aW,g] at q;simp only[aW,g0];exact q
 | binOp op t x y m=>
  rcases key x with g | ⟨v0,g,g0⟩
  ·simp[aW,g] at q
  rcases key y with h1 | ⟨v1,h1,g1⟩
  ·simp[aW,g,h1] at q
  simp only[aW,g,h1] at q;simp only[aW,g0,g1];exact q
 | unOp op t x=>
  rcases key x with g | ⟨v0,g,g0⟩
  ·simp[aW,g] at q
  simp only[aW,g] at q;simp only[aW,g0];exact q
 | convert s d x=>
  rcases key x with g | ⟨v0,g,g0⟩
  ·simp[aW,g] at q
  simp only[aW,g] at q;simp only[aW,g0];exact q
 | makeInterface t x=>
  rcases key x with g | ⟨v0,g,g0⟩
  ·simp[aW,g] at q
  simp only[aW,g] at q;simp only[aW,g0];exact q
 | makeFunc f xs ys=>
  rcases j xs.toList with g | ⟨v0,g,g0⟩
  ·simp[aW,g] at q
  rcases j ys.toList with h1 | ⟨v1,h1,g1⟩
  ·simp[aW,g,h1] at q
  simp only[aW,g,h1] at q;simp only[aW,g0,g1];exact q
 | makeSlice t x y=>
  rcases key x with g | ⟨v0,g,g0⟩
  ·simp[aW,g] at q
  rcases key y with h1 | ⟨v1,h1,g1⟩
  ·simp[aW,g,h1] at q
  simp only[aW,g,h1] at q;simp only[aW,g0,g1];exact q
 | slice t x lo hi R=>
  rcases key x with g | ⟨v0,g,g0⟩
  ·simp[aW,g] at q
  rcases I lo with h1 | ⟨v1,h1,g1⟩
  ·simp[aW,g,h1] at q
  rcases I hi with l | ⟨v2,l,g2⟩
  ·simp[aW,g,h1,l] at q
  rcases I R with P | ⟨v3,P,g3⟩
  ·simp[aW,g,h1,l,P] at q
  simp only[aW,g,h1,l,P] at q;simp only[aW,g0,g1,g2,g3];exact q
 | fieldAddr t x f=>
  rcases key x with g | ⟨v0,g,g0⟩
  ·simp[aW,g] at q
  simp only[aW,g] at q;simp only[aW,g0];exact q
 | field t x f=>
  rcases key x with g | ⟨v0,g,g0⟩
  ·simp[aW,g] at q
  simp only[aW,g] at q;simp only[aW,g0];exact q
 | indexAddr t x i=>
  rcases key x with g | ⟨v0,g,g0⟩
  ·simp[aW,g] at q
  rcases key i with h1 | ⟨v1,h1,g1⟩
  ·simp[aW,g,h1] at q
  simp only[aW,g,h1] at q;simp only[aW,g0,g1];exact q
 | index t x i=>
  rcases key x with g | ⟨v0,g,g0⟩
  ·simp[aW,g] at q
  rcases key i with h1 | ⟨v1,h1,g1⟩
  ·simp[aW,g,h1] at q
  simp only[aW,g,h1] at q;simp only[aW,g0,g1];exact q
 | lookup t x i ok=>
  rcases key x with g | ⟨v0,g,g0⟩
  ·simp[aW,g] at q
  rcases key i with h1 | ⟨v1,h1,g1⟩
  ·simp[aW,g,h1] at q
  simp only[aW,g,h1] at q;simp only[aW,g0,g1];exact q
 | mapUpdate t x y z=>
  rcases key x with g | ⟨v0,g,g0⟩
  ·simp[aW,g] at q
  rcases key y with h1 | ⟨v1,h1,g1⟩
  ·simp[aW,g,h1] at q
  rcases key z with l | ⟨v2,l,g2⟩
  ·simp[aW,g,h1,l] at q
  simp only[aW,g,h1,l] at q;simp only[aW,g0,g1,g2];exact q
 | mapEntry t x y=>
  rcases key x with g | ⟨v0,g,g0⟩
  ·simp[aW,g] at q
  rcases key y with h1 | ⟨v1,h1,g1⟩
  ·simp[aW,g,h1] at q
  simp only[aW,g,h1] at q;simp only[aW,g0,g1];exact q
 | entryStore t x y z=>
  rcases key x with g | ⟨v0,g,g0⟩
  ·simp[aW,g] at q
  rcases key y with h1 | ⟨v1,h1,g1⟩
  ·simp[aW,g,h1] at q
  rcases key z with l | ⟨v2,l,g2⟩
  ·simp[aW,g,h1,l] at q
  simp only[aW,g,h1,l] at q;simp only[aW,g0,g1,g2];exact q
 | insert t x y z=>
  rcases key x with g | ⟨v0,g,g0⟩
  ·simp[aW,g] at q
  rcases key y with h1 | ⟨v1,h1,g1⟩
  ·simp[aW,g,h1] at q
  rcases key z with l | ⟨v2,l,g2⟩
  ·simp[aW,g,h1,l] at q
  simp only[aW,g,h1,l] at q;simp only[aW,g0,g1,g2];exact q
 | typeAssert x U t b=>
  rcases key x with g | ⟨v0,g,g0⟩
  ·simp[aW,g] at q
  simp only[aW,g] at q;simp only[aW,g0];exact q
 | extract x i=>
  rcases key x with g | ⟨v0,g,g0⟩
  ·simp[aW,g] at q
  simp only[aW,g] at q;simp only[aW,g0];exact q
 | _=>exact q
mutual
theorem eO:∀(a:Value),cg a a=true
 | .bool a=>by simp[cg]
 | .int k a=>by simp[cg]
 | .float k a=>by simp[cg]
 | .complex k a c=>by simp[cg]
 | .string a=>by simp[cg]
 | .pointer a=>by simp[cg]
 | .slice a n c=>by simp[cg]
 | .map a=>by simp[cg]
 | .chan a=>by simp[cg]
 | .func f ⟨xs⟩ ⟨ys⟩=>by simp[cg,iG xs,iG ys]
 | .nilFunc=>rfl
 | .iface t v=>by simp[cg,eO v]
 | .nilIface=>rfl
 | .agg ⟨xs⟩=>by simp only[cg];exact iG xs
 | .tuple ⟨xs⟩=>by simp only[cg];exact iG xs
theorem iG:∀(a:List Value),jg a a=true
 | []=>rfl
 | x::xs=>by simp only[jg,eO x,iG xs];rfl
end
theorem wN:∀(a:List (Value×Value)),oS a a=true
 | []=>rfl
 | (x,y)::xs=>by simp only[oS,eO x,eO y,wN xs];rfl
theorem zS:∀(a:Option aJ),lW a a=true
 | none=>rfl
 | some (.cells r xs)=>by simp only[lW,iG xs];simp
 | some (.map xs)=>by simp only[lW,wN xs]
abbrev aA:=Nat->Option aJ
abbrev bA:=List (List (Nat×aJ))
def aA.le(F G:aA):Prop:=∀i b,F i=some b->G i=some b
theorem aA.le.refl(F:aA):aA.le F F:=λ_ _ q=>q
theorem aA.le.trans{F G H:aA}(h1:aA.le F G)(g:aA.le G H):aA.le F H:=λi b q=>g i b (h1 i b q)
structure kM(F:aA)(l:List (Nat×aJ))(h:au):Prop where
 Bl:∀i b,F i=some b->h.get i=some b
 has:∀p∈l,h.get p.1=some p.2
 apart:∀p∈l,F p.1=none
 nodup:(l.map (·.1)).Nodup
 wf:∀i b,h.get i=some b->i<h.next
theorem kM.perm{F:aA}{l g:List (Nat×aJ)}{h:au}(s:kM F l h)(hp:l.Perm g):kM F g h:=
 ⟨s.Bl,λp q=>s.has p (hp.mem_iff.2 q),λp q=>s.apart p (hp.mem_iff.2 q),(hp.map _).nodup_iff.1 s.nodup,s.wf⟩
theorem kM.sub{F:aA}{l g:List (Nat×aJ)}{h:au}(s:kM F l h)(hp:g.Sublist l):kM F g h:=
 ⟨s.Bl,λp q=>s.has p (hp.subset q),λp q=>s.apart p (hp.subset q),s.nodup.sublist (hp.map _),s.wf⟩
def aA.with(F:aA)(i:Nat)(b:aJ):aA:=λj=>if j=i then some b else F j
section
variable {F:aA}{l:List (Nat×aJ)}{h:au}{i:Nat}{b b':aJ}
theorem kM.ne(s:kM F ((i,b)::l) h):∀q∈l,q.1≠i:=λq j e=>by
 have g:=s.nodup;simp only[y2,TJ] at g;exact g.1 (e▸Ud j)
theorem kM.tail(s:kM F ((i,b)::l) h):kM F l h:=s.sub (UE _ _)
theorem kM.alloc(s:kM F l h)(b:aJ):kM F ((h.next,b)::l) (h.alloc b)/\(∀p∈l,p.1≠h.next)/\F h.next=none:=by
 have h1:∀p∈l,p.1≠h.next:=λp q e=>by{have:=s.wf _ _ (s.has p q);omega};have g:F h.next=none:=by{cases j:F h.next with| none=>{rfl}| some c=>{have:=s.wf _ _ (s.Bl _ _ j);omega}};refine⟨⟨λi c q=>?_,λp q=>?_,λp q=>?_,?_,λi c q=>?_⟩,h1,g⟩;{rw[au.eB];split;{rename_i e;rw[e,g] at q;cases q};{exact s.Bl i c q}};{rw[au.eB];rcases PJ.1 q with rfl | q;{simp};{rw[nw (h1 p q)];exact s.has p q}};{rcases PJ.1 q with rfl | q;{exact g};{exact s.apart p q}};{simp only[y2,TJ];refine⟨λhm=>?_,s.nodup⟩;obtain⟨p,hp,e⟩:=x6.1 hm;exact h1 p hp e};{rw[au.eB] at q;show i<h.next+1;split at q;{omega};{have:=s.wf i c q;omega}}
theorem kM.put(s:kM F ((i,b)::l) h)(b':aJ):kM F ((i,b')::l) (h.put i (some b')):=by
 have g:F i=none:=s.apart _ (D2 ..);have hi:i<h.next:=s.wf _ _ (s.has (i,b) (D2 ..));refine⟨λj c q=>?_,λp q=>?_,λp q=>?_,s.nodup,λj c q=>?_⟩;{rw[au.dX];split;{rename_i e;rw[e,g] at q;cases q};{exact s.Bl j c q}};{rw[au.dX];rcases PJ.1 q with rfl | q;{simp};{rw[nw (s.ne p q)];exact s.tail.has p q}};{rcases PJ.1 q with rfl | q;{exact g};{exact s.tail.apart p q}};{rw[au.dX] at q;show j<h.next;split at q;{rename_i e;rw[e];exact hi};{exact s.wf j c q}}
theorem kM.kill(s:kM F ((i,b)::l) h):kM F l (h.put i none):=by
 have g:F i=none:=s.apart _ (D2 ..);refine⟨λj c q=>?_,λp q=>?_,s.tail.apart,s.tail.nodup,λj c q=>?_⟩;{rw[au.dX];split;{rename_i e;rw[e,g] at q;cases q};{exact s.Bl j c q}};{rw[au.dX,nw (s.ne p q)];exact s.tail.has p q};{rw[au.dX] at q;show j<h.next;split at q;{cases q};{exact s.wf j c q}}
end
theorem bI{α:Type}{l:List α}{p:Nat}{x:α}(h:l[p]?=some x):l.Perm (x::l.eraseIdx p):=by
 obtain⟨g,i⟩:=No.1 h;have h1:l=l.take p++x::l.drop (p+1):=by{rw[<-i,List.getElem_cons_drop g,Ut]};rw[List.eraseIdx_eq_take_drop_succ];refine(Va h1).trans U3
theorem fe{α:Type}{l:List α}{p:Nat}{x:α}(y:α)(h:l[p]?=some x):(l.set p y).Perm (y::l.eraseIdx p):=by
 obtain⟨i,r⟩:=No.1 h;have j:(l.set p y)[p]?=some y:=by{simp[i]};have g:=bI j;have o:(l.set p y).eraseIdx p=l.eraseIdx p:=by{simp[List.eraseIdx_set_eq]};rw[o] at g;exact g
theorem wV{α:Type}{l i:List (List α)}(h:i.Sublist l):i.flatten.Sublist l.flatten:=by
 induction h with| slnil=>{exact Tm _}| cons a _ g=>{simp only[TF];exact g.trans (List.sublist_append_right _ _)}| cons_cons a _ g=>{simp only[TF];exact g.append_left a}
def St(F:aA)(own:bA)(h:au):Prop:=kM F own.flatten h
section
variable {F:aA}{own aY:bA}{h:au}{i p q:Nat}{b:aJ}{B:List (Nat×aJ)}
theorem St.Bl(s:St F own h):∀i b,F i=some b->h.get i=some b:=kM.Bl s
theorem St.wf(s:St F own h):∀i b,h.get i=some b->i<h.next:=kM.wf s
theorem St.perm(s:St F own h)(hp:own.Perm aY):St F aY h:=kM.perm s (Vt hp)
theorem St.sub(s:St F own h)(hp:aY.Sublist own):St F aY h:=kM.sub s (wV hp)
theorem St.has(s:St F own h)(hp:own[p]?=some B)(g:(i,b)∈B):h.get i=some b:=
 kM.has s (i,b) (VC.2 ⟨B,Uj hp,g⟩)
theorem St.first(s:St F own h)(hp:own[p]?=some B)(g:B[q]?=some (i,b)):kM F ((i,b)::(B.eraseIdx q++(own.eraseIdx p).flatten)) h:=by
 have h1:kM F (B++(own.eraseIdx p).flatten) h:=by{have:=kM.perm s (Vt (bI hp));simpa using this};exact h1.perm ((bI g).append_right _)
theorem St.back{g:List (Nat×aJ)}(hp:own[p]?=some B){l:List (Nat×aJ)}(s:kM F l h)(j:l.Perm (g++(own.eraseIdx p).flatten)):St F (own.set p g) h:=by
 refine kM.perm s (j.trans ?_);have:=Vt (fe g hp);simpa using this.symm
theorem St.put(s:St F own h)(hp:own[p]?=some B)(g:B[q]?=some (i,b))(b':aJ):St F (own.set p (B.set q (i,b'))) (h.put i (some b')):=
 St.back hp ((s.first hp g).put b') ((fe (i,b') g).symm.append_right _)
theorem St.alloc(s:St F own h)(b:aJ):St F ([(h.next,b)]::own) (h.alloc b)/\(∀p∈own.flatten,p.1≠h.next)/\F h.next=none:=kM.alloc s b
end
end Go.Abs
/-
 The logic's rules for operations and regions.
-/
set_option linter.unusedVariables false
namespace Go.Abs
open Go
section
variable {C:Ctx}{n:Nat}
def bl(ρ:Operand->Option Value):Op->Option (List Nat)
 | .load _ a=>match ρ a with
  | some (.pointer (some a))=>some [a.block]
  | some _=>some []
  | none=>none
 | .store _ a _=>match ρ a with
  | some (.pointer (some a))=>some [a.block]
  | some _=>some []
  | none=>none
 | .slice _ a _ _ _=>match ρ a with
  | some (.pointer (some a))=>some [a.block]
  | some _=>some []
  | none=>none
 | .lookup _ m _ _=>match ρ m with
  | some (.map (some r))=>some [r]
  | some _=>some []
  | none=>none
 | .binOp _ _ x y _=>match ρ x,ρ y with
  | some x,some y=>some ((match x with | .pointer (some a)=>[a.block] | _=>[])++(match y with | .pointer (some a)=>[a.block] | _=>[]))
  | _,_=>none
 | .call c=>match c.callee with
  | .builtin .len=>match c.args.toList with
   | x::_=>match ρ x with
    | some (.map (some r))=>some [r]
    | some _=>some []
    | none=>none
   | _=>some []
  | _=>some []
 | _=>some []
theorem vP{ρ i:Operand->Option Value}(o:∀x v,ρ x=some v->i x=some v){op:Op}{l:List Nat}(q:bl ρ op=some l):bJ i op=l:=by
 have key:∀x,ρ x=none\/∃v,ρ x=some v/\i x=some v:=λx=>by
  cases h1:ρ x with
  | none=>exact .inl rfl
  | some v=>exact .inr ⟨v,rfl,o x v h1⟩
 cases op with
 | load t x=>
  rcases key x with h | ⟨v,h,g⟩
  ·simp[bl,h] at q
  simp only[bl,h] at q;simp only[bJ,g];split at q<;>simp_all
 | store t x y=>
  rcases key x with h | ⟨v,h,g⟩
  ·simp[bl,h] at q
  simp only[bl,h] at q;simp only[bJ,g];split at q<;>simp_all
 | slice t x lo hi r=>
  rcases key x with h | ⟨v,h,g⟩
  ·simp[bl,h] at q
  simp only[bl,h] at q;simp only[bJ,g];split at q<;>simp_all
 | lookup t x y ok=>
  rcases key x with h | ⟨v,h,g⟩
  ·simp[bl,h] at q
  simp only[bl,h] at q;simp only[bJ,g];split at q<;>simp_all
 | binOp op t x y m=>
  rcases key x with h | ⟨v,h,g⟩
  ·simp[bl,h] at q
  rcases key y with p | ⟨v2,p,g2⟩
  ·simp[bl,h,p] at q
  simp only[bl,h,p,sw] at q;simp only[bJ,g,g2];rw[<-q];congr 1<;>(split<;>simp_all)
 | call c=>
  cases c with
  | mk callee args argTypes=>
  cases callee with
  | builtin b=>
   cases b<;>first | (cases q;rfl) | skip
   cases j:args.toList with
   | nil=>
    simp only[bl,j] at q;cases q;simp only[bJ,j]
   | cons x xs=>
    simp only[bl,j] at q;simp only[bJ,j];rcases key x with h | ⟨v,h,g⟩
    ·simp[h] at q
    simp only[h] at q;simp only[g];split at q<;>simp_all
  | _=>cases q;rfl
 | _=>cases q;rfl
def o0:Op->Bool
 | .load _ _=>true
 | .store _ _ _=>true
 | .slice _ _ _ _ _=>true
 | .lookup _ _ _ _=>true
 | .binOp _ _ _ _ _=>true
 | .call c=>match c.callee with
  | .builtin .len=>true
  | _=>false
 | _=>false
theorem pM{ρ:Operand->Option Value}{op:Op}{l:List Nat}(g:o0 op=false)(q:bl ρ op=some l):l=[]:=by
 cases op with
 | call c=>
  cases c with
  | mk callee args argTypes=>
  cases callee with
  | builtin b=>cases b<;>first | (cases g;done) | (cases q;rfl)
  | _=>cases q;rfl
 | _=>first | (cases g;done) | (cases q;rfl)
def aL(ops:List Oper)(k:ck)(o:Oper):Option Bool:=
 match o.guard with
 | none=>some true
 | some (j,want)=>match (ops[j]?).bind (·.dst) with
  | none=>some false
  | some d=>match lk k d with
   | some (.bool b)=>some (b==want)
   | some (.tuple ⟨[]⟩)=>some false
   | _=>none
theorem dS{ops:List Oper}{k:ck}{e:Env}{o:Oper}{b:Bool}(hk:eI n e k)(q:aL ops k o=some b):lI ops e o=some b:=by
 cases g:o.guard with| none=>{simp only[aL,g] at q;simp only[lI,g];exact q}| some p=>{obtain⟨j,want⟩:=p;cases i:(ops[j]?).bind (·.dst) with| none=>{simp only[aL,g,i] at q;simp only[lI,g,i];exact q}| some d=>{simp only[aL,g,i] at q;simp only[lI,g,i];cases h:lk k d with| none=>{simp[h] at q}| some v=>{rw[h] at q;rw[hk.get d v h];split at q;{rename_i l;cases l;exact q};{rename_i l;cases l;exact q};{cases q}}}}
class Qx where
 p:au->Prop
instance noBend:Qx:=⟨λ_=>False⟩
structure Rec where
 F:aA
 own:bA
 F':aA
 aY:bA
 looks:List Nat
 [bend:Qx]
inductive Told:List Oper->List su->List Rec->Prop
 | nil:Told [] [] []
 | cons {o:Oper} {os:List Oper} {h h1:au} {r:Rec} {fl:au->Bool} {tr:List su} {rs:List Rec}:(o0 o.op=false->r.looks=[])->(∀h2,r.bend.p h2->fl h2=true)->St r.F r.own h->St r.F' r.aY h1->aA.le r.F r.F'->Told os tr rs->
   Told (o::os) ((h,h1,r.looks,fl)::tr) (r::rs)
def WT(C:Ctx)(n:Nat)(ops rest:List Oper)(k:ck)(F:aA)(own:bA)(Q:ck->aA->bA->List Rec->Prop):Prop:=
 ∀e h,eI n e k->St F own h->∃i j tr l g aY rs,(∃m,∀N,m<=N->cG C (call C N) ops rest e h=some (i,j,tr))/\
  eI n i l/\aA.le F g/\St g aY j/\Told rest tr rs/\Q l g aY rs
variable {ops rest:List Oper}{o:Oper}{k:ck}{F:aA}{own:bA}{Q:ck->aA->bA->List Rec->Prop}
theorem WT.nil(h:Q k F own []):WT C n ops [] k F own Q:=
 λe g hk hs=>⟨e,g,[],k,F,own,[],⟨0,λ_ _=>rfl⟩,hk,aA.le.refl F,hs,.nil,h⟩
theorem WT.step{l:List Nat}(hl:bl (bg C k) o.op=some l)
  (t:∀e h,eI n e k->St F own h->∃v h' p aY,(∃m,∀N,m<=N->cq C (call C N) ops o e h=some (e.put o.dst v,h'))/\aA.le F p/\St p aY h'/\
   WT C n ops rest (ew n k o.dst v) p aY (λk2 I own2 rs=>Q k2 I own2 (⟨F,own,p,aY,l⟩::rs))):WT C n ops (o::rest) k F own Q:=by
 intro e h hk hs;obtain⟨v,h1,F1,g,⟨m1,J⟩,i,j,hw⟩:=t e h hk hs;obtain⟨e2,h2,tr,k2,I,own2,rs,⟨m2,hr⟩,P,R,U,ht,hq⟩:=hw (e.put o.dst v) h1 (hk.put o.dst v) j;refine⟨e2,h2,(h,h1,l,jt C (e.eval C) h o.op)::tr,k2,I,own2,⟨F,own,F1,g,l⟩::rs,⟨max m1 m2,λN hN=>?_⟩,P,i.trans R,U,.cons (r:=⟨F,own,F1,g,l⟩) (λhn=>pM hn hl) (λ_ hb=>hb.elim) hs j i ht,hq⟩;unfold cG;rw[J N (by omega)];simp only[hr N (by omega),vP hk.eval hl]
theorem WT.fZ{l:List Nat}(g:au->Prop)(R:bl (bg C k) o.op=some l)
  (j:∀e h,eI n e k->St F own h->∃v,(∃m,∀N,m<=N->cq C (call C N) ops o e h=some (e.put o.dst v,h))/\(∀i,g i->jt C (e.eval C) h o.op i=true)/\
   WT C n ops rest (ew n k o.dst v) F own (λk2 p own2 rs=>Q k2 p own2 (@Rec.mk F own F own l ⟨g⟩::rs))):WT C n ops (o::rest) k F own Q:=by
 intro e h hk hs;obtain⟨v,⟨m1,t⟩,U,hw⟩:=j e h hk hs;obtain⟨e2,i,tr,k2,p,own2,rs,⟨m2,hr⟩,I,J,P,ht,hq⟩:=hw (e.put o.dst v) h (hk.put o.dst v) hs;refine⟨e2,i,(h,h,l,jt C (e.eval C) h o.op)::tr,k2,p,own2,@Rec.mk F own F own l ⟨g⟩::rs,⟨max m1 m2,λN hN=>?_⟩,I,J,P,.cons (r:=@Rec.mk F own F own l ⟨g⟩) (λhn=>pM hn R) U hs hs (aA.le.refl F) ht,hq⟩;unfold cG;rw[t N (by omega)];simp only[hr N (by omega),vP hk.eval R]
theorem WT.skip{l:List Nat}(hw:aL ops k o=some false)(g:bl (bg C k) o.op=some l)
  (h:WT C n ops rest (ew n k o.dst bX) F own (λk2 i own2 rs=>Q k2 i own2 (⟨F,own,F,own,l⟩::rs))):WT C n ops (o::rest) k F own Q:=by
 refine WT.step g λe j hk hs=>⟨bX,j,F,own,⟨0,λN _=>?_⟩,aA.le.refl F,hs,h⟩;unfold cq;rw[dS hk hw]
theorem gT{e:Env}{h i:au}{v:Value}(hk:eI n e k)(hw:aL ops k o=some true)(g:aW C (bg C k) h o.op=some (.val v i))(cal:oM) :
  cq C cal ops o e h=some (e.put o.dst v,i):=by
 unfold cq;rw[dS hk hw];simp only[dP hk.eval g]
theorem WT.still{v:Value}{l:List Nat}(hw:aL ops k o=some true)(j:bl (bg C k) o.op=some l)
  (g:∀h,St F own h->aW C (bg C k) h o.op=some (.val v h))
  (h:WT C n ops rest (ew n k o.dst v) F own (λk2 p own2 rs=>Q k2 p own2 (⟨F,own,F,own,l⟩::rs))):WT C n ops (o::rest) k F own Q:=
 WT.step j λe i hk hs=>⟨v,i,F,own,⟨0,λN _=>gT hk hw (g i hs) _⟩,aA.le.refl F,hs,h⟩
theorem WT.new{mk:Nat->Value}{b:aJ}{l:List Nat}(hw:aL ops k o=some true)(p:bl (bg C k) o.op=some l)
  (j:∀h,St F own h->aW C (bg C k) h o.op=some (.val (mk h.next) (h.alloc b)))
  (h:∀i,F i=none->WT C n ops rest (ew n k o.dst (mk i)) F ([(i,b)]::own) (λk2 r own2 rs=>Q k2 r own2 (⟨F,own,F,[(i,b)]::own,l⟩::rs))):WT C n ops (o::rest) k F own Q:=
 WT.step p λe g hk hs=>
  let ⟨s1,s2,t⟩:=hs.alloc b
  ⟨mk g.next,g.alloc b,F,[(g.next,b)]::own,⟨0,λN _=>gT hk hw (j g hs) _⟩,aA.le.refl F,s1,h g.next t⟩
theorem WT.put{v:Value}{i:Nat}{b b':aJ}{l:List Nat}(p q:Nat){B:List (Nat×aJ)}(hp:own[p]?=some B)(j:B[q]?=some (i,b))(hw:aL ops k o=some true)(t:bl (bg C k) o.op=some l)
  (g:∀h,St F own h->h.get i=some b->aW C (bg C k) h o.op=some (.val v (h.put i (some b'))))
  (h:WT C n ops rest (ew n k o.dst v) F (own.set p (B.set q (i,b'))) (λk2 I own2 rs=>Q k2 I own2 (⟨F,own,F,own.set p (B.set q (i,b')),l⟩::rs))):WT C n ops (o::rest) k F own Q:=
 WT.step t λe r hk hs=>⟨v,r.put i (some b'),F,own.set p (B.set q (i,b')),⟨0,λN _=>gT hk hw (g r hs (hs.has hp (Uj j))) _⟩,aA.le.refl F,hs.put hp j b',h⟩
theorem WT.move{mk:Nat->Value}{i:Nat}{b b':aJ}{l:List Nat}(p:Nat)(hp:own[p]?=some [(i,b)])(hw:aL ops k o=some true)(t:bl (bg C k) o.op=some l)
  (r:∀h,St F own h->h.get i=some b->aW C (bg C k) h o.op=some (.val (mk h.next) ((h.put i none).alloc b')))
  (h:∀j,F j=none->WT C n ops rest (ew n k o.dst (mk j)) F (own.set p [(j,b')]) (λk2 I own2 rs=>Q k2 I own2 (⟨F,own,F,own.set p [(j,b')],l⟩::rs))) :
  WT C n ops (o::rest) k F own Q:=
 WT.step t λe g hk hs=>
  have J:kM F (own.eraseIdx p).flatten (g.put i none):=(hs.first (q:=0) hp rfl).kill
  let ⟨s1,s2,P⟩:=J.alloc b'
  ⟨mk g.next,(g.put i none).alloc b',F,own.set p [(g.next,b')],⟨0,λN _=>gT hk hw (r g hs (hs.has hp (D2 ..))) _⟩,aA.le.refl F,St.back hp s1 (sh _),h g.next P⟩
theorem WT.fill{mk:Nat->Value}{b:aJ}{l:List Nat}(p:Nat)(hp:own[p]?=some [])(hw:aL ops k o=some true)(r:bl (bg C k) o.op=some l)
  (j:∀h,St F own h->aW C (bg C k) h o.op=some (.val (mk h.next) (h.alloc b)))
  (h:∀i,F i=none->WT C n ops rest (ew n k o.dst (mk i)) F (own.set p [(i,b)]) (λk2 t own2 rs=>Q k2 t own2 (⟨F,own,F,own.set p [(i,b)],l⟩::rs))):WT C n ops (o::rest) k F own Q:=
 WT.step r λe g hk hs=>
  have I:kM F (own.eraseIdx p).flatten g:=by
   have:=kM.perm hs (Vt (bI hp));simpa using this
  let ⟨s1,s2,J⟩:=I.alloc b
  ⟨mk g.next,g.alloc b,F,own.set p [(g.next,b)],⟨0,λN _=>gT hk hw (j g hs) _⟩,aA.le.refl F,St.back hp s1 (sh _),h g.next J⟩
def Spec(C:Ctx)(f:FuncId)(args:List Value)(F:aA)(oin:bA)(de:aA->Value->bA->Prop):Prop:=
 ∀own h,St F (oin++own) h->∃v j i g,QJ C f args h v j/\aA.le F i/\St i (g++own) j/\de i v g
theorem Spec.mono{f:FuncId}{args:List Value}{oin:bA}{de i:aA->Value->bA->Prop}(h:Spec C f args F oin de)(hp:∀j v g,aA.le F j->de j v g->i j v g):Spec C f args F oin i:=
 λown p hs=>let ⟨v,r,j,g,h1,l,t,I⟩:=h own p hs;⟨v,r,j,g,h1,l,t,hp _ _ _ l I⟩
theorem WT.call{f:FuncId}{args:List Value}{oin fr:bA}{de:aA->Value->bA->Prop}{l:List Nat}(hw:aL ops k o=some true)(P:bl (bg C k) o.op=some l)
  (p:∀h,aW C (bg C k) h o.op=some (.call f args)) (spec:Spec C f args F oin de) (i:own.Perm (oin++fr))
  (h:∀j v g,aA.le F j->de j v g->WT C n ops rest (ew n k o.dst v) j (g++fr) (λk2 R own2 rs=>Q k2 R own2 (⟨F,own,j,g++fr,l⟩::rs))) :
  WT C n ops (o::rest) k F own Q:=
 WT.step P λe t hk hs=>by
 obtain⟨v,h1,I,g,⟨m,U⟩,J,r,hp⟩:=spec fr t (hs.perm i);refine⟨v,h1,I,g++fr,⟨m,λN hN=>?_⟩,J,r,h I v g J hp⟩;unfold cq;rw[dS hk hw];simp only[dP hk.eval (p t),U N hN]
theorem WT.weaken{k2:ck}(hk:jd k2 k)(h:WT C n ops rest k2 F own Q):WT C n ops rest k F own Q:=λe i g hs=>h e i (g.weaken hk) hs
def oz(g:List Nat)(i:Nat):List Oper->Nat->List (Nat×Nat)
 | [],_=>[]
 | o::os,j=>bif cy o.op||i==j||((g[i]?).getD 0).testBit j||((g[j]?).getD 0).testBit i then oz g i os (j+1) else (i,j)::oz g i os (j+1)
def mT(g:List Nat)(ops:List Oper):List Oper->Nat->List (Nat×Nat)
 | [],_=>[]
 | o::os,i=>(bif o0 o.op then oz g i ops 0 else [])++mT g ops os (i+1)
def IX(ops:List Oper):List (Nat×Nat):=mT (bH [] ops) ops ops 0
def Rec.keeps(r:Rec)(x:Nat):Prop:=(∃b,r.F x=some b)\/∃b,(x,b)∈r.own.flatten/\(x,b)∈r.aY.flatten
def mq:List (Nat×Nat)->List Rec->Prop
 | [],_=>True
 | (i,j)::ps,rs=>(∀a b,rs[i]?=some a->rs[j]?=some b->(∀x∈a.looks,b.keeps x)\/(i<j/\∀g,St b.F' b.aY g->a.bend.p g))/\mq ps rs
theorem LK{r:Rec}{x:Nat}{h h1:au}(s:St r.F r.own h)(s1:St r.F' r.aY h1)(j:aA.le r.F r.F')(hk:r.keeps x):h.get x=h1.get x:=by
 rcases hk with ⟨b,g⟩ | ⟨b,g,i⟩;{rw[s.Bl x b g,s1.Bl x b (j x b g)]};{rw[kM.has s (x,b) g,kM.has s1 (x,b) i]}
theorem GX{ps:List (Nat×Nat)}{rs:List Rec}(h:mq ps rs):∀i j,(i,j)∈ps->∀a b,rs[i]?=some a->rs[j]?=some b->(∀x∈a.looks,b.keeps x)\/(i<j/\∀g,St b.F' b.aY g->a.bend.p g):=by
 induction ps with| nil=>{intro i j hm;cases hm}| cons p ps l=>{obtain⟨i0,r⟩:=p;intro i j hm;rcases PJ.1 hm with e | hm;{cases e;exact h.1};{exact l h.2 i j hm}}
theorem wz(g:List Nat)(i:Nat):∀(os:List Oper) (j:Nat) (m:Nat) (o:Oper),os[m]?=some o->cy o.op=false->i≠j+m->((g[i]?).getD 0).testBit (j+m)=false->((g[j+m]?).getD 0).testBit i=false->
  (i,j+m)∈oz g i os j
 | [],j,m,o,h,_,_,_,_=>by simp at h
 | o'::os,j,0,o,h,h1,t,l,p=>by{simp at h;subst h;unfold oz;have:(i==j)=false:=by{simpa using t};simp only[UA] at l p ⊢;rw[h1,this,l,p];simp}
 | o'::os,j,m+1,o,h,h1,t,l,p=>by{have r:=wz g i os (j+1) m o (by simpa using h) h1 (by omega) (by rw[show j+1+m=j+(m+1) by omega];exact l) (by rw[show j+1+m=j+(m+1) by omega];exact p);rw[show j+1+m=j+(m+1) by omega] at r;unfold oz;cases (cy o'.op||i==j||((g[i]?).getD 0).testBit j||((g[j]?).getD 0).testBit i) with| true=>{exact r}| false=>{exact mb _ r}}
theorem rB(g:List Nat)(ops:List Oper):∀(os:List Oper) (i m:Nat) (o:Oper) (p:Nat×Nat),os[m]?=some o->o0 o.op=true->p∈oz g (i+m) ops 0->p∈mT g ops os i
 | [],i,m,o,p,h,_,_=>by simp at h
 | o'::os,i,0,o,p,h,h1,j=>by{simp at h;subst h;unfold mT;rw[h1];exact Te _ j}
 | o'::os,i,m+1,o,p,h,h1,j=>by{have l:=rB g ops os (i+1) m o p (by simpa using h) h1 (by rw[show i+1+m=i+(m+1) by omega];exact j);unfold mT;exact Tf _ l}
theorem Told.at{os:List Oper}{tr:List su}{rs:List Rec}(t:Told os tr rs):∀(i:Nat) (h h1:au) (l:List Nat) (g:au->Bool),tr[i]?=some (h,h1,l,g)->
  ∃(o:Oper) (r:Rec),os[i]?=some o/\rs[i]?=some r/\r.looks=l/\(o0 o.op=false->l=[])/\(∀j,r.bend.p j->g j=true)/\St r.F r.own h/\St r.F' r.aY h1/\aA.le r.F r.F':=by
 induction t with| nil=>{intro i h h1 l g q;simp at q}| cons a a2 b c d e I=>{rename_i o os R J r P tr rs;intro i h h1 l g q;cases i with| zero=>{simp at q;obtain⟨rfl,rfl,rfl,rfl⟩:=q;exact⟨o,r,rfl,rfl,rfl,a,a2,b,c,d⟩}| succ i=>{exact I i h h1 l g (by simpa using q)}}
theorem EM{ops:List Oper}{tr:List su}{rs:List Rec}(ht:Told ops tr rs)(hr:mq (IX ops) rs):eR ops (bH [] ops) tr=true:=by
 have inner:∀(i:Nat) (look:List Nat) (J:au->Bool) (o:Oper) (r:Rec),ops[i]?=some o->rs[i]?=some r->r.looks=look->(∀h2,r.bend.p h2->J h2=true)->o0 o.op=true->
   ∀(os:List Oper) (g:List su) (j:Nat),(∀m o,os[m]?=some o->ops[j+m]?=some o)->(∀m t,g[m]?=some t->tr[j+m]?=some t)->
   eR.outer.inner (bH [] ops) J i look (((bH [] ops)[i]?).getD 0) os g j=true:=by
  intro i look J o r hi aa hl ab P os
  induction os with
  | nil=>intro g j _ _;unfold eR.outer.inner;rfl
  | cons U os ih=>
   intro g j R I;cases g with
   | nil=>unfold eR.outer.inner;rfl
   | cons t g=>
    obtain⟨h,h1,l2,ad⟩:=t;unfold eR.outer.inner;have ae:=ih g (j+1) (λm o q=>by rw[show j+1+m=j+(m+1) by omega];exact R (m+1) o (by simpa using q)) (λm t q=>by rw[show j+1+m=j+(m+1) by omega];exact I (m+1) t (by simpa using q));simp only[tx];refine⟨?_,ae⟩;have af:ops[j]?=some U:=R 0 U rfl;obtain⟨o3,r2,q1,q2,q3,q4,_,q5,q6,q7⟩:=ht.at j h h1 l2 ad (I 0 _ rfl);cases e1:cy U.op with
    | true=>simp
    | false=>
    cases e2:(i==j) with
    | true=>simp
    | false=>
    cases e3:(((bH [] ops)[i]?).getD 0).testBit j with
    | true=>simp
    | false=>
    cases e4:(((bH [] ops)[j]?).getD 0).testBit i with
    | true=>simp
    | false=>
     simp only[Bool.false_or];have al:i≠0+j:=by simp at e2;omega
     have hm:=wz (bH [] ops) i ops 0 j U af e1 al (by rw[AI];exact e3) (by rw[AI];exact e4);rw[AI] at hm;have an:=rB (bH [] ops) ops ops 0 i o (i,j) hi P (by rw[AI];exact hm);rcases GX hr i j an r r2 aa q2 with hk | ⟨ao,hk⟩
     ·have ha:(look.all λx=>lW (h.get x) (h1.get x))=true:=by
       rw[TM];intro x hx;rw[LK q5 q6 q7 (hk x (by rw[hl];exact hx))];exact zS _
      rw[ha,Bool.true_or]
     ·have hb:(Nat.blt i j&&J h1)=true:=by rw[ab h1 (hk h1 q6),Vn];exact Tj ao
      rw[hb,Bool.or_true]
 have outer:∀(g:List su) (i:Nat),(∀m t,g[m]?=some t->tr[i+m]?=some t)->eR.outer ops (bH [] ops) tr g i=true:=by
  intro g
  induction g with
  | nil=>intro i _;unfold eR.outer;rfl
  | cons t g ih=>
   obtain⟨h,h1,look,J⟩:=t;intro i I;unfold eR.outer;rw[ih (i+1) (λm t q=>by rw[show i+1+m=i+(m+1) by omega];exact I (m+1) t (by simpa using q)),Vn];obtain⟨o,r,q1,q2,q3,q4,q5,_⟩:=ht.at i h h1 look J (I 0 _ rfl);cases look with
   | nil=>rfl
   | cons x l=>
    have P:o0 o.op=true:=by
     cases hh:o0 o.op with
     | true=>rfl
     | false=>exact absurd (q4 hh) (by simp)
    exact inner i (x::l) J o r q1 q2 q3 q5 P ops tr 0 (λm o q=>by rw[AI];exact q) (λm t q=>by rw[AI];exact q)
 unfold eR;exact outer tr 0 (λm t q=>by rw[AI];exact q)
theorem rG{cal:oM}{cp:Ba}{ops:List Oper}:∀(rest:List Oper) (e g:Env) (h i:au) (tr:List su),cG C cal ops rest e h=some (g,i,tr)->lD C cal cp ops rest e h=some (false,g,i)
 | [],e,g,h,i,tr,q=>by cases q;rfl
 | o::rest,e,g,h,i,tr,q=>by{unfold cG at q;unfold lD;split at q;{cases q};{rename_i r h1 j;split at q;{cases q};{rename_i t I l p;cases q;rw[j];exact rG rest _ _ _ _ _ p}}}
def AW(C:Ctx)(n:Nat)(c:Code)(k:ck)(F:aA)(own:bA)(Q:Ex->ck->aA->bA->Prop):Prop:=
 ∀e h,eI n e k->St F own h->∃x i j l g aY,OZ C c e h x i j/\eI n i l/\aA.le F g/\St g aY j/\Q x l g aY
variable {A:Ex->ck->aA->bA->Prop}
theorem AW.region{id:Nat}{ops:Array Oper}{draw:Bool}(h:WT C n ops.toList ops.toList k F own λi j aY rs=>(draw=true->oW ops.toList=true/\mq (IX ops.toList) rs)/\A .normal i j aY) :
  AW C n (.region id ops draw) k F own A:=by
 intro e g hk hs;obtain⟨l,p,tr,i,j,aY,rs,⟨m,hm⟩,r,J,t,P,I,R⟩:=h e g hk hs;refine⟨.normal,l,p,i,j,aY,⟨m+1,λN hN=>?_⟩,r,J,t,R⟩;obtain⟨N,rfl⟩:∃U,N=U+1:=⟨N-1,by omega⟩;have hm:=hm N (by omega);show bq C (exec C N) _ e g=_;have hm:cG C (cC C (exec C N)) ops.toList ops.toList e g=some (l,p,tr):=hm;cases draw with| true=>{have hr:kN C (cC C (exec C N)) ops.toList true e g=some (l,p):=by{unfold kN;simp only[xf];rw[hm];simp only[(I rfl).1,EM P (I rfl).2,Uh,xf]};simp only[bq,xf,hr]}| false=>{simp only[bq,zm,rG _ _ _ _ _ _ hm]}
theorem AW.skip(h:A .normal k F own):AW C n .skip k F own A:=λe g hk hs=>
 ⟨.normal,e,g,k,F,own,⟨1,λN j=>by obtain⟨N,rfl⟩:∃i,N=i+1:=⟨N-1,by omega⟩;rfl⟩,hk,aA.le.refl F,hs,h⟩
theorem AW.exit{id:Nat}(h:A (.exit id) k F own):AW C n (.exit id) k F own A:=λe g hk hs=>
 ⟨.exit id,e,g,k,F,own,⟨1,λN j=>by obtain⟨N,rfl⟩:∃i,N=i+1:=⟨N-1,by omega⟩;rfl⟩,hk,aA.le.refl F,hs,h⟩
theorem AW.ret(h:A .ret k F own):AW C n .ret k F own A:=λe g hk hs=>
 ⟨.ret,e,g,k,F,own,⟨1,λN j=>by obtain⟨N,rfl⟩:∃i,N=i+1:=⟨N-1,by omega⟩;rfl⟩,hk,aA.le.refl F,hs,h⟩
def xj(B:ck->aA->bA->Prop)(A:Ex->ck->aA->bA->Prop):Ex->ck->aA->bA->Prop
 | .normal,k,F,own=>B k F own
 | x,k,F,own=>A x k F own
theorem AW.seq{a b:Code}(h:AW C n a k F own (xj (λt j aY=>AW C n b t j aY A) A)):AW C n (.seq a b) k F own A:=by
 intro e I hk hs;obtain⟨x,e1,h1,k1,F1,g,⟨m,hm⟩,l,p,r,i⟩:=h e I hk hs;have other:x≠.normal->A x k1 F1 g->∃x e' h' t j aY,OZ C (.seq a b) e I x e' h'/\eI n e' t/\aA.le F j/\St j aY h'/\A x t j aY:=by{intro hx i;refine⟨x,e1,h1,k1,F1,g,⟨m+1,λN hN=>?_⟩,l,p,r,i⟩;obtain⟨N,rfl⟩:∃J,N=J+1:=⟨N-1,by omega⟩;show bq C (exec C N) _ e I=_;simp only[bq,hm N (by omega)];cases x with| normal=>{exact absurd rfl hx}| exit id=>{rfl}| ret=>{rfl}| jN=>{rfl}};cases x with| exit id=>{exact other (by simp) i}| ret=>{exact other (by simp) i}| jN=>{exact other (by simp) i}| normal=>{obtain⟨x,e2,h2,k2,F2,own2,⟨m2,P⟩,R,U,aa,ab⟩:=i e1 h1 l r;refine⟨x,e2,h2,k2,F2,own2,⟨max m m2+1,λN hN=>?_⟩,R,p.trans U,aa,ab⟩;obtain⟨N,rfl⟩:∃J,N=J+1:=⟨N-1,by omega⟩;show bq C (exec C N) _ e I=_;simp only[bq,hm N (by omega),P N (by omega)]}
theorem AW.cond{I:Operand}{a b:Code}{v:Bool}(J:bg C k I=some (.bool v))(h1:v=true->AW C n a k F own A)(P:v=false->AW C n b k F own A):AW C n (.cond I a b) k F own A:=by
 intro e i hk hs;cases v with| true=>{obtain⟨x,j,h1,l,p,g,⟨m,hm⟩,r⟩:=h1 rfl e i hk hs;refine⟨x,j,h1,l,p,g,⟨m+1,λN R=>?_⟩,r⟩;obtain⟨N,rfl⟩:∃t,N=t+1:=⟨N-1,by omega⟩;show bq C (exec C N) _ e i=_;simp only[bq,hk.eval _ _ J,hm N (by omega)]}| false=>{obtain⟨x,j,h1,l,p,g,⟨m,hm⟩,r⟩:=P rfl e i hk hs;refine⟨x,j,h1,l,p,g,⟨m+1,λN R=>?_⟩,r⟩;obtain⟨N,rfl⟩:∃t,N=t+1:=⟨N-1,by omega⟩;show bq C (exec C N) _ e i=_;simp only[bq,hk.eval _ _ J,hm N (by omega)]}
def vk(id:Nat)(A:Ex->ck->aA->bA->Prop):Ex->ck->aA->bA->Prop
 | .exit i,k,F,own=>A (bif i==id then .normal else .exit i) k F own
 | x,k,F,own=>A x k F own
theorem AW.block{id:Nat}{a:Code}(h:AW C n a k F own (vk id A)):AW C n (.block id a) k F own A:=by
 intro e t hk hs;obtain⟨x,I,h1,J,P,g,⟨m,hm⟩,j,l,p,R⟩:=h e t hk hs;cases x with| exit i=>{refine⟨_,I,h1,J,P,g,⟨m+1,λN U=>?_⟩,j,l,p,R⟩;obtain⟨N,rfl⟩:∃r,N=r+1:=⟨N-1,by omega⟩;show bq C (exec C N) _ e t=_;simp only[bq,hm N (by omega)]}| normal=>{refine⟨_,I,h1,J,P,g,⟨m+1,λN U=>?_⟩,j,l,p,R⟩;obtain⟨N,rfl⟩:∃r,N=r+1:=⟨N-1,by omega⟩;show bq C (exec C N) _ e t=_;simp only[bq,hm N (by omega)]}| ret=>{refine⟨_,I,h1,J,P,g,⟨m+1,λN U=>?_⟩,j,l,p,R⟩;obtain⟨N,rfl⟩:∃r,N=r+1:=⟨N-1,by omega⟩;show bq C (exec C N) _ e t=_;simp only[bq,hm N (by omega)]}| jN=>{refine⟨_,I,h1,J,P,g,⟨m+1,λN U=>?_⟩,j,l,p,R⟩;obtain⟨N,rfl⟩:∃r,N=r+1:=⟨N-1,by omega⟩;show bq C (exec C N) _ e t=_;simp only[bq,hm N (by omega)]}
theorem AW.weaken{c:Code}{k2:ck}(hk:jd k2 k)(h:AW C n c k2 F own A):AW C n c k F own A:=λe i g hs=>h e i (g.weaken hk) hs
theorem AW.perm{c:Code}{own2:bA}(i:own.Perm own2)(h:AW C n c k F own2 A):AW C n c k F own A:=λe j g hs=>h e j g (hs.perm i)
theorem AW.mono{c:Code}{i:Ex->ck->aA->bA->Prop}(h:AW C n c k F own A)(p:∀x j g aY,aA.le F g->A x j g aY->i x j g aY):AW C n c k F own i:=λe r hk hs=>
 let ⟨x,t,I,k2,J,own2,P,R,l,U,h7⟩:=h e r hk hs
 ⟨x,t,I,k2,J,own2,P,R,l,U,p _ _ _ _ l h7⟩
theorem AW.loop{ι:Type}(I:ι->ck->aA->bA->Prop)(m:ι->Nat){c:Code}
  (step:∀i k F own,I i k F own->AW C n c k F own (xj (λU p aY=>∃j k2 own2,m j<m i/\jd k2 U/\own2.Sublist aY/\I j k2 p own2) A)) :
  ∀i k F own,I i k F own->AW C n (.loop c) k F own A:=by
 have main:∀(w:Nat) i k F own,m i<w->I i k F own->AW C n (.loop c) k F own A:=by{intro w;induction w with| zero=>{intro i k F own h;omega}| succ w ih=>{intro i k F own hw hi e h0 hk hs;obtain⟨x,e1,h1,k1,F1,g,⟨m1,r⟩,t,J,P,l⟩:=step i k F own hi e h0 hk hs;have other:x≠.normal->A x k1 F1 g->∃x e' h' U p aY,OZ C (.loop c) e h0 x e' h'/\eI n e' U/\aA.le F p/\St p aY h'/\A x U p aY:=by{intro hx l;refine⟨x,e1,h1,k1,F1,g,⟨m1+1,λN hN=>?_⟩,t,J,P,l⟩;obtain⟨N,rfl⟩:∃N',N=N'+1:=⟨N-1,by omega⟩;show bq C (exec C N) _ e h0=_;simp only[bq,r N (by omega)];cases x with| normal=>{exact absurd rfl hx}| exit id=>{rfl}| ret=>{rfl}| jN=>{rfl}};cases x with| exit id=>{exact other (by simp) l}| ret=>{exact other (by simp) l}| jN=>{exact other (by simp) l}| normal=>{obtain⟨j,k2,own2,hj,R,ad,hI⟩:=l;obtain⟨x,e2,h2,k2,F2,own2,⟨m2,ae⟩,af,ag,al,an⟩:=ih j k2 F1 own2 (by omega) hI e1 h1 (t.weaken R) (P.sub ad);refine⟨x,e2,h2,k2,F2,own2,⟨max m1 m2+1,λN hN=>?_⟩,af,J.trans ag,al,an⟩;obtain⟨N,rfl⟩:∃N',N=N'+1:=⟨N-1,by omega⟩;show bq C (exec C N) _ e h0=_;simp only[bq,r N (by omega),ae N (by omega)]}}};exact λi k F own hi=>main (m i+1) i k F own (TD _) hi
def uh:List Value->Nat->ck
 | [],_=>[]
 | v::vs,i=>(i,v)::uh vs (i+1)
theorem Cs:∀(vs:List Value) (i j:Nat) (v:Value),lk (uh vs i) j=some v->i<=j/\vs[j-i]?=some v
 | [],i,j,v,q=>by cases q
 | u::vs,i,j,v,q=>by{simp only[uh,lk] at q;cases g:Nat.beq i j with| true=>{rw[g] at q;have:=Mr g;subst this;cases q;exact⟨mc _,by simp⟩}| false=>{rw[g] at q;obtain⟨h1,l⟩:=Cs vs (i+1) j v q;refine⟨by omega,?_⟩;rw[show j-i=(j-(i+1))+1 by omega,Ug];exact l}}
theorem eI.args(m:Nat)(vs:List Value):eI (max m vs.length) (iO m vs) (uh vs 0):=by
 refine⟨rfl,λi v q=>?_⟩;obtain⟨_,g⟩:=Cs vs 0 i v q;simp only[Nat.sub_zero] at g;show (iO.go vs 0 .e).get i=some v;rw[vD];have:i<vs.length:=(No.1 g).1;rw[n0 (by omega)];simpa using g
def MV(C:Ctx)(k:ck)(own:bA)(r:ResultVar)(v:Value):Prop:=
 match r with
 | .tmp t=>lk k t=some v
 | .cell a t=>∃p,lk k a=some p/\∀F h,St F own h->nq C h t p=some v
def ue(C:Ctx)(k:ck)(own:bA):List ResultVar->List Value->Prop
 | [],vs=>vs=[]
 | r::rs,vs=>∃v us,MV C k own r v/\ue C k own rs us/\vs=v::us
theorem l9{e:Env}{h:au}(hk:eI n e k)(hs:St F own h):∀(rs:List ResultVar) (vs:List Value),ue C k own rs vs->gW C e h rs=some vs
 | [],vs,q=>by cases q;rfl
 | r::rs,vs,q=>by{obtain⟨v,us,h1,g,rfl⟩:=q;unfold gW;rw[l9 hk hs rs us g];have:uE C e h r=some v:=by{cases r with| tmp t=>{exact hk.get t v h1}| cell a t=>{obtain⟨p,i,j⟩:=h1;simp only[uE,hk.get a p i,j F h hs]}};rw[this]}
def NC(C:Ctx)(fn:Func)(own:bA)(de:aA->Value->bA->Prop):Ex->ck->aA->bA->Prop
 | .exit _,_,_,_=>False
 | .jN,_,_,_=>False
 | _,k,F,aY=>∃vs g,ue C k aY fn.results.toList vs/\(g++own).Sublist aY/\de F (ff vs) g
theorem Spec.of{f:FuncId}{fn:Func}{c:Code}{args:List Value}{oin:bA}{de:aA->Value->bA->Prop}(r:C.fact f=none)(t:C.DE f=false)(hf:C.func f=some fn)(hb:fn.body=some c)
  (h:∀own,AW C (max fn.ntmps args.length) c (uh args 0) F (oin++own) (NC C fn own de)):Spec C f args F oin de:=by
 intro own h0 hs;obtain⟨x,e1,h1,k1,F1,i,⟨m,hm⟩,I,J,j,p⟩:=h own (iO fn.ntmps args) h0 (eI.args _ _) hs;have fin:(∃vs g,ue C k1 i fn.results.toList vs/\(g++own).Sublist i/\de F1 (ff vs) g)->(∀id,x≠.exit id)->x≠.jN->∃v h' P g,QJ C f args h0 v h'/\aA.le F P/\St P (g++own) h'/\de P v g:=by{rintro⟨vs,g,h2,h3,h4⟩ R U;refine⟨ff vs,h1,F1,g,⟨m,λN hN=>?_⟩,J,j.sub h3,h4⟩;unfold call cC;simp only[r,hf,hb,t,zm,hm N hN];have l:=l9 I j _ _ h2;cases x with| exit id=>{exact absurd rfl (R id)}| jN=>{exact absurd rfl U}| normal=>{simp only[l]}| ret=>{simp only[l]}};cases x with| exit id=>{exact False.elim p}| jN=>{exact False.elim p}| normal=>{exact fin p (by simp) (by simp)}| ret=>{exact fin p (by simp) (by simp)}
end
end Go.Abs
/-
 The logic's rules,in the forms that a walk uses.
-/
set_option linter.unusedVariables false
namespace Go.Abs
open Go
section
variable {C:Ctx}{n:Nat}{k:ck}{F:aA}{own:bA}{A:Ex->ck->aA->bA->Prop}{ops rest:List Oper}{o:Oper}{Q:ck->aA->bA->List Rec->Prop}
theorem AW.fp{id:Nat}{ops:Array Oper}(h:WT C n ops.toList ops.toList k F own λg i aY _=>A .normal g i aY):AW C n (.region id ops false) k F own A:=by
 refine AW.region λe j hk hs=>?_;obtain⟨l,p,tr,g,i,aY,rs,h1,r,t,I,J,P⟩:=h e j hk hs;exact⟨l,p,tr,g,i,aY,rs,h1,r,t,I,J,⟨(by intro h;cases h),P⟩⟩
theorem AW.draw{id:Nat}{ops:Array Oper}{ps:List (Nat×Nat)}(j:oW ops.toList=true)(l:IX ops.toList=ps)
  (h:WT C n ops.toList ops.toList k F own λg i aY rs=>mq ps rs/\A .normal g i aY):AW C n (.region id ops true) k F own A:=by
 refine AW.region λe p hk hs=>?_;obtain⟨r,t,tr,g,i,aY,rs,h1,I,J,P,R,U,h7⟩:=h e p hk hs;exact⟨r,t,tr,g,i,aY,rs,h1,I,J,P,R,λ_=>⟨j,by rw[l];exact U⟩,h7⟩
theorem Spec.fact{f:FuncId}{fA:List (Nat×aJ)}(g:C.fact f=some (xq fA))(i:∀p∈fA,F p.1=some p.2):Spec C f [] F [] λ_ v o=>o=[]/\v=.bool true:=by
 intro own h hs;refine⟨.bool true,h,F,[],⟨0,λN _=>?_⟩,aA.le.refl F,hs,rfl,rfl⟩;unfold call cC;have:fA.all (λp=>lW (h.get p.1) (some p.2))=true:=TM.2 λp hp=>by{rw[hs.Bl _ _ (i p hp)];exact zS _};simp only[g,xq,this,List.isEmpty_nil,Uh,xf]
theorem Spec.known{f:FuncId}{j:List Value->au->Option (Value×au)}{args:List Value}{oin:bA}{de:aA->Value->bA->Prop}(l:C.fact f=some j)
  (h:∀own h,St F (oin++own) h->∃v i g,j args h=some (v,i)/\St F (g++own) i/\de F v g):Spec C f args F oin de:=by
 intro own p hs;obtain⟨v,i,g,r,t,I⟩:=h own p hs;refine⟨v,i,F,g,⟨0,λN _=>?_⟩,aA.le.refl F,t,I⟩;unfold call cC;simp only[l,r]
theorem Spec.fn{f:FuncId}{fn:Func}{c:Code}{args:List Value}{oin:bA}{de:aA->Value->bA->Prop}(j:C.func f=some fn)(l:fn.body=some c)(p:max fn.ntmps args.length=n)
  (h:∀own,AW C n c (uh args 0) F (oin++own) (NC C fn own de)) (g:C.fact f=none:=by rfl) (i:C.DE f=false:=by rfl):Spec C f args F oin de:=by subst p;exact Spec.of g i j l h
theorem wrap64{x:Int}(h:-9223372036854775808<=x/\x<=9223372036854775807):IntKind.i64.wrap x=x:=by
 have hs:IntKind.i64.signed=true:=rfl;have g:IntKind.i64.bits=64:=rfl;simp only[IntKind.wrap,hs,g,Bool.true_and,TQ];have:(2:Int) ^ 64=18446744073709551616:=rfl;rw[this];have:(2:Int) ^ (64-1)=9223372036854775808:=rfl;rw[this];split<;>omega
theorem WT.bin{op:BinOp}{t ty:TypeId}{l p:Operand}{g:IntKind}{x y:Int}{r:Value}(i:o.op=.binOp op t l p ty)(hw:aL ops k o=some true)(I:bg C k l=some (.int g x))(J:bg C k p=some (.int g y))
  (P:mw C ⟨0,.e⟩ op t l p (.int g x) (.int g y)=some r) (j:op≠.shl/\op≠.shr)
  (h:WT C n ops rest (ew n k o.dst r) F own (λk2 R own2 rs=>Q k2 R own2 (⟨F,own,F,own,[]⟩::rs))):WT C n ops (o::rest) k F own Q:=by
 refine WT.still hw (by rw[i];simp only[bl,I,J];rfl) (λU _=>?_) h;rw[i];simp only[aW,I,J];have:mw C U op t l p (.int g x) (.int g y)=some r:=by{rw[<-P];cases op<;>first | rfl | exact absurd rfl j.1 | exact absurd rfl j.2};rw[this];rfl
theorem WT.add{t ty:TypeId}{i j:Operand}{x y:Int}(g:o.op=.binOp .add t i j ty)(hw:aL ops k o=some true)(l:bg C k i=some (.int .i64 x))(p:bg C k j=some (.int .i64 y))
  (r:-9223372036854775808<=x+y/\x+y<=9223372036854775807)
  (h:WT C n ops rest (ew n k o.dst (.int .i64 (x+y))) F own (λk2 I own2 rs=>Q k2 I own2 (⟨F,own,F,own,[]⟩::rs))):WT C n ops (o::rest) k F own Q:=
 WT.bin g hw l p (by show (if IntKind.i64=IntKind.i64 then some (Value.int .i64 (IntKind.i64.wrap (x+y))) else none)=_;rw[n0 rfl,wrap64 r]) ⟨by simp,by simp⟩ h
theorem WT.sub{t ty:TypeId}{i j:Operand}{x y:Int}(g:o.op=.binOp .sub t i j ty)(hw:aL ops k o=some true)(l:bg C k i=some (.int .i64 x))(p:bg C k j=some (.int .i64 y))
  (r:-9223372036854775808<=x-y/\x-y<=9223372036854775807)
  (h:WT C n ops rest (ew n k o.dst (.int .i64 (x-y))) F own (λk2 I own2 rs=>Q k2 I own2 (⟨F,own,F,own,[]⟩::rs))):WT C n ops (o::rest) k F own Q:=
 WT.bin g hw l p (by show (if IntKind.i64=IntKind.i64 then some (Value.int .i64 (IntKind.i64.wrap (x-y))) else none)=_;rw[n0 rfl,wrap64 r]) ⟨by simp,by simp⟩ h
theorem WT.mul{t ty:TypeId}{i j:Operand}{x y:Int}(g:o.op=.binOp .mul t i j ty)(hw:aL ops k o=some true)(l:bg C k i=some (.int .i64 x))(p:bg C k j=some (.int .i64 y))
  (r:-9223372036854775808<=x*y/\x*y<=9223372036854775807)
  (h:WT C n ops rest (ew n k o.dst (.int .i64 (x*y))) F own (λk2 I own2 rs=>Q k2 I own2 (⟨F,own,F,own,[]⟩::rs))):WT C n ops (o::rest) k F own Q:=
 WT.bin g hw l p (by show (if IntKind.i64=IntKind.i64 then some (Value.int .i64 (IntKind.i64.wrap (x*y))) else none)=_;rw[n0 rfl,wrap64 r]) ⟨by simp,by simp⟩ h
theorem WT.rem{t ty:TypeId}{i j:Operand}{x y:Int}(g:o.op=.binOp .rem t i j ty)(hw:aL ops k o=some true)(l:bg C k i=some (.int .i64 x))(p:bg C k j=some (.int .i64 y))
  (r:y≠0)
  (h:WT C n ops rest (ew n k o.dst (.int .i64 (x.tmod y))) F own (λk2 I own2 rs=>Q k2 I own2 (⟨F,own,F,own,[]⟩::rs))):WT C n ops (o::rest) k F own Q:=
 WT.bin g hw l p (by show (if IntKind.i64=IntKind.i64 then (if y=0 then none else some (Value.int .i64 (x.tmod y))) else none)=_;rw[n0 rfl,nw r]) ⟨by simp,by simp⟩ h
theorem WT.quo{t ty:TypeId}{i j:Operand}{x y:Int}(g:o.op=.binOp .quo t i j ty)(hw:aL ops k o=some true)(p:bg C k i=some (.int .i64 x))(r:bg C k j=some (.int .i64 y))
  (l:y≠0/\-9223372036854775808<=x.tdiv y/\x.tdiv y<=9223372036854775807)
  (h:WT C n ops rest (ew n k o.dst (.int .i64 (x.tdiv y))) F own (λk2 I own2 rs=>Q k2 I own2 (⟨F,own,F,own,[]⟩::rs))):WT C n ops (o::rest) k F own Q:=
 WT.bin g hw p r (by show (if IntKind.i64=IntKind.i64 then (if y=0 then none else some (Value.int .i64 (IntKind.i64.wrap (x.tdiv y)))) else none)=_;rw[n0 rfl,nw l.1,wrap64 l.2]) ⟨by simp,by simp⟩ h
theorem aD{h:au}{t:TypeId}{i off:Nat}{ro:Bool}{cs:List Value}{v:Value}(g:h.get i=some (.cells ro cs))(j:fN C cs t off=some v):nq C h t (.pointer (some ⟨i,off,none⟩))=some v:=by
 simp only[nq,kO,g,j]
theorem WT.load{t:TypeId}{a:Operand}{i off:Nat}{v:Value}(g:o.op=.load t a)(hw:aL ops k o=some true)(j:bg C k a=some (.pointer (some ⟨i,off,none⟩)))
  (l:∀h,St F own h->nq C h t (.pointer (some ⟨i,off,none⟩))=some v)
  (h:WT C n ops rest (ew n k o.dst v) F own (λk2 p own2 rs=>Q k2 p own2 (⟨F,own,F,own,[i]⟩::rs))):WT C n ops (o::rest) k F own Q:=by
 refine WT.still hw (by rw[g];simp only[bl,j]) (λr hs=>?_) h;rw[g];simp only[aW,j,l r hs];rfl
theorem WT.uj(p:Nat){t:TypeId}{a:Operand}{i off:Nat}{ro:Bool}{cs:List Value}{v:Value}(g:o.op=.load t a)(hw:aL ops k o=some true)(j:bg C k a=some (.pointer (some ⟨i,off,none⟩)))
  {B:List (Nat×aJ)} (hp:own[p]?=some B) (l:(i,aJ.cells ro cs)∈B) (r:fN C cs t off=some v)
  (h:WT C n ops rest (ew n k o.dst v) F own (λk2 I own2 rs=>Q k2 I own2 (⟨F,own,F,own,[i]⟩::rs))):WT C n ops (o::rest) k F own Q:=
 WT.load g hw j (λJ hs=>aD (hs.has hp l) r) h
theorem WT.xY{t:TypeId}{a:Operand}{i off:Nat}{ro:Bool}{cs:List Value}{v:Value}(g:o.op=.load t a)(hw:aL ops k o=some true)(j:bg C k a=some (.pointer (some ⟨i,off,none⟩)))
  (hp:F i=some (.cells ro cs)) (l:fN C cs t off=some v)
  (h:WT C n ops rest (ew n k o.dst v) F own (λk2 p own2 rs=>Q k2 p own2 (⟨F,own,F,own,[i]⟩::rs))):WT C n ops (o::rest) k F own Q:=
 WT.load g hw j (λr hs=>aD (hs.Bl _ _ hp) l) h
theorem WT.store(p q:Nat){B:List (Nat×aJ)}{t:TypeId}{a x:Operand}{i off m:Nat}{cs:List Value}{v:Value}(g:o.op=.store t a x)(hw:aL ops k o=some true)(r:bg C k a=some (.pointer (some ⟨i,off,none⟩)))
  (I:bg C k x=some v) (hp:own[p]?=some B) (J:B[q]?=some (i,.cells false cs)) (hm:C.size t=some m) (P:v.cells.toList.length=m) (R:v.cells.toList.all one=true) (hle:off+m<=cs.length)
  (h:WT C n ops rest (ew n k o.dst bX) F (own.set p (B.set q (i,.cells false (bp cs off v.cells.toList)))) (λk2 U own2 rs=>Q k2 U own2 (⟨F,own,F,own.set p (B.set q (i,.cells false (bp cs off v.cells.toList))),[i]⟩::rs))) :
  WT C n ops (o::rest) k F own Q:=by
 refine WT.put p q hp J hw (by rw[g];simp only[bl,r]) (λh0 hs hb=>?_) h;rw[g];have j:Nat.ble (off+m) cs.length=true:=Tj hle;have l:(v.cells.toList.length==m)=true:=by{simpa using P};simp only[aW,r,I,vd,hb,hm,l,R,j,Uh,xf];rfl
theorem WT.alloc{t:TypeId}{z:Value}(g:o.op=.alloc t)(hw:aL ops k o=some true)(j:C.zero t=some z)
  (h:∀i,F i=none->WT C n ops rest (ew n k o.dst (.pointer (some ⟨i,0,none⟩))) F ([(i,.cells false z.cells.toList)]::own) (λk2 l own2 rs=>Q k2 l own2 (⟨F,own,F,[(i,.cells false z.cells.toList)]::own,[]⟩::rs))) :
  WT C n ops (o::rest) k F own Q:=by
 refine WT.new (mk:=λi=>.pointer (some ⟨i,0,none⟩)) hw (by rw[g];rfl) (λp hs=>?_) h;rw[g];simp only[aW,j]
theorem WT.box{t:TypeId}{x:Operand}{v:Value}(g:o.op=.box t x)(hw:aL ops k o=some true)(j:bg C k x=some v)
  (h:∀i,F i=none->WT C n ops rest (ew n k o.dst (.pointer (some ⟨i,0,none⟩))) F ([(i,.cells false v.cells.toList)]::own) (λk2 l own2 rs=>Q k2 l own2 (⟨F,own,F,[(i,.cells false v.cells.toList)]::own,[]⟩::rs))) :
  WT C n ops (o::rest) k F own Q:=by
 refine WT.new (mk:=λi=>.pointer (some ⟨i,0,none⟩)) hw (by rw[g];rfl) (λp hs=>?_) h;rw[g];simp only[aW,j]
end
end Go.Abs
/-
 A table of the program's types,and the operations that need no more than it.
-/
set_option linter.unusedVariables false
namespace Go.Abs
open Go
inductive Shape where
 | word
 | bool
 | int (k:IntKind)
 | string
 | slice (e:Nat)
 | struct (fs:List (Nat×Nat))
 | array (n e:Nat)
 | map (k e:Nat)
 | pointer (e:Nat)
structure Row where
 t:Nat
 d:Shape
 size:Nat
 bytes:Nat
 zero:Value
def kQ(d:Shape)(u:TypeDesc):Bool:=
 match d,u with
 | .word,.struct _=>false
 | .word,.array _ _=>false
 | .word,.slice _=>false
 | .word,.interface _=>false
 | .word,.string=>false
 | .word,.map _ _=>false
 | .word,_=>true
 | .bool,.bool=>true
 | .int k,.int i=>decide (k=i)
 | .string,.string=>true
 | .slice e,.slice g=>Nat.beq e g
 | .struct l,.struct j=>l==j.toList.map λf=>(f.offset,f.type)
 | .array n e,.array o g=>Nat.beq n o&&Nat.beq e g
 | .map k e,.map i g=>Nat.beq k i&&Nat.beq e g
 | .pointer e,.pointer g=>Nat.beq e g
 | _,_=>false
def Oy(C:Ctx)(r:Row):Bool:=
 (match C.size r.t with | some n=>Nat.beq n r.size | none=>false)&&(match C.bytes r.t with | some n=>Nat.beq n r.bytes | none=>false) &&
 (match C.zero r.t with | some z=>cg z r.zero | none=>false)&&(match C.iL r.t with | some d=>kQ r.d d | none=>false)
inductive RT where
 | e
 | n (l:RT) (r:Row) (g:RT)
def aU(C:Ctx):RT->Bool
 | .e=>true
 | .n l r g=>aU C l&&Oy C r&&aU C g
def rowOf:RT->Nat->Option Row
 | .e,_=>none
 | .n l r g,t=>bif Nat.beq r.t t then some r else bif Nat.blt t r.t then rowOf l t else rowOf g t
theorem dL{C:Ctx}{T:RT}(h:aU C T=true){t:Nat}{r:Row}(q:rowOf T t=some r):r.t=t/\C.size t=some r.size/\C.bytes t=some r.bytes/\C.zero t=some r.zero/\∃d,C.iL t=some d/\kQ r.d d=true:=by
 induction T with| e=>{cases q}| n l r0 g j o=>{simp only[aU,tx] at h;simp only[rowOf] at q;cases p:Nat.beq r0.t t with| false=>{rw[p] at q;simp only[zm] at q;cases R:Nat.blt t r0.t with| false=>{rw[R] at q;exact o h.2 q}| true=>{rw[R] at q;exact j h.1.1 q}}| true=>{rw[p] at q;cases q;have:=Mr p;subst this;obtain⟨⟨_,h1⟩,_⟩:=h;simp only[Oy,tx] at h1;obtain⟨⟨⟨h1,I⟩,J⟩,P⟩:=h1;refine⟨rfl,?_,?_,?_,?_⟩;{split at h1;{rename_i n i;rw[i,Mr h1]};{cases h1}};{split at I;{rename_i n i;rw[i,Mr I]};{cases I}};{split at J;{rename_i n i;rw[i,iU J]};{cases J}};{split at P;{rename_i d U;exact⟨d,U,P⟩};{cases P}}}}
def ef(T:RT)(t:Nat):Option Nat:=match rowOf T t with | some r=>some r.size | none=>none
def gL(T:RT)(t:Nat):Option Value:=match rowOf T t with | some r=>some r.zero | none=>none
def Shape.agg:Shape->Bool
 | .struct _=>true
 | .array _ _=>true
 | _=>false
theorem vN{d:Shape}{u:TypeDesc}(h:kQ d u=true):v8 u=d.agg:=by
 cases d<;>cases u<;>first | rfl | cases h
def takeN:Nat->List Value->Option (List Value)
 | 0,_=>some []
 | _+1,[]=>none
 | n+1,c::cs=>match takeN n cs with
  | some l=>some (c::l)
  | none=>none
def Ml:Nat->List Value->Nat->Option (List Value)
 | 0,cs,n=>takeN n cs
 | _+1,[],_=>none
 | off+1,_::cs,n=>Ml off cs n
theorem oZ:∀(n:Nat) (cs l:List Value),takeN n cs=some l->cs.take n=l/\l.length=n
 | 0,cs,l,q=>by cases q;simp
 | n+1,[],l,q=>by cases q
 | n+1,c::cs,l,q=>by{unfold takeN at q;split at q;{rename_i g h;cases q;obtain⟨h1,i⟩:=oZ n cs g h;simp[h1,i]};{cases q}}
theorem FW:∀(off:Nat) (cs:List Value) (n:Nat) (l:List Value),Ml off cs n=some l->bO cs off n=some l
 | 0,cs,n,l,q=>by{obtain⟨h1,g⟩:=oZ n cs l q;unfold bO;simp[h1,g]}
 | off+1,[],_,_,q=>by cases q
 | off+1,c::cs,n,l,q=>by{have:=FW off cs n l q;unfold bO at this ⊢;simpa using this}
def oK(T:RT)(cs:List Value)(t:Nat)(off:Nat):Option Value:=
 match rowOf T t with
 | some r=>bif r.d.agg then (match Ml off cs r.size with | some l=>some (.agg ⟨l⟩) | none=>none) else cs[off]?
 | none=>none
section
variable {C:Ctx}{T:RT}(hT:aU C T=true)
include hT
theorem bS{t m:Nat}(q:ef T t=some m):C.size t=some m:=by
 unfold ef at q;split at q;{rename_i r g;cases q;exact(dL hT g).2.1};{cases q}
theorem cZ{t:Nat}{z:Value}(q:gL T t=some z):C.zero t=some z:=by
 unfold gL at q;split at q;{rename_i r g;cases q;exact(dL hT g).2.2.2.1};{cases q}
theorem aM{cs:List Value}{t off:Nat}{v:Value}(q:oK T cs t off=some v):fN C cs t off=some v:=by
 unfold oK at q;split at q;{rename_i r i;obtain⟨_,h1,_,_,d,j,o⟩:=dL hT i;unfold fN;rw[j];simp only[vN o,h1];cases g:r.d.agg with| true=>{rw[g] at q;simp only[xf] at q ⊢;split at q;{rename_i l p;rw[FW _ _ _ _ p];exact q};{cases q}}| false=>{rw[g] at q;exact q}};{cases q}
theorem bP{t e:Nat}{r:Row}(q:rowOf T t=some r)(i:r.d=.slice e):C.iL t=some (.slice e):=by
 (obtain⟨_,_,_,_,d,j,g⟩:=dL hT q;rw[i] at g;cases d<;>first | (cases g;done) | skip);rw[j,Mr g]
theorem gw{t:Nat}{r:Row}{j:List (Nat×Nat)}(q:rowOf T t=some r)(l:r.d=.struct j):∃g,C.iL t=some (.struct g)/\j=g.toList.map λf=>(f.offset,f.type):=by
 (obtain⟨_,_,_,_,d,o,i⟩:=dL hT q;rw[l] at i;cases d<;>first | (cases i;done) | skip);exact⟨_,o,by simpa [kQ] using i⟩
theorem mN{t m e:Nat}{r:Row}(q:rowOf T t=some r)(i:r.d=.array m e):C.iL t=some (.array m e):=by
 (obtain⟨_,_,_,_,d,j,g⟩:=dL hT q;rw[i] at g;cases d<;>first | (cases g;done) | skip);simp only[kQ,tx] at g;rw[j,Mr g.1,Mr g.2]
theorem uN{t:Nat}{i:IntKind}{r:Row}(q:rowOf T t=some r)(j:r.d=.int i):C.iL t=some (.int i):=by
 (obtain⟨_,_,_,_,d,l,g⟩:=dL hT q;rw[j] at g;cases d<;>first | (cases g;done) | skip);rw[l];simp[kQ] at g;rw[g]
end
def sL(T:RT)(t:Nat)(x:Value)(f:Nat):Option Value:=
 match rowOf T t with
 | some r=>match r.d,x with
  | .struct g,.pointer (some ⟨b,off,none⟩)=>match g[f]? with
   | some (fo,i)=>match ef T i with
    | some m=>bif m==0 then none else some (.pointer (some ⟨b,off+fo,none⟩))
    | none=>none
   | none=>none
  | _,_=>none
 | none=>none
def Hy(T:RT)(t:Nat)(x:Value)(f:Nat):Option Value:=
 match rowOf T t with
 | some r=>match r.d,x with
  | .struct g,.agg ⟨cs⟩=>match g[f]? with
   | some (fo,i)=>oK T cs i fo
   | none=>none
  | _,_=>none
 | none=>none
def ye(T:RT):List (Nat×Nat)->Option (List (Nat×Nat))
 | []=>some []
 | (fo,g)::i=>match ef T g,ye T i with
  | some n,some r=>some ((fo,n)::r)
  | _,_=>none
def Ip:List Value->List Value->Option (List Value)
 | [],cs=>some cs
 | _::_,[]=>none
 | v::vs,_::cs=>match Ip vs cs with
  | some l=>some (v::l)
  | none=>none
def tT:Nat->List Value->List Value->Option (List Value)
 | 0,cs,vs=>Ip vs cs
 | _+1,[],_=>none
 | off+1,c::cs,vs=>match tT off cs vs with
  | some l=>some (c::l)
  | none=>none
theorem FY:∀(vs cs l:List Value),Ip vs cs=some l->vs++cs.drop vs.length=l/\vs.length<=cs.length
 | [],cs,l,q=>by cases q;simp
 | _::_,[],l,q=>by cases q
 | v::vs,c::cs,l,q=>by{unfold Ip at q;split at q;{rename_i g h;cases q;obtain⟨h1,i⟩:=FY vs cs g h;simp[h1,i]};{cases q}}
theorem sP:∀(off:Nat) (cs vs l:List Value),tT off cs vs=some l->bp cs off vs=l/\off+vs.length<=cs.length
 | 0,cs,vs,l,q=>by{obtain⟨h1,g⟩:=FY vs cs l q;unfold bp;simp[h1,g]}
 | off+1,[],vs,l,q=>by cases q
 | off+1,c::cs,vs,l,q=>by{unfold tT at q;split at q;{rename_i i h;cases q;obtain⟨h1,g⟩:=sP off cs vs i h;unfold bp at h1 ⊢;constructor;{rw[<-h1];simp[Nat.add_right_comm]};{simp;omega}};{cases q}}
def BN(place:Nat->Option (Nat×Nat)):List Value->List (Nat×Value)->Option (List Value)
 | cs,[]=>some cs
 | cs,(i,v)::rest=>
  match place i with
  | none=>none
  | some (off,size)=>bif Nat.beq v.cells.toList.length size then (match tT off cs v.cells.toList with
   | some cs=>BN place cs rest
   | none=>none) else none
theorem sV{place:Nat->Option (Nat×Nat)}:∀(ps:List (Nat×Value)) (cs l:List Value),BN place cs ps=some l->mO place cs ps=some l
 | [],cs,l,q=>q
 | (i,v)::rest,cs,l,q=>by{unfold BN at q;unfold mO;split at q;{cases q};{rename_i off size hp;cases g:Nat.beq v.cells.toList.length size with| false=>{rw[g] at q;cases q}| true=>{rw[g] at q;simp only[xf] at q;split at q;{rename_i j h;obtain⟨h1,p⟩:=sP _ _ _ _ h;have o:=Mr g;simp only[hp];have r:(v.cells.toList.length==size)=true:=by{simpa using o};have t:Nat.ble (off+size) cs.length=true:=Tj (by rw[<-o];exact p);rw[r,t];simp only[Uh,xf,h1];exact sV rest j l q};{cases q}}}}
def aR(T:RT)(t:Nat)(parts:List (Nat×Value)):Option Value:=
 match rowOf T t with
 | some r=>match r.d with
  | .struct g=>match ye T g with
   | some ps=>match BN (λi=>ps[i]?) r.zero.cells.toList parts with
    | some cs=>some (.agg ⟨cs⟩)
    | none=>none
   | none=>none
  | .array _ e=>match ef T e with
   | some n=>match BN (λi=>some (i*n,n)) r.zero.cells.toList parts with
    | some cs=>some (.agg ⟨cs⟩)
    | none=>none
   | none=>none
  | _=>none
 | none=>none
def OW(T:RT)(t:Nat)(x:Value):Option Value:=
 match rowOf T t with
 | some r=>match r.d,x with
  | .slice _,.slice _ n _=>some (.int .i64 n)
  | .array n _,_=>some (.int .i64 n)
  | _,_=>none
 | none=>none
section
variable {C:Ctx}{T:RT}(hT:aU C T=true)
include hT
theorem Bo{t:Nat}{x:Value}{f:Nat}{v:Value}(q:sL T t x f=some v):lp C t x f=some v:=by
 unfold sL at q;split at q;{rename_i r o;split at q;{rename_i I b off p;obtain⟨i,hu,j⟩:=gw hT o p;split at q;{rename_i fo J g;split at q;{rename_i m hm;rw[j,zy] at g;cases l:i.toList[f]? with| none=>{simp[l] at g}| some fd=>{simp[l] at g;obtain⟨rfl,rfl⟩:=g;unfold lp;simp only[hu,l,bS hT hm];exact q}};{cases q}};{cases q}};{cases q}};{cases q}
theorem Jk{t:Nat}{x:Value}{f:Nat}{v:Value}(q:Hy T t x f=some v):yX C t x f=some v:=by
 unfold Hy at q;split at q;{rename_i r o;split at q;{rename_i I cs p;obtain⟨i,hu,j⟩:=gw hT o p;split at q;{rename_i fo J g;rw[j,zy] at g;cases l:i.toList[f]? with| none=>{simp[l] at g}| some fd=>{simp[l] at g;obtain⟨rfl,rfl⟩:=g;unfold yX;simp only[hu,l];exact aM hT q}};{cases q}};{cases q}};{cases q}
theorem Ai:∀(g:List Field) (ps:List (Nat×Nat)),ye T (g.map λf=>(f.offset,f.type))=some ps->places C g=some ps
 | [],ps,q=>q
 | f::g,ps,q=>by{simp only[y2,ye] at q;split at q;{rename_i m r h1 i;cases q;unfold places;rw[bS hT h1,Ai g r i]};{cases q}}
theorem Ko{t:Nat}{parts:List (Nat×Value)}{v:Value}(q:aR T t parts=some v):uY C t parts=some v:=by
 unfold aR at q;split at q;{rename_i r j;have p:=(dL hT j).2.2.2.1;split at q;{rename_i P l;obtain⟨I,hu,o⟩:=gw hT j l;split at q;{rename_i ps i;rw[o] at i;have:=Ai hT _ _ i;unfold uY;simp only[p,hu,this];split at q;{rename_i cs g;rw[sV _ _ _ g];exact q};{cases q}};{cases q}};{rename_i m e l;have hu:=mN hT j l;split at q;{rename_i n J;unfold uY;simp only[p,hu,bS hT J];split at q;{rename_i cs g;rw[sV _ _ _ g];exact q};{cases q}};{cases q}};{cases q}};{cases q}
theorem Nu{t:Nat}{x v:Value}(q:OW T t x=some v)(h:au):G9 C h t x=some v:=by
 unfold OW at q;split at q;{rename_i r i;split at q;{rename_i e a n c g;unfold G9;rw[bP hT i g];exact q};{rename_i m e x g;unfold G9;rw[mN hT i g];exact q};{cases q}};{cases q}
end
def It(T:RT)(ρ:Operand->Option Value)(op:Op):Option Value:=
 match op with
 | .move x=>ρ x
 | .assign x=>ρ x
 | .pick c a b=>match ρ c with
  | some (.bool true)=>ρ a
  | some (.bool false)=>ρ b
  | _=>none
 | .build t ps=>match fC ρ ps.toList with
  | some ps=>aR T t ps
  | none=>none
 | .nilCheck x=>match ρ x with
  | some (.pointer (some a))=>some (.pointer (some a))
  | some (.func (.func f) xs ys)=>some (.func (.func f) xs ys)
  | _=>none
 | .unOp op _ x=>match ρ x with
  | some a=>Q4 op a
  | none=>none
 | .makeFunc fn xs ys=>match dm ρ xs.toList,dm ρ ys.toList with
  | some a,some b=>some (.func fn ⟨a⟩ ⟨b⟩)
  | _,_=>none
 | .fieldAddr t x f=>match ρ x with
  | some x=>sL T t x f
  | none=>none
 | .field t x f=>match ρ x with
  | some x=>Hy T t x f
  | none=>none
 | .extract x i=>match ρ x with
  | some (.tuple vs)=>vs.toList[i]?
  | _=>none
 | .call c=>match c.callee with
  | .builtin .len=>match dm ρ c.args.toList,c.argTypes.toList with
   | some [x],t::_=>OW T t x
   | _,_=>none
  | _=>none
 | .binOp op _ x y _=>match op,ρ x,ρ y with
  | .eql,some (.int k a),some (.int g b)=>if k=g then some (.bool (a==b)) else none
  | .neq,some (.int k a),some (.int g b)=>if k=g then some (.bool (a != b)) else none
  | .lss,some (.int k a),some (.int g b)=>if k=g then some (.bool (decide (a<b))) else none
  | .leq,some (.int k a),some (.int g b)=>if k=g then some (.bool (decide (a<=b))) else none
  | .gtr,some (.int k a),some (.int g b)=>if k=g then some (.bool (decide (a > b))) else none
  | .geq,some (.int k a),some (.int g b)=>if k=g then some (.bool (decide (a≥b))) else none
  | _,_,_=>none
 | _=>none
theorem Pm{C:Ctx}{T:RT}(hT:aU C T=true){ρ:Operand->Option Value}{op:Op}{v:Value}(q:It T ρ op=some v)(h:au):aW C ρ h op=some (.val v h):=by
 cases op with
 | move x=>simp only[It] at q;simp only[aW,q];rfl
 | assign x=>simp only[It] at q;simp only[aW,q];rfl
 | pick c a b=>
  simp only[It] at q;simp only[aW];split at q
  ·rename_i g;simp only[g,q];rfl
  ·rename_i g;simp only[g,q];rfl
  ·cases q
 | build t ps=>
  simp only[It] at q;simp only[aW];split at q
  ·rename_i g;simp only[g,Ko hT q];rfl
  ·cases q
 | nilCheck x=>
  simp only[It] at q;simp only[aW];split at q
  ·rename_i g;cases q;simp only[g];rfl
  ·rename_i g;cases q;simp only[g];rfl
  ·cases q
 | unOp op t x=>
  simp only[It] at q;simp only[aW];split at q
  ·rename_i g;simp only[g,q];rfl
  ·cases q
 | makeFunc fn xs ys=>
  simp only[It] at q;simp only[aW];split at q
  ·rename_i h1 j;cases q;simp only[h1,j];rfl
  ·cases q
 | fieldAddr t x f=>
  simp only[It] at q;simp only[aW];split at q
  ·rename_i g;simp only[g,Bo hT q];rfl
  ·cases q
 | field t x f=>
  simp only[It] at q;simp only[aW];split at q
  ·rename_i g;simp only[g,Jk hT q];rfl
  ·cases q
 | extract x i=>
  simp only[It] at q;simp only[aW];split at q
  ·rename_i g;simp only[g,q];rfl
  ·cases q
 | call c=>
  cases c with
  | mk callee args argTypes=>
  cases callee with
  | builtin b=>
   cases b<;>first | (cases q;done) | skip
   simp only[It] at q;split at q
   ·rename_i x t ts h1 j;simp only[aW,h1,bR,j,Nu hT q h];rfl
   ·cases q
  | _=>cases q
 | binOp op t x y m=>
  simp only[It] at q;simp only[aW];split at q
  all_goals first
   | (rename_i h1 j
      split at q
      · rename_i hk;subst hk;cases q
        simp only[h1,j,mw,fF,TY];rfl
      · cases q)
   | (cases q;done)
 | _=>cases q
def xL:List (Nat×aJ)->Nat->Nat×aJ->Option (List (Nat×aJ))
 | [],_,_=>none
 | _::B,0,x=>some (x::B)
 | b::B,q+1,x=>match xL B q x with
  | some B=>some (b::B)
  | none=>none
def ku:bA->Nat->List (Nat×aJ)->Option bA
 | [],_,_=>none
 | _::own,0,x=>some (x::own)
 | B::own,p+1,x=>match ku own p x with
  | some own=>some (B::own)
  | none=>none
theorem gK:∀(B:List (Nat×aJ)) (q:Nat) (x:Nat×aJ) (g:List (Nat×aJ)),xL B q x=some g->B.set q x=g
 | [],_,_,_,h=>by cases h
 | _::B,0,x,g,h=>by cases h;rfl
 | b::B,q+1,x,g,h=>by{unfold xL at h;split at h;{rename_i i j;cases h;simp[gK B q x i j]};{cases h}}
theorem cQ:∀(own:bA) (p:Nat) (x:List (Nat×aJ)) (aY:bA),ku own p x=some aY->own.set p x=aY
 | [],_,_,_,h=>by cases h
 | _::B,0,x,g,h=>by cases h;rfl
 | b::B,q+1,x,g,h=>by{unfold ku at h;split at h;{rename_i i j;cases h;simp[cQ B q x i j]};{cases h}}
section
variable {C:Ctx}{T:RT}{n:Nat}{k:ck}{F:aA}{own:bA}{ops rest:List Oper}{o:Oper}{Q:ck->aA->bA->List Rec->Prop}
theorem aC{d:Nat}{v:Value}(g:Nat.blt d n=true):ew n k (some d) v=(d,v)::k:=by simp only[ew,g,xf]
theorem WT.QF(hT:aU C T=true){d:Nat}{v:Value}{l:List Nat}(hw:aL ops k o=some true)(g:It T (bg C k) o.op=some v)(i:o.dst=some d)(j:Nat.blt d n=true)(p:bl (bg C k) o.op=some l)
  (h:WT C n ops rest ((d,v)::k) F own (λk2 r own2 rs=>Q k2 r own2 (⟨F,own,F,own,l⟩::rs))):WT C n ops (o::rest) k F own Q:=
 WT.still hw p (λt _=>Pm hT g t) (by rw[i,aC j];exact h)
theorem WT.loadT(hT:aU C T=true)(p:Nat){d:Nat}{t:TypeId}{a:Operand}{i off:Nat}{ro:Bool}{cs:List Value}{v:Value}(g:o.op=.load t a)(hw:aL ops k o=some true)(j:o.dst=some d)(l:Nat.blt d n=true)(r:bg C k a=some (.pointer (some ⟨i,off,none⟩)))
  {B:List (Nat×aJ)} (hp:own[p]?=some B) (I:(i,aJ.cells ro cs)∈B) (J:oK T cs t off=some v)
  (h:WT C n ops rest ((d,v)::k) F own (λk2 P own2 rs=>Q k2 P own2 (⟨F,own,F,own,[i]⟩::rs))):WT C n ops (o::rest) k F own Q:=
 WT.uj p g hw r hp I (aM hT J) (by rw[j,aC l];exact h)
theorem WT.storeT(hT:aU C T=true)(p q:Nat){B r:List (Nat×aJ)}{aY:bA}{t:TypeId}{a x:Operand}{i off m:Nat}{cs cs':List Value}{v:Value}(g:o.op=.store t a x)(hw:aL ops k o=some true)(I:o.dst=none)(J:bg C k a=some (.pointer (some ⟨i,off,none⟩)))
  (P:bg C k x=some v) (hp:own[p]?=some B) (R:B[q]?=some (i,.cells false cs)) (hm:ef T t=some m) (j:(Nat.beq v.cells.toList.length m&&v.cells.toList.all one)=true) (l:tT off cs v.cells.toList=some cs')
  (U:xL B q (i,.cells false cs')=some r) (ho:ku own p r=some aY)
  (h:WT C n ops rest k F aY (λk2 F2 own2 rs=>Q k2 F2 own2 (⟨F,own,F,aY,[i]⟩::rs))) :
  WT C n ops (o::rest) k F own Q:=by
 simp only[tx] at j;obtain⟨rfl,hle⟩:=sP _ _ _ _ l;have e1:=gK _ _ _ _ U;have e2:=cQ _ _ _ _ ho;subst e1;subst e2;have hlen:=Mr j.1;exact WT.store p q g hw J P hp R (bS hT hm) hlen j.2 (by rw[<-hlen];exact hle) (by rw[I];exact h)
theorem WT.az(hT:aU C T=true){d:Nat}{t:TypeId}{z:Value}(g:o.op=.alloc t)(hw:aL ops k o=some true)(l:o.dst=some d)(p:Nat.blt d n=true)(r:gL T t=some z)
  {zs:List Value} (j:takeN z.cells.toList.length z.cells.toList=some zs)
  (h:∀i,F i=none->WT C n ops rest ((d,.pointer (some ⟨i,0,none⟩))::k) F ([(i,.cells false zs)]::own) (λk2 I own2 rs=>Q k2 I own2 (⟨F,own,F,[(i,.cells false zs)]::own,[]⟩::rs))) :
  WT C n ops (o::rest) k F own Q:=by
 have:=(oZ _ _ _ j).1;rw[Uo] at this;subst this;exact WT.alloc g hw (cZ hT r) (λi hi=>by rw[l,aC p];exact h i hi)
theorem WT.bN{d:Nat}{t:TypeId}{x:Operand}{v:Value}{vs:List Value}(g:o.op=.box t x)(hw:aL ops k o=some true)(j:o.dst=some d)(l:Nat.blt d n=true)(p:bg C k x=some v)(r:takeN v.cells.toList.length v.cells.toList=some vs)
  (h:∀i,F i=none->WT C n ops rest ((d,.pointer (some ⟨i,0,none⟩))::k) F ([(i,.cells false vs)]::own) (λk2 I own2 rs=>Q k2 I own2 (⟨F,own,F,[(i,.cells false vs)]::own,[]⟩::rs))) :
  WT C n ops (o::rest) k F own Q:=by
 have:=(oZ _ _ _ r).1;rw[Uo] at this;subst this;exact WT.box g hw p (λi hi=>by rw[j,aC l];exact h i hi)
theorem WT.Pb{d:Nat}{t ty:TypeId}{i j:Operand}{x y:Int}(g:o.op=.binOp .add t i j ty)(hw:aL ops k o=some true)(l:o.dst=some d)(p:Nat.blt d n=true)(r:bg C k i=some (.int .i64 x))(I:bg C k j=some (.int .i64 y))
  (J:-9223372036854775808<=x+y/\x+y<=9223372036854775807)
  (h:WT C n ops rest ((d,.int .i64 (x+y))::k) F own (λk2 P own2 rs=>Q k2 P own2 (⟨F,own,F,own,[]⟩::rs))):WT C n ops (o::rest) k F own Q:=
 WT.add g hw r I J (by rw[l,aC p];exact h)
theorem WT.O5{d:Nat}{t ty:TypeId}{i j:Operand}{x y:Int}(g:o.op=.binOp .sub t i j ty)(hw:aL ops k o=some true)(l:o.dst=some d)(p:Nat.blt d n=true)(r:bg C k i=some (.int .i64 x))(I:bg C k j=some (.int .i64 y))
  (J:-9223372036854775808<=x-y/\x-y<=9223372036854775807)
  (h:WT C n ops rest ((d,.int .i64 (x-y))::k) F own (λk2 P own2 rs=>Q k2 P own2 (⟨F,own,F,own,[]⟩::rs))):WT C n ops (o::rest) k F own Q:=
 WT.sub g hw r I J (by rw[l,aC p];exact h)
end
end Go.Abs