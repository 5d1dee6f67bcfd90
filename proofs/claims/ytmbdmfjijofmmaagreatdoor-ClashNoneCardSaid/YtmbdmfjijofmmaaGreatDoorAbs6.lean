/-
  A logic over the abstract machine: what is known, what is owned, rules for operations and code.
-/
import Derived.Test.YtmbdmfjijofmmaaGreatDoorAbs5
/-
 A logic over the abstract machine: what is known of the slots,which blocks are frozen,which blocks are one's own.
-/
namespace Go.Abs
open Go
def P4(C:Ctx)(f:FuncId)(args:List Value)(h:au)(v:Value)(g:au):Prop:=∃m,∀n,m<=n->call C n f args h=some (v,g)
def OE(C:Ctx)(c:Code)(e:Env)(h:au)(x:Ex)(f:Env)(g:au):Prop:=∃m,∀n,m<=n->exec C n c e h=some (x,f,g)
abbrev bY:=List (Nat×Value)
def lk:bY->Nat->Option Value
 | [],_=>none
 | (i,v)::k,j=>bif Nat.beq i j then some v else lk k j
structure gL(n:Nat)(e:Env)(k:bY):Prop where
 n:e.n=n
 get:∀i v,lk k i=some v->e.get i=some v
def aW(C:Ctx)(k:bY):Operand->Option Value
 | .tmp i=>lk k i
 | .const v=>bif plain v then some v else none
 | .global g=>bif Nat.blt g C.cM then some (.pointer (some ⟨g,0,none⟩)) else none
 | .func f=>some (.func (.func f) #[] #[])
theorem gL.eval{C:Ctx}{n:Nat}{e:Env}{k:bY}(h:gL n e k):∀x v,aW C k x=some v->e.eval C x=some v
 | .tmp i,v,q=>h.get i v q
 | .const _,_,q=>q
 | .global _,_,q=>q
 | .func _,_,q=>q
def eS(n:Nat)(k:bY)(d:Option Tmp)(v:Value):bY:=
 match d with
 | none=>k
 | some d=>bif Nat.blt d n then (d,v)::k else k
theorem gL.put{n:Nat}{e:Env}{k:bY}(h:gL n e k)(d:Option Tmp)(v:Value):gL n (e.put d v) (eS n k d v):=by cases d with| none=>{exact h}| some d=>{simp only[Env.put,eS,h.n];cases g:Nat.blt d n with| false=>{exact h}| true=>{simp only[xf];refine⟨rfl,λi u q=>?_⟩;simp only[lk] at q;show T.get (T.set e.t d (some v)) i=some u;rw[T.lz];by_cases hi:i=d;{subst hi;have:Nat.beq i i=true:=Uo i;rw[this] at q;simpa using q};{rw[mb hi];have:Nat.beq d i=false:=by{cases f:Nat.beq d i with| false=>{rfl}| true=>{exact absurd (R6 f).symm hi}};rw[this] at q;exact h.get i u q}}}
def dm(k2 k:bY):Prop:=∀i v,lk k2 i=some v->lk k i=some v
theorem dm.nil(k:bY):dm [] k:=λ_ _ q=>by cases q
theorem dm.cons{i:Nat}{v:Value}{k2 k:bY}(g:lk k i=some v)(l:dm k2 k):dm ((i,v)::k2) k:=by intro j u q;simp only[lk] at q;cases f:Nat.beq i j with| true=>{rw[f] at q;have:=R6 f;subst this;cases q;exact g}| false=>{rw[f] at q;exact l j u q}
theorem gL.weaken{n:Nat}{e:Env}{k k2:bY}(h:gL n e k)(hs:dm k2 k):gL n e k2:=⟨h.n,λi v q=>h.get i v (hs i v q)⟩
theorem Aw{ρ f:Operand->Option Value}(g:∀x v,ρ x=some v->f x=some v):∀(xs:List Operand) (vs:List Value),cZ ρ xs=some vs->cZ f xs=some vs
 | [],vs,q=>q
 | x::xs,vs,q=>by{unfold cZ at q |-;cases i:ρ x with| none=>{simp[i] at q}| some v=>{cases j:cZ ρ xs with| none=>{simp[i,j] at q}| some us=>{rw[g x v i,Aw g xs us j];simpa [i,j] using q}}}
theorem vJ{ρ f:Operand->Option Value}(g:∀x v,ρ x=some v->f x=some v):∀(xs:List (Nat×Operand)) (vs:List (Nat×Value)),fw ρ xs=some vs->fw f xs=some vs
 | [],vs,q=>q
 | (i,x)::xs,vs,q=>by{unfold fw at q |-;cases j:ρ x with| none=>{simp[j] at q}| some v=>{cases l:fw ρ xs with| none=>{simp[j,l] at q}| some us=>{rw[g x v j,vJ g xs us l];simpa [j,l] using q}}}
theorem Ik{ρ f:Operand->Option Value}(g:∀x v,ρ x=some v->f x=some v):∀(x:Option Operand) (r:Option Value),lO ρ x=some r->lO f x=some r
 | none,r,q=>q
 | some x,r,q=>by{simp only[lO] at q |-;cases i:ρ x with| none=>{simp[i] at q}| some v=>{rw[g x v i];simpa [i] using q}}
theorem dY{C:Ctx}{ρ P:Operand->Option Value}(U:∀x v,ρ x=some v->P x=some v){h:au}{op:Op}{r:qy}(q:aQ C ρ h op=some r):aQ C P h op=some r:=by
 have key:∀x,ρ x=none\/∃v,ρ x=some v/\P x=some v:=λx=>by
  cases j:ρ x with
  | none=>exact .inl rfl
  | some v=>exact .inr ⟨v,rfl,U x v j⟩
 have R:∀x,lO ρ x=none\/∃v,lO ρ x=some v/\lO P x=some v:=λx=>by
  cases j:lO ρ x with
  | none=>exact .inl rfl
  | some v=>exact .inr ⟨v,rfl,Ik U x v j⟩
 have p:∀x:List Operand,cZ ρ x=none\/∃v,cZ ρ x=some v/\cZ P x=some v:=λx=>by
  cases j:cZ ρ x with
  | none=>exact .inl rfl
  | some v=>exact .inr ⟨v,rfl,Aw U x v j⟩
 have J:∀x:List (Nat×Operand),fw ρ x=none\/∃v,fw ρ x=some v/\fw P x=some v:=λx=>by
  cases j:fw ρ x with
  | none=>exact .inl rfl
  | some v=>exact .inr ⟨v,rfl,vJ U x v j⟩
 cases op with
 | makeMap t hint=>exact(by cases hint<;>exact q)
 | alloc e=>exact q
 | call c=>
  cases c with
  | mk callee args argTypes=>
  cases callee with
  | builtin b=>
   rcases p args.toList with g | ⟨v0,g,l⟩
   ·simp[aQ,g] at q
   simp only[aQ,g] at q;simp only[aQ,l];exact q
  | value f=>
   rcases key f with j | ⟨v1,j,o⟩
   ·simp[aQ,j] at q
   rcases p args.toList with g | ⟨v0,g,l⟩
   ·simp[aQ,g,j] at q
   simp only[aQ,g,j] at q;simp only[aQ,l,o];exact q
  | invoke f m=>
   rcases key f with j | ⟨v1,j,o⟩
   ·simp[aQ,j] at q
   rcases p args.toList with g | ⟨v0,g,l⟩
   ·simp[aQ,g,j] at q
   simp only[aQ,g,j] at q;simp only[aQ,l,o];exact q
 | pick c x y=>
  rcases key c with g | ⟨v0,g,l⟩
  ·simp[aQ,g] at q
  simp only[aQ,g] at q;simp only[aQ,l];split at q
  ·rcases key x with j | ⟨v1,j,o⟩
   ·simp[j] at q
   ·rw[j] at q;rw[o];exact q
  ·rcases key y with j | ⟨v1,j,o⟩
   ·simp[j] at q
   ·rw[j] at q;rw[o];exact q
  ·cases q
 | move x=>
  rcases key x with g | ⟨v0,g,l⟩
  ·simp[aQ,g] at q
  simp only[aQ,g] at q;simp only[aQ,l];exact q
 | assign x=>
  rcases key x with g | ⟨v0,g,l⟩
  ·simp[aQ,g] at q
  simp only[aQ,g] at q;simp only[aQ,l];exact q
 | box t x=>
  rcases key x with g | ⟨v0,g,l⟩
  ·simp[aQ,g] at q
  simp only[aQ,g] at q;simp only[aQ,l];exact q
 | build t ps=>
  rcases J ps.toList with g | ⟨v0,g,l⟩
  ·simp[aQ,g] at q
  simp only[aQ,g] at q;simp only[aQ,l];exact q
 | buildSlice t n ps=>
  rcases J ps.toList with g | ⟨v0,g,l⟩
  ·simp[aQ,g] at q
  simp only[aQ,g] at q;simp only[aQ,l];exact q
 | load t x=>
  rcases key x with g | ⟨v0,g,l⟩
  ·simp[aQ,g] at q
  simp only[aQ,g] at q;simp only[aQ,l];exact q
 | store t x y=>
  rcases key x with g | ⟨v0,g,l⟩
  ·simp[aQ,g] at q
  rcases key y with j | ⟨v1,j,o⟩
  ·simp[aQ,g,j] at q
  simp only[aQ,g,j] at q;simp only[aQ,l,o];exact q
 | nilCheck x=>
  rcases key x with g | ⟨v0,g,l⟩
  ·simp[aQ,g] at q
  simp only[aQ,g] at q;simp only[aQ,l];exact q
 | binOp op t x y m=>
  rcases key x with g | ⟨v0,g,l⟩
  ·simp[aQ,g] at q
  rcases key y with j | ⟨v1,j,o⟩
  ·simp[aQ,g,j] at q
  simp only[aQ,g,j] at q;simp only[aQ,l,o];exact q
 | unOp op t x=>
  rcases key x with g | ⟨v0,g,l⟩
  ·simp[aQ,g] at q
  simp only[aQ,g] at q;simp only[aQ,l];exact q
 | convert s d x=>
  rcases key x with g | ⟨v0,g,l⟩
  ·simp[aQ,g] at q
  simp only[aQ,g] at q;simp only[aQ,l];exact q
 | makeInterface t x=>
  rcases key x with g | ⟨v0,g,l⟩
  ·simp[aQ,g] at q
  simp only[aQ,g] at q;simp only[aQ,l];exact q
 | makeFunc f xs ys=>
  rcases p xs.toList with g | ⟨v0,g,l⟩
  ·simp[aQ,g] at q
  rcases p ys.toList with j | ⟨v1,j,o⟩
  ·simp[aQ,g,j] at q
  simp only[aQ,g,j] at q;simp only[aQ,l,o];exact q
 | makeSlice t x y=>
  rcases key x with g | ⟨v0,g,l⟩
  ·simp[aQ,g] at q
  rcases key y with j | ⟨v1,j,o⟩
  ·simp[aQ,g,j] at q
  simp only[aQ,g,j] at q;simp only[aQ,l,o];exact q
 | slice t x lo hi mx=>
  rcases key x with g | ⟨v0,g,l⟩
  ·simp[aQ,g] at q
  rcases R lo with j | ⟨v1,j,o⟩
  ·simp[aQ,g,j] at q
  rcases R hi with I | ⟨v2,I,g2⟩
  ·simp[aQ,g,j,I] at q
  rcases R mx with h3 | ⟨v3,h3,g3⟩
  ·simp[aQ,g,j,I,h3] at q
  simp only[aQ,g,j,I,h3] at q;simp only[aQ,l,o,g2,g3];exact q
 | fieldAddr t x f=>
  rcases key x with g | ⟨v0,g,l⟩
  ·simp[aQ,g] at q
  simp only[aQ,g] at q;simp only[aQ,l];exact q
 | field t x f=>
  rcases key x with g | ⟨v0,g,l⟩
  ·simp[aQ,g] at q
  simp only[aQ,g] at q;simp only[aQ,l];exact q
 | indexAddr t x i=>
  rcases key x with g | ⟨v0,g,l⟩
  ·simp[aQ,g] at q
  rcases key i with j | ⟨v1,j,o⟩
  ·simp[aQ,g,j] at q
  simp only[aQ,g,j] at q;simp only[aQ,l,o];exact q
 | index t x i=>
  rcases key x with g | ⟨v0,g,l⟩
  ·simp[aQ,g] at q
  rcases key i with j | ⟨v1,j,o⟩
  ·simp[aQ,g,j] at q
  simp only[aQ,g,j] at q;simp only[aQ,l,o];exact q
 | lookup t x i ok=>
  rcases key x with g | ⟨v0,g,l⟩
  ·simp[aQ,g] at q
  rcases key i with j | ⟨v1,j,o⟩
  ·simp[aQ,g,j] at q
  simp only[aQ,g,j] at q;simp only[aQ,l,o];exact q
 | mapUpdate t x y z=>
  rcases key x with g | ⟨v0,g,l⟩
  ·simp[aQ,g] at q
  rcases key y with j | ⟨v1,j,o⟩
  ·simp[aQ,g,j] at q
  rcases key z with I | ⟨v2,I,g2⟩
  ·simp[aQ,g,j,I] at q
  simp only[aQ,g,j,I] at q;simp only[aQ,l,o,g2];exact q
 | mapEntry t x y=>
  rcases key x with g | ⟨v0,g,l⟩
  ·simp[aQ,g] at q
  rcases key y with j | ⟨v1,j,o⟩
  ·simp[aQ,g,j] at q
  simp only[aQ,g,j] at q;simp only[aQ,l,o];exact q
 | entryStore t x y z=>
  rcases key x with g | ⟨v0,g,l⟩
  ·simp[aQ,g] at q
  rcases key y with j | ⟨v1,j,o⟩
  ·simp[aQ,g,j] at q
  rcases key z with I | ⟨v2,I,g2⟩
  ·simp[aQ,g,j,I] at q
  simp only[aQ,g,j,I] at q;simp only[aQ,l,o,g2];exact q
 | insert t x y z=>
  rcases key x with g | ⟨v0,g,l⟩
  ·simp[aQ,g] at q
  rcases key y with j | ⟨v1,j,o⟩
  ·simp[aQ,g,j] at q
  rcases key z with I | ⟨v2,I,g2⟩
  ·simp[aQ,g,j,I] at q
  simp only[aQ,g,j,I] at q;simp only[aQ,l,o,g2];exact q
 | typeAssert x xt t b=>
  rcases key x with g | ⟨v0,g,l⟩
  ·simp[aQ,g] at q
  simp only[aQ,g] at q;simp only[aQ,l];exact q
 | extract x i=>
  rcases key x with g | ⟨v0,g,l⟩
  ·simp[aQ,g] at q
  simp only[aQ,g] at q;simp only[aQ,l];exact q
 | _=>exact q
mutual
theorem eP:∀(a:Value),bU a a=true
 | .bool a=>by simp[bU]
 | .int k a=>by simp[bU]
 | .float k a=>by simp[bU]
 | .complex k a c=>by simp[bU]
 | .string a=>by simp[bU]
 | .pointer a=>by simp[bU]
 | .slice a n c=>by simp[bU]
 | .map a=>by simp[bU]
 | .chan a=>by simp[bU]
 | .func f ⟨xs⟩ ⟨ys⟩=>by simp[bU,iE xs,iE ys]
 | .nilFunc=>rfl
 | .iface t v=>by simp[bU,eP v]
 | .nilIface=>rfl
 | .agg ⟨xs⟩=>by simp only[bU];exact iE xs
 | .tuple ⟨xs⟩=>by simp only[bU];exact iE xs
theorem iE:∀(a:List Value),iz a a=true
 | []=>rfl
 | x::xs=>by simp only[iz,eP x,iE xs];rfl
end
theorem vA:∀(a:List (Value×Value)),nY a a=true
 | []=>rfl
 | (x,y)::xs=>by simp only[nY,eP x,eP y,vA xs];rfl
theorem x9:∀(a:Option aC),kL a a=true
 | none=>rfl
 | some (.cells r xs)=>by simp only[kL,iE xs];simp
 | some (.map xs)=>by simp only[kL,vA xs]
abbrev aw:=Nat->Option aC
abbrev bH:=List (List (Nat×aC))
def aw.le(F G:aw):Prop:=∀i b,F i=some b->G i=some b
theorem aw.le.refl(F:aw):aw.le F F:=λ_ _ q=>q
theorem aw.le.trans{F G H:aw}(f:aw.le F G)(g:aw.le G H):aw.le F H:=λi b q=>g i b (f i b q)
structure kT(F:aw)(l:List (Nat×aC))(h:au):Prop where
 z4:∀i b,F i=some b->h.get i=some b
 has:∀p∈l,h.get p.1=some p.2
 apart:∀p∈l,F p.1=none
 nodup:(l.map (·.1)).Nodup
 wf:∀i b,h.get i=some b->i<h.next
theorem kT.perm{F:aw}{l g:List (Nat×aC)}{h:au}(s:kT F l h)(f:l.Perm g):kT F g h:=
 ⟨s.z4,λp q=>s.has p (f.mem_iff.2 q),λp q=>s.apart p (f.mem_iff.2 q),(f.map _).nodup_iff.1 s.nodup,s.wf⟩
theorem kT.sub{F:aw}{l g:List (Nat×aC)}{h:au}(s:kT F l h)(f:g.Sublist l):kT F g h:=
 ⟨s.z4,λp q=>s.has p (f.subset q),λp q=>s.apart p (f.subset q),s.nodup.sublist (f.map _),s.wf⟩
def aw.with(F:aw)(i:Nat)(b:aC):aw:=λj=>if j=i then some b else F j
section
variable {F:aw}{l:List (Nat×aC)}{h:au}{i:Nat}{b b':aC}
theorem kT.ne(s:kT F ((i,b)::l) h):∀q∈l,q.1≠i:=λq g e=>by have f:=s.nodup;simp only[y2,Ss] at f;exact f.1 (e▸SZ g)
theorem kT.tail(s:kT F ((i,b)::l) h):kT F l h:=s.sub (Tm _ _)
theorem kT.alloc(s:kT F l h)(b:aC):kT F ((h.next,b)::l) (h.alloc b)/\(∀p∈l,p.1≠h.next)/\F h.next=none:=by have f:∀p∈l,p.1≠h.next:=λp q e=>by{have:=s.wf _ _ (s.has p q);omega};have g:F h.next=none:=by{cases j:F h.next with| none=>{rfl}| some c=>{have:=s.wf _ _ (s.z4 _ _ j);omega}};refine⟨⟨λi c q=>?_,λp q=>?_,λp q=>?_,?_,λi c q=>?_⟩,f,g⟩;{rw[au.dH];split;{rename_i e;rw[e,g] at q;cases q};{exact s.z4 i c q}};{rw[au.dH];rcases IN.1 q with rfl | q;{simp};{rw[mb (f p q)];exact s.has p q}};{rcases IN.1 q with rfl | q;{exact g};{exact s.apart p q}};{simp only[y2,Ss];refine⟨λhm=>?_,s.nodup⟩;obtain⟨p,o,e⟩:=tx.1 hm;exact f p o e};{rw[au.dH] at q;show i<h.next+1;split at q;{omega};{have:=s.wf i c q;omega}}
theorem kT.put(s:kT F ((i,b)::l) h)(b':aC):kT F ((i,b')::l) (h.put i (some b')):=by have f:F i=none:=s.apart _ (R2 ..);have hi:i<h.next:=s.wf _ _ (s.has (i,b) (R2 ..));refine⟨λj c q=>?_,λp q=>?_,λp q=>?_,s.nodup,λj c q=>?_⟩;{rw[au.dL];split;{rename_i e;rw[e,f] at q;cases q};{exact s.z4 j c q}};{rw[au.dL];rcases IN.1 q with rfl | q;{simp};{rw[mb (s.ne p q)];exact s.tail.has p q}};{rcases IN.1 q with rfl | q;{exact f};{exact s.tail.apart p q}};{rw[au.dL] at q;show j<h.next;split at q;{rename_i e;rw[e];exact hi};{exact s.wf j c q}}
theorem kT.kill(s:kT F ((i,b)::l) h):kT F l (h.put i none):=by have f:F i=none:=s.apart _ (R2 ..);refine⟨λj c q=>?_,λp q=>?_,s.tail.apart,s.tail.nodup,λj c q=>?_⟩;{rw[au.dL];split;{rename_i e;rw[e,f] at q;cases q};{exact s.z4 j c q}};{rw[au.dL,mb (s.ne p q)];exact s.tail.has p q};{rw[au.dL] at q;show j<h.next;split at q;{cases q};{exact s.wf j c q}}
end
theorem cw{α:Type}{l:List α}{p:Nat}{x:α}(h:l[p]?=some x):l.Perm (x::l.eraseIdx p):=by obtain⟨f,g⟩:=No.1 h;have i:l=l.take p++x::l.drop (p+1):=by{rw[<-g,List.getElem_cons_drop f,S0]};rw[List.eraseIdx_eq_take_drop_succ];refine(Tz i).trans T4
theorem ff{α:Type}{l:List α}{p:Nat}{x:α}(y:α)(h:l[p]?=some x):(l.set p y).Perm (y::l.eraseIdx p):=by obtain⟨g,o⟩:=No.1 h;have i:(l.set p y)[p]?=some y:=by{simp[g]};have f:=cw i;have j:(l.set p y).eraseIdx p=l.eraseIdx p:=by{simp[List.eraseIdx_set_eq]};rw[j] at f;exact f
theorem vH{α:Type}{l g:List (List α)}(h:g.Sublist l):g.flatten.Sublist l.flatten:=by induction h with| slnil=>{exact Sa _}| cons a _ f=>{simp only[So];exact f.trans (List.sublist_append_right _ _)}| cons_cons a _ f=>{simp only[So];exact f.append_left a}
def St(F:aw)(own:bH)(h:au):Prop:=kT F own.flatten h
section
variable {F:aw}{own be:bH}{h:au}{i p q:Nat}{b:aC}{B:List (Nat×aC)}
theorem St.z4(s:St F own h):∀i b,F i=some b->h.get i=some b:=kT.z4 s
theorem St.wf(s:St F own h):∀i b,h.get i=some b->i<h.next:=kT.wf s
theorem St.perm(s:St F own h)(f:own.Perm be):St F be h:=kT.perm s (Um f)
theorem St.sub(s:St F own h)(f:be.Sublist own):St F be h:=kT.sub s (vH f)
theorem St.has(s:St F own h)(f:own[p]?=some B)(g:(i,b)∈B):h.get i=some b:=
 kT.has s (i,b) (T5.2 ⟨B,SL f,g⟩)
theorem St.apart(s:St F own h)(f:own[p]?=some B)(g:(i,b)∈B):F i=none:=
 kT.apart s (i,b) (T5.2 ⟨B,SL f,g⟩)
theorem St.first(s:St F own h)(f:own[p]?=some B)(g:B[q]?=some (i,b)):kT F ((i,b)::(B.eraseIdx q++(own.eraseIdx p).flatten)) h:=by have j:kT F (B++(own.eraseIdx p).flatten) h:=by{have:=kT.perm s (Um (cw f));simpa using this};exact j.perm ((cw g).append_right _)
theorem St.back{f:List (Nat×aC)}(g:own[p]?=some B){l:List (Nat×aC)}(s:kT F l h)(j:l.Perm (f++(own.eraseIdx p).flatten)):St F (own.set p f) h:=by refine kT.perm s (j.trans ?_);have:=Um (ff f g);simpa using this.symm
theorem St.put(s:St F own h)(f:own[p]?=some B)(g:B[q]?=some (i,b))(b':aC):St F (own.set p (B.set q (i,b'))) (h.put i (some b')):=
 St.back f ((s.first f g).put b') ((ff (i,b') g).symm.append_right _)
theorem St.alloc(s:St F own h)(b:aC):St F ([(h.next,b)]::own) (h.alloc b)/\(∀p∈own.flatten,p.1≠h.next)/\F h.next=none:=kT.alloc s b
end
end Go.Abs
/-
 The logic's rules for operations and regions.
-/
set_option linter.unusedVariables false
namespace Go.Abs
open Go
section
variable {C:Ctx}{n:Nat}
def bg(ρ:Operand->Option Value):Op->Option (List Nat)
 | .load _ a=>match ρ a with
  | some (.pointer (some a))=>some [a.block]
  | some _=>some []
  | none=>none
 | .store _ a _=>match ρ a with
  | some (.pointer (some a))=>some [a.block]
  | some _=>some []
  | none=>none
 | .slice _ a _ _ _=>match ρ a with
  | some (.pointer (some a))=>some [a.block]
  | some _=>some []
  | none=>none
 | .lookup _ m _ _=>match ρ m with
  | some (.map (some r))=>some [r]
  | some _=>some []
  | none=>none
 | .binOp _ _ x y _=>match ρ x,ρ y with
  | some x,some y=>some ((match x with | .pointer (some a)=>[a.block] | _=>[])++(match y with | .pointer (some a)=>[a.block] | _=>[]))
  | _,_=>none
 | .call c=>match c.callee with
  | .builtin .len=>match c.args.toList with
   | x::_=>match ρ x with
    | some (.map (some r))=>some [r]
    | some _=>some []
    | none=>none
   | _=>some []
  | _=>some []
 | _=>some []
theorem A5{ρ f:Operand->Option Value}(j:∀x v,ρ x=some v->f x=some v){op:Op}{l:List Nat}(q:bg ρ op=some l):bL f op=l:=by
 have key:∀x,ρ x=none\/∃v,ρ x=some v/\f x=some v:=λx=>by
  cases p:ρ x with
  | none=>exact .inl rfl
  | some v=>exact .inr ⟨v,rfl,j x v p⟩
 cases op with
 | load t x=>
  rcases key x with h | ⟨v,h,g⟩
  ·simp[bg,h] at q
  simp only[bg,h] at q;simp only[bL,g];split at q<;>simp_all
 | store t x y=>
  rcases key x with h | ⟨v,h,g⟩
  ·simp[bg,h] at q
  simp only[bg,h] at q;simp only[bL,g];split at q<;>simp_all
 | slice t x lo hi I=>
  rcases key x with h | ⟨v,h,g⟩
  ·simp[bg,h] at q
  simp only[bg,h] at q;simp only[bL,g];split at q<;>simp_all
 | lookup t x y ok=>
  rcases key x with h | ⟨v,h,g⟩
  ·simp[bg,h] at q
  simp only[bg,h] at q;simp only[bL,g];split at q<;>simp_all
 | binOp op t x y m=>
  rcases key x with h | ⟨v,h,g⟩
  ·simp[bg,h] at q
  rcases key y with o | ⟨v2,o,r⟩
  ·simp[bg,h,o] at q
  simp only[bg,h,o,pr] at q;simp only[bL,g,r];rw[<-q];congr 1<;>(split<;>simp_all)
 | call c=>
  cases c with
  | mk callee args argTypes=>
  cases callee with
  | builtin b=>
   cases b<;>first | (cases q;rfl) | skip
   cases i:args.toList with
   | nil=>
    simp only[bg,i] at q;cases q;simp only[bL,i]
   | cons x xs=>
    simp only[bg,i] at q;simp only[bL,i];rcases key x with h | ⟨v,h,g⟩
    ·simp[h] at q
    simp only[h] at q;simp only[g];split at q<;>simp_all
  | _=>cases q;rfl
 | _=>cases q;rfl
def od:Op->Bool
 | .load _ _=>true
 | .store _ _ _=>true
 | .slice _ _ _ _ _=>true
 | .lookup _ _ _ _=>true
 | .binOp _ _ _ _ _=>true
 | .call c=>match c.callee with
  | .builtin .len=>true
  | _=>false
 | _=>false
theorem vE{ρ:Operand->Option Value}{op:Op}{l:List Nat}(f:od op=false)(q:bg ρ op=some l):l=[]:=by
 cases op with
 | call c=>
  cases c with
  | mk callee args argTypes=>
  cases callee with
  | builtin b=>cases b<;>first | (cases f;done) | (cases q;rfl)
  | _=>cases q;rfl
 | _=>first | (cases f;done) | (cases q;rfl)
def aH(ops:List Oper)(k:bY)(o:Oper):Option Bool:=
 match o.guard with
 | none=>some true
 | some (j,want)=>match (ops[j]?).bind (·.dst) with
  | none=>some false
  | some d=>match lk k d with
   | some (.bool b)=>some (b==want)
   | some (.tuple ⟨[]⟩)=>some false
   | _=>none
theorem eJ{ops:List Oper}{k:bY}{e:Env}{o:Oper}{b:Bool}(hk:gL n e k)(q:aH ops k o=some b):qA ops e o=some b:=by cases f:o.guard with| none=>{simp only[aH,f] at q;simp only[qA,f];exact q}| some l=>{obtain⟨j,want⟩:=l;cases g:(ops[j]?).bind (·.dst) with| none=>{simp only[aH,f,g] at q;simp only[qA,f,g];exact q}| some d=>{simp only[aH,f,g] at q;simp only[qA,f,g];cases h:lk k d with| none=>{simp[h] at q}| some v=>{rw[h] at q;rw[hk.get d v h];split at q;{rename_i i;cases i;exact q};{rename_i i;cases i;exact q};{cases q}}}}
class PW where
 p:au->Prop
instance noBend:PW:=⟨λ_=>False⟩
structure Rec where
 F:aw
 own:bH
 F':aw
 be:bH
 looks:List Nat
 [bend:PW]
inductive Told:List Oper->List qt->List Rec->Prop
 | nil:Told [] [] []
 | cons {o:Oper} {os:List Oper} {h h1:au} {r:Rec} {fl:au->Bool} {tr:List qt} {rs:List Rec}:(od o.op=false->r.looks=[])->(∀h2,r.bend.p h2->fl h2=true)->St r.F r.own h->St r.F' r.be h1->aw.le r.F r.F'->Told os tr rs->
   Told (o::os) ((h,h1,r.looks,fl)::tr) (r::rs)
def WT(C:Ctx)(n:Nat)(ops rest:List Oper)(k:bY)(F:aw)(own:bH)(Q:bY->aw->bH->List Rec->Prop):Prop:=
 ∀e h,gL n e k->St F own h->∃g i tr k' f be rs,(∃m,∀N,m<=N->fz C (call C N) ops rest e h=some (g,i,tr))/\
  gL n g k'/\aw.le F f/\St f be i/\Told rest tr rs/\Q k' f be rs
variable {ops rest:List Oper}{o:Oper}{k:bY}{F:aw}{own:bH}{Q:bY->aw->bH->List Rec->Prop}
theorem WT.nil(h:Q k F own []):WT C n ops [] k F own Q:=
 λe f hk hs=>⟨e,f,[],k,F,own,[],⟨0,λ_ _=>rfl⟩,hk,aw.le.refl F,hs,.nil,h⟩
theorem WT.step{l:List Nat}(U:bg (aW C k) o.op=some l)
  (p:∀e h,gL n e k->St F own h->∃v h' j be,(∃m,∀N,m<=N->dj C (call C N) ops o e h=some (e.put o.dst v,h'))/\aw.le F j/\St j be h'/\
   WT C n ops rest (eS n k o.dst v) j be (λk2 t own2 rs=>Q k2 t own2 (⟨F,own,j,be,l⟩::rs))):WT C n ops (o::rest) k F own Q:=by intro e h hk hs;obtain⟨v,h1,F1,f,⟨m1,I⟩,g,i,hw⟩:=p e h hk hs;obtain⟨e2,h2,tr,k2,t,own2,rs,⟨m2,hr⟩,J,P,R,ht,hq⟩:=hw (e.put o.dst v) h1 (hk.put o.dst v) i;refine⟨e2,h2,(h,h1,l,jV C (e.eval C) h o.op)::tr,k2,t,own2,⟨F,own,F1,f,l⟩::rs,⟨max m1 m2,λN hN=>?_⟩,J,g.trans P,R,.cons (r:=⟨F,own,F1,f,l⟩) (λhn=>vE hn U) (λ_ hb=>hb.elim) hs i g ht,hq⟩;unfold fz;rw[I N (by omega)];simp only[hr N (by omega),A5 hk.eval U]
theorem WT.fW{l:List Nat}(f:au->Prop)(P:bg (aW C k) o.op=some l)
  (i:∀e h,gL n e k->St F own h->∃v,(∃m,∀N,m<=N->dj C (call C N) ops o e h=some (e.put o.dst v,h))/\(∀g,f g->jV C (e.eval C) h o.op g=true)/\
   WT C n ops rest (eS n k o.dst v) F own (λk2 j own2 rs=>Q k2 j own2 (@Rec.mk F own F own l ⟨f⟩::rs))):WT C n ops (o::rest) k F own Q:=by intro e h hk hs;obtain⟨v,⟨R,p⟩,U,hw⟩:=i e h hk hs;obtain⟨e2,g,tr,k2,j,own2,rs,⟨m2,hr⟩,t,I,J,ht,hq⟩:=hw (e.put o.dst v) h (hk.put o.dst v) hs;refine⟨e2,g,(h,h,l,jV C (e.eval C) h o.op)::tr,k2,j,own2,@Rec.mk F own F own l ⟨f⟩::rs,⟨max R m2,λN hN=>?_⟩,t,I,J,.cons (r:=@Rec.mk F own F own l ⟨f⟩) (λhn=>vE hn P) U hs hs (aw.le.refl F) ht,hq⟩;unfold fz;rw[p N (by omega)];simp only[hr N (by omega),A5 hk.eval P]
theorem WT.skip{l:List Nat}(hw:aH ops k o=some false)(f:bg (aW C k) o.op=some l)
  (h:WT C n ops rest (eS n k o.dst cl) F own (λk2 g own2 rs=>Q k2 g own2 (⟨F,own,F,own,l⟩::rs))):WT C n ops (o::rest) k F own Q:=by refine WT.step f λe i hk hs=>⟨cl,i,F,own,⟨0,λN _=>?_⟩,aw.le.refl F,hs,h⟩;unfold dj;rw[eJ hk hw]
theorem gj{e:Env}{h g:au}{v:Value}(hk:gL n e k)(hw:aH ops k o=some true)(f:aQ C (aW C k) h o.op=some (.val v g))(cal:rJ) :
  dj C cal ops o e h=some (e.put o.dst v,g):=by unfold dj;rw[eJ hk hw];simp only[dY hk.eval f]
theorem WT.still{v:Value}{l:List Nat}(hw:aH ops k o=some true)(i:bg (aW C k) o.op=some l)
  (f:∀h,St F own h->aQ C (aW C k) h o.op=some (.val v h))
  (h:WT C n ops rest (eS n k o.dst v) F own (λk2 j own2 rs=>Q k2 j own2 (⟨F,own,F,own,l⟩::rs))):WT C n ops (o::rest) k F own Q:=
 WT.step i λe g hk hs=>⟨v,g,F,own,⟨0,λN _=>gj hk hw (f g hs) _⟩,aw.le.refl F,hs,h⟩
theorem WT.new{mk:Nat->Value}{b:aC}{l:List Nat}(hw:aH ops k o=some true)(j:bg (aW C k) o.op=some l)
  (g:∀h,St F own h->aQ C (aW C k) h o.op=some (.val (mk h.next) (h.alloc b)))
  (h:∀i,F i=none->WT C n ops rest (eS n k o.dst (mk i)) F ([(i,b)]::own) (λk2 p own2 rs=>Q k2 p own2 (⟨F,own,F,[(i,b)]::own,l⟩::rs))):WT C n ops (o::rest) k F own Q:=
 WT.step j λe f hk hs=>
  let ⟨s1,s2,r⟩:=hs.alloc b
  ⟨mk f.next,f.alloc b,F,[(f.next,b)]::own,⟨0,λN _=>gj hk hw (g f hs) _⟩,aw.le.refl F,s1,h f.next r⟩
theorem WT.put{v:Value}{i:Nat}{b b':aC}{l:List Nat}(p q:Nat){B:List (Nat×aC)}(g:own[p]?=some B)(j:B[q]?=some (i,b))(hw:aH ops k o=some true)(t:bg (aW C k) o.op=some l)
  (f:∀h,St F own h->h.get i=some b->aQ C (aW C k) h o.op=some (.val v (h.put i (some b'))))
  (h:WT C n ops rest (eS n k o.dst v) F (own.set p (B.set q (i,b'))) (λk2 I own2 rs=>Q k2 I own2 (⟨F,own,F,own.set p (B.set q (i,b')),l⟩::rs))):WT C n ops (o::rest) k F own Q:=
 WT.step t λe r hk hs=>⟨v,r.put i (some b'),F,own.set p (B.set q (i,b')),⟨0,λN _=>gj hk hw (f r hs (hs.has g (SL j))) _⟩,aw.le.refl F,hs.put g j b',h⟩
theorem WT.move{mk:Nat->Value}{i:Nat}{b b':aC}{l:List Nat}(p:Nat)(g:own[p]?=some [(i,b)])(hw:aH ops k o=some true)(t:bg (aW C k) o.op=some l)
  (r:∀h,St F own h->h.get i=some b->aQ C (aW C k) h o.op=some (.val (mk h.next) ((h.put i none).alloc b')))
  (h:∀j,F j=none->WT C n ops rest (eS n k o.dst (mk j)) F (own.set p [(j,b')]) (λk2 I own2 rs=>Q k2 I own2 (⟨F,own,F,own.set p [(j,b')],l⟩::rs))) :
  WT C n ops (o::rest) k F own Q:=
 WT.step t λe f hk hs=>
  have J:kT F (own.eraseIdx p).flatten (f.put i none):=(hs.first (q:=0) g rfl).kill
  let ⟨s1,s2,P⟩:=J.alloc b'
  ⟨mk f.next,(f.put i none).alloc b',F,own.set p [(f.next,b')],⟨0,λN _=>gj hk hw (r f hs (hs.has g (R2 ..))) _⟩,aw.le.refl F,St.back g s1 (ri _),h f.next P⟩
theorem WT.fill{mk:Nat->Value}{b:aC}{l:List Nat}(p:Nat)(j:own[p]?=some [])(hw:aH ops k o=some true)(r:bg (aW C k) o.op=some l)
  (g:∀h,St F own h->aQ C (aW C k) h o.op=some (.val (mk h.next) (h.alloc b)))
  (h:∀i,F i=none->WT C n ops rest (eS n k o.dst (mk i)) F (own.set p [(i,b)]) (λk2 t own2 rs=>Q k2 t own2 (⟨F,own,F,own.set p [(i,b)],l⟩::rs))):WT C n ops (o::rest) k F own Q:=
 WT.step r λe f hk hs=>
  have I:kT F (own.eraseIdx p).flatten f:=by
   have:=kT.perm hs (Um (cw j));simpa using this
  let ⟨s1,s2,J⟩:=I.alloc b
  ⟨mk f.next,f.alloc b,F,own.set p [(f.next,b)],⟨0,λN _=>gj hk hw (g f hs) _⟩,aw.le.refl F,St.back j s1 (ri _),h f.next J⟩
def Spec(C:Ctx)(f:FuncId)(args:List Value)(F:aw)(oin:bH)(iR:aw->Value->bH->Prop):Prop:=
 ∀own h,St F (oin++own) h->∃v j i g,P4 C f args h v j/\aw.le F i/\St i (g++own) j/\iR i v g
theorem Spec.mono{f:FuncId}{args:List Value}{oin:bH}{iR i:aw->Value->bH->Prop}(h:Spec C f args F oin iR)(p:∀j v g,aw.le F j->iR j v g->i j v g):Spec C f args F oin i:=
 λown r hs=>let ⟨v,t,j,g,I,l,J,P⟩:=h own r hs;⟨v,t,j,g,I,l,J,p _ _ _ l P⟩
theorem WT.call{f:FuncId}{args:List Value}{oin j:bH}{iR:aw->Value->bH->Prop}{l:List Nat}(hw:aH ops k o=some true)(R:bg (aW C k) o.op=some l)
  (r:∀h,aQ C (aW C k) h o.op=some (.call f args)) (spec:Spec C f args F oin iR) (i:own.Perm (oin++j))
  (h:∀p v g,aw.le F p->iR p v g->WT C n ops rest (eS n k o.dst v) p (g++j) (λk2 U own2 rs=>Q k2 U own2 (⟨F,own,p,g++j,l⟩::rs))) :
  WT C n ops (o::rest) k F own Q:=
 WT.step R λe I hk hs=>by obtain⟨v,h1,J,g,⟨m,hd⟩,P,t,hp⟩:=spec j I (hs.perm i);refine⟨v,h1,J,g++j,⟨m,λN hN=>?_⟩,P,t,h J v g P hp⟩;unfold dj;rw[eJ hk hw];simp only[dY hk.eval (r I),hd N hN]
theorem WT.weaken{k2:bY}(hk:dm k2 k)(h:WT C n ops rest k2 F own Q):WT C n ops rest k F own Q:=λe g f hs=>h e g (f.weaken hk) hs
def nC(f:List Nat)(i:Nat):List Oper->Nat->List (Nat×Nat)
 | [],_=>[]
 | o::os,j=>bif cd o.op||i==j||((f[i]?).getD 0).testBit j||((f[j]?).getD 0).testBit i then nC f i os (j+1) else (i,j)::nC f i os (j+1)
def ml(f:List Nat)(ops:List Oper):List Oper->Nat->List (Nat×Nat)
 | [],_=>[]
 | o::os,i=>(bif od o.op then nC f i ops 0 else [])++ml f ops os (i+1)
def LL(ops:List Oper):List (Nat×Nat):=ml (bA [] ops) ops ops 0
def Rec.keeps(r:Rec)(x:Nat):Prop:=(∃b,r.F x=some b)\/∃b,(x,b)∈r.own.flatten/\(x,b)∈r.be.flatten
def m0:List (Nat×Nat)->List Rec->Prop
 | [],_=>True
 | (i,j)::ps,rs=>(∀a b,rs[i]?=some a->rs[j]?=some b->(∀x∈a.looks,b.keeps x)\/(i<j/\∀f,St b.F' b.be f->a.bend.p f))/\m0 ps rs
theorem K0{r:Rec}{x:Nat}{h i:au}(s:St r.F r.own h)(s1:St r.F' r.be i)(j:aw.le r.F r.F')(hk:r.keeps x):h.get x=i.get x:=by rcases hk with ⟨b,f⟩ | ⟨b,f,g⟩;{rw[s.z4 x b f,s1.z4 x b (j x b f)]};{rw[kT.has s (x,b) f,kT.has s1 (x,b) g]}
theorem FV{ps:List (Nat×Nat)}{rs:List Rec}(h:m0 ps rs):∀i j,(i,j)∈ps->∀a b,rs[i]?=some a->rs[j]?=some b->(∀x∈a.looks,b.keeps x)\/(i<j/\∀f,St b.F' b.be f->a.bend.p f):=by induction ps with| nil=>{intro i j hm;cases hm}| cons p ps g=>{obtain⟨i0,l⟩:=p;intro i j hm;rcases IN.1 hm with e | hm;{cases e;exact h.1};{exact g h.2 i j hm}}
theorem vm(f:List Nat)(i:Nat):∀(os:List Oper) (j:Nat) (m:Nat) (o:Oper),os[m]?=some o->cd o.op=false->i≠j+m->((f[i]?).getD 0).testBit (j+m)=false->((f[j+m]?).getD 0).testBit i=false->
  (i,j+m)∈nC f i os j
 | [],j,m,o,h,_,_,_,_=>by simp at h
 | o'::os,j,0,o,h,p,t,g,l=>by{simp at h;subst h;unfold nC;have:(i==j)=false:=by{simpa using t};simp only[Tc] at g l |-;rw[p,this,g,l];simp}
 | o'::os,j,m+1,o,h,p,t,g,l=>by{have r:=vm f i os (j+1) m o (by simpa using h) p (by omega) (by rw[show j+1+m=j+(m+1) by omega];exact g) (by rw[show j+1+m=j+(m+1) by omega];exact l);rw[show j+1+m=j+(m+1) by omega] at r;unfold nC;cases (cd o'.op||i==j||((f[i]?).getD 0).testBit j||((f[j]?).getD 0).testBit i) with| true=>{exact r}| false=>{exact ma _ r}}
theorem qm(f:List Nat)(ops:List Oper):∀(os:List Oper) (i m:Nat) (o:Oper) (p:Nat×Nat),os[m]?=some o->od o.op=true->p∈nC f (i+m) ops 0->p∈ml f ops os i
 | [],i,m,o,p,h,_,_=>by simp at h
 | o'::os,i,0,o,p,h,g,j=>by{simp at h;subst h;unfold ml;rw[g];exact IT _ j}
 | o'::os,i,m+1,o,p,h,g,j=>by{have l:=qm f ops os (i+1) m o p (by simpa using h) g (by rw[show i+1+m=i+(m+1) by omega];exact j);unfold ml;exact R8 _ l}
theorem Told.at{os:List Oper}{tr:List qt}{rs:List Rec}(t:Told os tr rs):∀(i:Nat) (h f:au) (l:List Nat) (g:au->Bool),tr[i]?=some (h,f,l,g)->
  ∃(o:Oper) (r:Rec),os[i]?=some o/\rs[i]?=some r/\r.looks=l/\(od o.op=false->l=[])/\(∀j,r.bend.p j->g j=true)/\St r.F r.own h/\St r.F' r.be f/\aw.le r.F r.F':=by induction t with| nil=>{intro i h f l g q;simp at q}| cons a a2 b c d e I=>{rename_i o os R J r P tr rs;intro i h f l g q;cases i with| zero=>{simp at q;obtain⟨rfl,rfl,rfl,rfl⟩:=q;exact⟨o,r,rfl,rfl,rfl,a,a2,b,c,d⟩}| succ i=>{exact I i h f l g (by simpa using q)}}
theorem Told.len{os:List Oper}{tr:List qt}{rs:List Rec}(f:Told os tr rs):tr.length=os.length:=by induction f with| nil=>{rfl}| cons _ _ _ _ _ _ g=>{simp[g]}
theorem Kw{ops:List Oper}{tr:List qt}{rs:List Rec}(ht:Told ops tr rs)(hr:m0 (LL ops) rs):cX ops (bA [] ops) tr=true:=by
 have inner:∀(i:Nat) (look:List Nat) (I:au->Bool) (o:Oper) (r:Rec),ops[i]?=some o->rs[i]?=some r->r.looks=look->(∀h2,r.bend.p h2->I h2=true)->od o.op=true->
   ∀(os:List Oper) (f:List qt) (j:Nat),(∀m o,os[m]?=some o->ops[j+m]?=some o)->(∀m t,f[m]?=some t->tr[j+m]?=some t)->
   cX.outer.inner (bA [] ops) I i look (((bA [] ops)[i]?).getD 0) os f j=true:=by
  intro i look I o r hi aa hl ab J os
  induction os with
  | nil=>intro f j _ _;unfold cX.outer.inner;rfl
  | cons U os ih=>
   intro f j R g;cases f with
   | nil=>unfold cX.outer.inner;rfl
   | cons t f=>
    obtain⟨h,P,l2,ad⟩:=t;unfold cX.outer.inner;have ae:=ih f (j+1) (λm o q=>by rw[show j+1+m=j+(m+1) by omega];exact R (m+1) o (by simpa using q)) (λm t q=>by rw[show j+1+m=j+(m+1) by omega];exact g (m+1) t (by simpa using q));simp only[ti];refine⟨?_,ae⟩;have af:ops[j]?=some U:=R 0 U rfl;obtain⟨o3,r2,q1,q2,q3,q4,_,q5,q6,q7⟩:=ht.at j h P l2 ad (g 0 _ rfl);cases e1:cd U.op with
    | true=>simp
    | false=>
    cases e2:(i==j) with
    | true=>simp
    | false=>
    cases e3:(((bA [] ops)[i]?).getD 0).testBit j with
    | true=>simp
    | false=>
    cases e4:(((bA [] ops)[j]?).getD 0).testBit i with
    | true=>simp
    | false=>
     simp only[Bool.false_or];have an:i≠0+j:=by simp at e2;omega
     have hm:=vm (bA [] ops) i ops 0 j U af e1 an (by rw[yo];exact e3) (by rw[yo];exact e4);rw[yo] at hm;have ao:=qm (bA [] ops) ops ops 0 i o (i,j) hi J (by rw[yo];exact hm);rcases FV hr i j ao r r2 aa q2 with hk | ⟨ap,hk⟩
     ·have ha:(look.all λx=>kL (h.get x) (P.get x))=true:=by
       rw[SK];intro x hx;rw[K0 q5 q6 q7 (hk x (by rw[hl];exact hx))];exact x9 _
      rw[ha,Bool.true_or]
     ·have hb:(Nat.blt i j&&I P)=true:=by rw[ab P (hk P q6),Uc];exact RZ ap
      rw[hb,Bool.or_true]
 have outer:∀(f:List qt) (i:Nat),(∀m t,f[m]?=some t->tr[i+m]?=some t)->cX.outer ops (bA [] ops) tr f i=true:=by
  intro f
  induction f with
  | nil=>intro i _;unfold cX.outer;rfl
  | cons t f ih=>
   obtain⟨h,P,look,I⟩:=t;intro i g;unfold cX.outer;rw[ih (i+1) (λm t q=>by rw[show i+1+m=i+(m+1) by omega];exact g (m+1) t (by simpa using q)),Uc];obtain⟨o,r,q1,q2,q3,q4,q5,_⟩:=ht.at i h P look I (g 0 _ rfl);cases look with
   | nil=>rfl
   | cons x l=>
    have J:od o.op=true:=by
     cases hh:od o.op with
     | true=>rfl
     | false=>exact absurd (q4 hh) (by simp)
    exact inner i (x::l) I o r q1 q2 q3 q5 J ops tr 0 (λm o q=>by rw[yo];exact q) (λm t q=>by rw[yo];exact q)
 unfold cX;exact outer tr 0 (λm t q=>by rw[yo];exact q)
theorem sJ{cal:rJ}{ops:List Oper}:∀(rest:List Oper) (e f:Env) (h g:au) (tr:List qt),fz C cal ops rest e h=some (f,g,tr)->uh C cal ops rest e h=some (f,g)
 | [],e,f,h,g,tr,q=>by cases q;rfl
 | o::rest,e,f,h,g,tr,q=>by{unfold fz at q;unfold uh;split at q;{cases q};{rename_i p r i;split at q;{cases q};{rename_i t I l j;cases q;exact sJ rest _ _ _ _ _ j}}}
def AW(C:Ctx)(n:Nat)(c:Code)(k:bY)(F:aw)(own:bH)(Q:Ex->bY->aw->bH->Prop):Prop:=
 ∀e h,gL n e k->St F own h->∃x g i k' f be,OE C c e h x g i/\gL n g k'/\aw.le F f/\St f be i/\Q x k' f be
variable {A:Ex->bY->aw->bH->Prop}
theorem AW.region{id:Nat}{ops:Array Oper}{draw:Bool}(h:WT C n ops.toList ops.toList k F own λk' g be rs=>(draw=true->n6 ops.toList=true/\m0 (LL ops.toList) rs)/\A .normal k' g be) :
  AW C n (.region id ops draw) k F own A:=by intro e f hk hs;obtain⟨i,j,tr,k',g,be,rs,⟨m,hm⟩,l,t,p,I,r,J⟩:=h e f hk hs;refine⟨.normal,i,j,k',g,be,⟨m+1,λN U=>?_⟩,l,t,p,J⟩;obtain⟨N,rfl⟩:∃P,N=P+1:=⟨N-1,by omega⟩;have hm:=hm N (by omega);show aU C (exec C N) _ e f=_;have R:jv C (eC C (exec C N)) ops.toList draw e f=some (i,j):=by{unfold jv;cases draw with| true=>{simp only[xf];have hm:fz C (eC C (exec C N)) ops.toList ops.toList e f=some (i,j,tr):=hm;rw[hm];simp only[(r rfl).1,Kw I (r rfl).2,Tk,xf]}| false=>{exact sJ _ _ _ _ _ _ hm}};simp only[aU,R]
theorem AW.skip(h:A .normal k F own):AW C n .skip k F own A:=λe f hk hs=>
 ⟨.normal,e,f,k,F,own,⟨1,λN i=>by obtain⟨N,rfl⟩:∃g,N=g+1:=⟨N-1,by omega⟩;rfl⟩,hk,aw.le.refl F,hs,h⟩
theorem AW.exit{id:Nat}(h:A (.exit id) k F own):AW C n (.exit id) k F own A:=λe f hk hs=>
 ⟨.exit id,e,f,k,F,own,⟨1,λN i=>by obtain⟨N,rfl⟩:∃g,N=g+1:=⟨N-1,by omega⟩;rfl⟩,hk,aw.le.refl F,hs,h⟩
theorem AW.ret(h:A .ret k F own):AW C n .ret k F own A:=λe f hk hs=>
 ⟨.ret,e,f,k,F,own,⟨1,λN i=>by obtain⟨N,rfl⟩:∃g,N=g+1:=⟨N-1,by omega⟩;rfl⟩,hk,aw.le.refl F,hs,h⟩
def vW(B:bY->aw->bH->Prop)(A:Ex->bY->aw->bH->Prop):Ex->bY->aw->bH->Prop
 | .normal,k,F,own=>B k F own
 | x,k,F,own=>A x k F own
theorem AW.seq{a b:Code}(h:AW C n a k F own (vW (λk' g be=>AW C n b k' g be A) A)):AW C n (.seq a b) k F own A:=by intro e r hk hs;obtain⟨x,e1,h1,k1,F1,f,⟨m,hm⟩,i,j,l,p⟩:=h e r hk hs;have other:x≠.normal->A x k1 F1 f->∃x e' h' k' g be,OE C (.seq a b) e r x e' h'/\gL n e' k'/\aw.le F g/\St g be h'/\A x k' g be:=by{intro hx p;refine⟨x,e1,h1,k1,F1,f,⟨m+1,λN hN=>?_⟩,i,j,l,p⟩;obtain⟨N,rfl⟩:∃t,N=t+1:=⟨N-1,by omega⟩;show aU C (exec C N) _ e r=_;simp only[aU,hm N (by omega)];cases x with| normal=>{exact absurd rfl hx}| exit id=>{rfl}| ret=>{rfl}};cases x with| exit id=>{exact other (by simp) p}| ret=>{exact other (by simp) p}| normal=>{obtain⟨x,e2,h2,k2,F2,own2,⟨m2,I⟩,J,P,R,U⟩:=p e1 h1 i l;refine⟨x,e2,h2,k2,F2,own2,⟨max m m2+1,λN hN=>?_⟩,J,j.trans P,R,U⟩;obtain⟨N,rfl⟩:∃t,N=t+1:=⟨N-1,by omega⟩;show aU C (exec C N) _ e r=_;simp only[aU,hm N (by omega),I N (by omega)]}
theorem AW.cond{I:Operand}{a b:Code}{v:Bool}(J:aW C k I=some (.bool v))(g:v=true->AW C n a k F own A)(P:v=false->AW C n b k F own A):AW C n (.cond I a b) k F own A:=by intro e i hk hs;cases v with| true=>{obtain⟨x,j,g,l,p,f,⟨m,hm⟩,r⟩:=g rfl e i hk hs;refine⟨x,j,g,l,p,f,⟨m+1,λN R=>?_⟩,r⟩;obtain⟨N,rfl⟩:∃t,N=t+1:=⟨N-1,by omega⟩;show aU C (exec C N) _ e i=_;simp only[aU,hk.eval _ _ J,hm N (by omega)]}| false=>{obtain⟨x,j,g,l,p,f,⟨m,hm⟩,r⟩:=P rfl e i hk hs;refine⟨x,j,g,l,p,f,⟨m+1,λN R=>?_⟩,r⟩;obtain⟨N,rfl⟩:∃t,N=t+1:=⟨N-1,by omega⟩;show aU C (exec C N) _ e i=_;simp only[aU,hk.eval _ _ J,hm N (by omega)]}
def um(id:Nat)(A:Ex->bY->aw->bH->Prop):Ex->bY->aw->bH->Prop
 | .exit i,k,F,own=>A (bif i==id then .normal else .exit i) k F own
 | x,k,F,own=>A x k F own
theorem AW.block{id:Nat}{a:Code}(h:AW C n a k F own (um id A)):AW C n (.block id a) k F own A:=by intro e r hk hs;obtain⟨x,t,I,J,P,f,⟨m,hm⟩,g,j,l,R⟩:=h e r hk hs;cases x with| exit i=>{refine⟨_,t,I,J,P,f,⟨m+1,λN U=>?_⟩,g,j,l,R⟩;obtain⟨N,rfl⟩:∃p,N=p+1:=⟨N-1,by omega⟩;show aU C (exec C N) _ e r=_;simp only[aU,hm N (by omega)]}| normal=>{refine⟨_,t,I,J,P,f,⟨m+1,λN U=>?_⟩,g,j,l,R⟩;obtain⟨N,rfl⟩:∃p,N=p+1:=⟨N-1,by omega⟩;show aU C (exec C N) _ e r=_;simp only[aU,hm N (by omega)]}| ret=>{refine⟨_,t,I,J,P,f,⟨m+1,λN U=>?_⟩,g,j,l,R⟩;obtain⟨N,rfl⟩:∃p,N=p+1:=⟨N-1,by omega⟩;show aU C (exec C N) _ e r=_;simp only[aU,hm N (by omega)]}
theorem AW.weaken{c:Code}{k2:bY}(hk:dm k2 k)(h:AW C n c k2 F own A):AW C n c k F own A:=λe g f hs=>h e g (f.weaken hk) hs
theorem AW.drop{c:Code}{own2:bH}(g:own2.Sublist own)(h:AW C n c k F own2 A):AW C n c k F own A:=λe i f hs=>h e i f (hs.sub g)
theorem AW.mono{c:Code}{g:Ex->bY->aw->bH->Prop}(h:AW C n c k F own A)(j:∀x k' f be,aw.le F f->A x k' f be->g x k' f be):AW C n c k F own g:=λe l hk hs=>
 let ⟨x,p,r,k2,t,own2,I,J,i,P,R⟩:=h e l hk hs
 ⟨x,p,r,k2,t,own2,I,J,i,P,j _ _ _ _ i R⟩
theorem AW.loop{ι:Type}(I:ι->bY->aw->bH->Prop)(m:ι->Nat){c:Code}
  (step:∀i k F own,I i k F own->AW C n c k F own (vW (λk' g be=>∃j k2 own2,m j<m i/\dm k2 k'/\own2.Sublist be/\I j k2 g own2) A)) :
  ∀i k F own,I i k F own->AW C n (.loop c) k F own A:=by have main:∀(w:Nat) i k F own,m i<w->I i k F own->AW C n (.loop c) k F own A:=by{intro w;induction w with| zero=>{intro i k F own h;omega}| succ w ih=>{intro i k F own hw hi e R hk hs;obtain⟨x,e1,h1,k1,U,f,⟨m1,l⟩,p,r,t,J⟩:=step i k F own hi e R hk hs;have other:x≠.normal->A x k1 U f->∃x e' h' k' g be,OE C (.loop c) e R x e' h'/\gL n e' k'/\aw.le F g/\St g be h'/\A x k' g be:=by{intro hx J;refine⟨x,e1,h1,k1,U,f,⟨m1+1,λN hN=>?_⟩,p,r,t,J⟩;obtain⟨N,rfl⟩:∃N',N=N'+1:=⟨N-1,by omega⟩;show aU C (exec C N) _ e R=_;simp only[aU,l N (by omega)];cases x with| normal=>{exact absurd rfl hx}| exit id=>{rfl}| ret=>{rfl}};cases x with| exit id=>{exact other (by simp) J}| ret=>{exact other (by simp) J}| normal=>{obtain⟨j,k2,own2,hj,P,ab,hI⟩:=J;obtain⟨x,e2,h2,k2,F2,own2,⟨m2,ac⟩,ad,ae,af,ag⟩:=ih j k2 U own2 (by omega) hI e1 h1 (p.weaken P) (t.sub ab);refine⟨x,e2,h2,k2,F2,own2,⟨max m1 m2+1,λN hN=>?_⟩,ad,r.trans ae,af,ag⟩;obtain⟨N,rfl⟩:∃N',N=N'+1:=⟨N-1,by omega⟩;show aU C (exec C N) _ e R=_;simp only[aU,l N (by omega),ac N (by omega)]}}};exact λi k F own hi=>main (m i+1) i k F own (Sp _) hi
def AY:List Value->Nat->bY
 | [],_=>[]
 | v::vs,i=>(i,v)::AY vs (i+1)
theorem A4:∀(vs:List Value) (i j:Nat) (v:Value),lk (AY vs i) j=some v->i<=j/\vs[j-i]?=some v
 | [],i,j,v,q=>by cases q
 | u::vs,i,j,v,q=>by{simp only[AY,lk] at q;cases f:Nat.beq i j with| true=>{rw[f] at q;have:=R6 f;subst this;cases q;exact⟨mc _,by simp⟩}| false=>{rw[f] at q;obtain⟨l,g⟩:=A4 vs (i+1) j v q;refine⟨by omega,?_⟩;rw[show j-i=(j-(i+1))+1 by omega,S4];exact g}}
theorem gL.args(m:Nat)(vs:List Value):gL (max m vs.length) (nH m vs) (AY vs 0):=by refine⟨rfl,λi v q=>?_⟩;obtain⟨_,f⟩:=A4 vs 0 i v q;simp only[Nat.sub_zero] at f;show (nH.go vs 0 .e).get i=some v;rw[uA];have:i<vs.length:=(No.1 f).1;rw[nw (by omega)];simpa using f
def Mv(C:Ctx)(k:bY)(own:bH)(r:ResultVar)(v:Value):Prop:=
 match r with
 | .tmp t=>lk k t=some v
 | .cell a t=>∃p,lk k a=some p/\∀F h,St F own h->jU C h t p=some v
def sW(C:Ctx)(k:bY)(own:bH):List ResultVar->List Value->Prop
 | [],vs=>vs=[]
 | r::rs,vs=>∃v us,Mv C k own r v/\sW C k own rs us/\vs=v::us
theorem vC{e:Env}{h:au}(hk:gL n e k)(hs:St F own h):∀(rs:List ResultVar) (vs:List Value),sW C k own rs vs->fQ C e h rs=some vs
 | [],vs,q=>by cases q;rfl
 | r::rs,vs,q=>by{obtain⟨v,us,f,g,rfl⟩:=q;unfold fQ;rw[vC hk hs rs us g];have:lC C e h r=some v:=by{cases r with| tmp t=>{exact hk.get t v f}| cell a t=>{obtain⟨p,i,j⟩:=f;simp only[lC,hk.get a p i,j F h hs]}};rw[this]}
def PC(C:Ctx)(fn:Func)(own:bH)(iR:aw->Value->bH->Prop):Ex->bY->aw->bH->Prop
 | .exit _,_,_,_=>False
 | _,k,F,be=>∃vs f,sW C k be fn.results.toList vs/\(f++own).Sublist be/\iR F (fg vs) f
theorem Spec.of{f:FuncId}{fn:Func}{c:Code}{args:List Value}{oin:bH}{iR:aw->Value->bH->Prop}(p:C.fact f=none)(hf:C.func f=some fn)(hb:fn.body=some c)
  (h:∀own,AW C (max fn.ntmps args.length) c (AY args 0) F (oin++own) (PC C fn own iR)):Spec C f args F oin iR:=by intro own R hs;obtain⟨x,e1,h1,k1,U,i,⟨m,hm⟩,r,t,j,I⟩:=h own (nH fn.ntmps args) R (gL.args _ _) hs;have fin:(∃vs g,sW C k1 i fn.results.toList vs/\(g++own).Sublist i/\iR U (fg vs) g)->(∀id,x≠.exit id)->∃v h' J g,P4 C f args R v h'/\aw.le F J/\St J (g++own) h'/\iR J v g:=by{rintro⟨vs,g,h2,h3,h4⟩ P;refine⟨fg vs,h1,U,g,⟨m,λN hN=>?_⟩,t,j.sub h3,h4⟩;unfold call eC;simp only[p,hf,hb,hm N hN];have l:=vC r j _ _ h2;cases x with| exit id=>{exact absurd rfl (P id)}| normal=>{simp only[l]}| ret=>{simp only[l]}};cases x with| exit id=>{exact False.elim I}| normal=>{exact fin I (by simp)}| ret=>{exact fin I (by simp)}
end
end Go.Abs
/-
 The logic's rules,in the forms that a walk uses.
-/
set_option linter.unusedVariables false
namespace Go.Abs
open Go
section
variable {C:Ctx}{n:Nat}{k:bY}{F:aw}{own:bH}{A:Ex->bY->aw->bH->Prop}{ops rest:List Oper}{o:Oper}{Q:bY->aw->bH->List Rec->Prop}
theorem AW.fj{id:Nat}{ops:Array Oper}(h:WT C n ops.toList ops.toList k F own λk' f be _=>A .normal k' f be):AW C n (.region id ops false) k F own A:=by refine AW.region λe g hk hs=>?_;obtain⟨i,j,tr,k',f,be,rs,l,p,r,t,I,J⟩:=h e g hk hs;exact⟨i,j,tr,k',f,be,rs,l,p,r,t,I,⟨(by intro h;cases h),J⟩⟩
theorem AW.draw{id:Nat}{ops:Array Oper}{ps:List (Nat×Nat)}(g:n6 ops.toList=true)(i:LL ops.toList=ps)
  (h:WT C n ops.toList ops.toList k F own λk' f be rs=>m0 ps rs/\A .normal k' f be):AW C n (.region id ops true) k F own A:=by refine AW.region λe j hk hs=>?_;obtain⟨l,p,tr,k',f,be,rs,r,t,I,J,P,R,U⟩:=h e j hk hs;exact⟨l,p,tr,k',f,be,rs,r,t,I,J,P,λ_=>⟨g,by rw[i];exact R⟩,U⟩
theorem Spec.fact{f:FuncId}{eN:List (Nat×aC)}(g:C.fact f=some eN)(i:∀p∈eN,F p.1=some p.2):Spec C f [] F [] λ_ v o=>o=[]/\v=.bool true:=by intro own h hs;refine⟨.bool true,h,F,[],⟨0,λN _=>?_⟩,aw.le.refl F,hs,rfl,rfl⟩;unfold call eC;have:eN.all (λp=>kL (h.get p.1) (some p.2))=true:=SK.2 λp j=>by{rw[hs.z4 _ _ (i p j)];exact x9 _};simp only[g,this,List.isEmpty_nil,Tk,xf]
theorem Spec.fn{f:FuncId}{fn:Func}{c:Code}{args:List Value}{oin:bH}{iR:aw->Value->bH->Prop}(i:C.func f=some fn)(j:fn.body=some c)(l:max fn.ntmps args.length=n)
  (h:∀own,AW C n c (AY args 0) F (oin++own) (PC C fn own iR)) (g:C.fact f=none:=by rfl):Spec C f args F oin iR:=by subst l;exact Spec.of g i j h
theorem wrap64{x:Int}(h:-9223372036854775808<=x/\x<=9223372036854775807):IntKind.i64.wrap x=x:=by have hs:IntKind.i64.signed=true:=rfl;have f:IntKind.i64.bits=64:=rfl;simp only[IntKind.wrap,hs,f,Bool.true_and,SC];have:(2:Int) ^ 64=18446744073709551616:=rfl;rw[this];have:(2:Int) ^ (64-1)=9223372036854775808:=rfl;rw[this];split<;>omega
theorem WT.bin{op:BinOp}{t ty:TypeId}{j l:Operand}{f:IntKind}{x y:Int}{r:Value}(g:o.op=.binOp op t j l ty)(hw:aH ops k o=some true)(p:aW C k j=some (.int f x))(I:aW C k l=some (.int f y))
  (J:jL C ⟨0,.e⟩ op t j l (.int f x) (.int f y)=some r) (i:op≠.shl/\op≠.shr)
  (h:WT C n ops rest (eS n k o.dst r) F own (λk2 P own2 rs=>Q k2 P own2 (⟨F,own,F,own,[]⟩::rs))):WT C n ops (o::rest) k F own Q:=by refine WT.still hw (by rw[g];simp only[bg,p,I];rfl) (λR _=>?_) h;rw[g];simp only[aQ,p,I];have:jL C R op t j l (.int f x) (.int f y)=some r:=by{rw[<-J];cases op<;>first | rfl | exact absurd rfl i.1 | exact absurd rfl i.2};rw[this];rfl
theorem WT.add{t ty:TypeId}{g i:Operand}{x y:Int}(f:o.op=.binOp .add t g i ty)(hw:aH ops k o=some true)(j:aW C k g=some (.int .i64 x))(l:aW C k i=some (.int .i64 y))
  (p:-9223372036854775808<=x+y/\x+y<=9223372036854775807)
  (h:WT C n ops rest (eS n k o.dst (.int .i64 (x+y))) F own (λk2 r own2 rs=>Q k2 r own2 (⟨F,own,F,own,[]⟩::rs))):WT C n ops (o::rest) k F own Q:=
 WT.bin f hw j l (by show (if IntKind.i64=IntKind.i64 then some (Value.int .i64 (IntKind.i64.wrap (x+y))) else none)=_;rw[nw rfl,wrap64 p]) ⟨by simp,by simp⟩ h
theorem WT.sub{t ty:TypeId}{g i:Operand}{x y:Int}(f:o.op=.binOp .sub t g i ty)(hw:aH ops k o=some true)(j:aW C k g=some (.int .i64 x))(l:aW C k i=some (.int .i64 y))
  (p:-9223372036854775808<=x-y/\x-y<=9223372036854775807)
  (h:WT C n ops rest (eS n k o.dst (.int .i64 (x-y))) F own (λk2 r own2 rs=>Q k2 r own2 (⟨F,own,F,own,[]⟩::rs))):WT C n ops (o::rest) k F own Q:=
 WT.bin f hw j l (by show (if IntKind.i64=IntKind.i64 then some (Value.int .i64 (IntKind.i64.wrap (x-y))) else none)=_;rw[nw rfl,wrap64 p]) ⟨by simp,by simp⟩ h
theorem WT.mul{t ty:TypeId}{g i:Operand}{x y:Int}(f:o.op=.binOp .mul t g i ty)(hw:aH ops k o=some true)(j:aW C k g=some (.int .i64 x))(l:aW C k i=some (.int .i64 y))
  (p:-9223372036854775808<=x*y/\x*y<=9223372036854775807)
  (h:WT C n ops rest (eS n k o.dst (.int .i64 (x*y))) F own (λk2 r own2 rs=>Q k2 r own2 (⟨F,own,F,own,[]⟩::rs))):WT C n ops (o::rest) k F own Q:=
 WT.bin f hw j l (by show (if IntKind.i64=IntKind.i64 then some (Value.int .i64 (IntKind.i64.wrap (x*y))) else none)=_;rw[nw rfl,wrap64 p]) ⟨by simp,by simp⟩ h
theorem WT.rem{t ty:TypeId}{g i:Operand}{x y:Int}(f:o.op=.binOp .rem t g i ty)(hw:aH ops k o=some true)(j:aW C k g=some (.int .i64 x))(l:aW C k i=some (.int .i64 y))
  (p:y≠0)
  (h:WT C n ops rest (eS n k o.dst (.int .i64 (x.tmod y))) F own (λk2 r own2 rs=>Q k2 r own2 (⟨F,own,F,own,[]⟩::rs))):WT C n ops (o::rest) k F own Q:=
 WT.bin f hw j l (by show (if IntKind.i64=IntKind.i64 then (if y=0 then none else some (Value.int .i64 (x.tmod y))) else none)=_;rw[nw rfl,mb p]) ⟨by simp,by simp⟩ h
theorem WT.quo{t ty:TypeId}{g i:Operand}{x y:Int}(f:o.op=.binOp .quo t g i ty)(hw:aH ops k o=some true)(l:aW C k g=some (.int .i64 x))(p:aW C k i=some (.int .i64 y))
  (j:y≠0/\-9223372036854775808<=x.tdiv y/\x.tdiv y<=9223372036854775807)
  (h:WT C n ops rest (eS n k o.dst (.int .i64 (x.tdiv y))) F own (λk2 r own2 rs=>Q k2 r own2 (⟨F,own,F,own,[]⟩::rs))):WT C n ops (o::rest) k F own Q:=
 WT.bin f hw l p (by show (if IntKind.i64=IntKind.i64 then (if y=0 then none else some (Value.int .i64 (IntKind.i64.wrap (x.tdiv y)))) else none)=_;rw[nw rfl,mb j.1,wrap64 j.2]) ⟨by simp,by simp⟩ h
theorem aR{h:au}{t:TypeId}{i off:Nat}{ro:Bool}{cs:List Value}{v:Value}(f:h.get i=some (.cells ro cs))(g:fL C cs t off=some v):jU C h t (.pointer (some ⟨i,off,none⟩))=some v:=by simp only[jU,eW,f,g]
theorem WT.load{t:TypeId}{a:Operand}{i off:Nat}{v:Value}(f:o.op=.load t a)(hw:aH ops k o=some true)(g:aW C k a=some (.pointer (some ⟨i,off,none⟩)))
  (j:∀h,St F own h->jU C h t (.pointer (some ⟨i,off,none⟩))=some v)
  (h:WT C n ops rest (eS n k o.dst v) F own (λk2 l own2 rs=>Q k2 l own2 (⟨F,own,F,own,[i]⟩::rs))):WT C n ops (o::rest) k F own Q:=by refine WT.still hw (by rw[f];simp only[bg,g]) (λp hs=>?_) h;rw[f];simp only[aQ,g,j p hs];rfl
theorem WT.s4(p:Nat){t:TypeId}{a:Operand}{i off:Nat}{ro:Bool}{cs:List Value}{v:Value}(f:o.op=.load t a)(hw:aH ops k o=some true)(g:aW C k a=some (.pointer (some ⟨i,off,none⟩)))
  {B:List (Nat×aC)} (j:own[p]?=some B) (l:(i,aC.cells ro cs)∈B) (r:fL C cs t off=some v)
  (h:WT C n ops rest (eS n k o.dst v) F own (λk2 I own2 rs=>Q k2 I own2 (⟨F,own,F,own,[i]⟩::rs))):WT C n ops (o::rest) k F own Q:=
 WT.load f hw g (λJ hs=>aR (hs.has j l) r) h
theorem WT.wK{t:TypeId}{a:Operand}{i off:Nat}{ro:Bool}{cs:List Value}{v:Value}(f:o.op=.load t a)(hw:aH ops k o=some true)(g:aW C k a=some (.pointer (some ⟨i,off,none⟩)))
  (j:F i=some (.cells ro cs)) (l:fL C cs t off=some v)
  (h:WT C n ops rest (eS n k o.dst v) F own (λk2 p own2 rs=>Q k2 p own2 (⟨F,own,F,own,[i]⟩::rs))):WT C n ops (o::rest) k F own Q:=
 WT.load f hw g (λr hs=>aR (hs.z4 _ _ j) l) h
theorem WT.store(p q:Nat){B:List (Nat×aC)}{t:TypeId}{a x:Operand}{i off m:Nat}{cs:List Value}{v:Value}(f:o.op=.store t a x)(hw:aH ops k o=some true)(l:aW C k a=some (.pointer (some ⟨i,off,none⟩)))
  (r:aW C k x=some v) (I:own[p]?=some B) (J:B[q]?=some (i,.cells false cs)) (hm:C.size t=some m) (P:v.cells.toList.length=m) (R:v.cells.toList.all one=true) (hle:off+m<=cs.length)
  (h:WT C n ops rest (eS n k o.dst cl) F (own.set p (B.set q (i,.cells false (bp cs off v.cells.toList)))) (λk2 U own2 rs=>Q k2 U own2 (⟨F,own,F,own.set p (B.set q (i,.cells false (bp cs off v.cells.toList))),[i]⟩::rs))) :
  WT C n ops (o::rest) k F own Q:=by refine WT.put p q I J hw (by rw[f];simp only[bg,l]) (λh0 hs hb=>?_) h;rw[f];have g:Nat.ble (off+m) cs.length=true:=RZ hle;have j:(v.cells.toList.length==m)=true:=by{simpa using P};simp only[aQ,l,r,mW,hb,hm,j,R,g,Tk,xf];rfl
theorem WT.alloc{t:TypeId}{z:Value}(f:o.op=.alloc t)(hw:aH ops k o=some true)(g:C.zero t=some z)
  (h:∀i,F i=none->WT C n ops rest (eS n k o.dst (.pointer (some ⟨i,0,none⟩))) F ([(i,.cells false z.cells.toList)]::own) (λk2 j own2 rs=>Q k2 j own2 (⟨F,own,F,[(i,.cells false z.cells.toList)]::own,[]⟩::rs))) :
  WT C n ops (o::rest) k F own Q:=by refine WT.new (mk:=λi=>.pointer (some ⟨i,0,none⟩)) hw (by rw[f];rfl) (λl hs=>?_) h;rw[f];simp only[aQ,g]
theorem WT.box{t:TypeId}{x:Operand}{v:Value}(f:o.op=.box t x)(hw:aH ops k o=some true)(g:aW C k x=some v)
  (h:∀i,F i=none->WT C n ops rest (eS n k o.dst (.pointer (some ⟨i,0,none⟩))) F ([(i,.cells false v.cells.toList)]::own) (λk2 j own2 rs=>Q k2 j own2 (⟨F,own,F,[(i,.cells false v.cells.toList)]::own,[]⟩::rs))) :
  WT C n ops (o::rest) k F own Q:=by refine WT.new (mk:=λi=>.pointer (some ⟨i,0,none⟩)) hw (by rw[f];rfl) (λl hs=>?_) h;rw[f];simp only[aQ,g]
end
end Go.Abs
/-
 A table of the program's types,and the operations that need no more than it.
-/
set_option linter.unusedVariables false
namespace Go.Abs
open Go
inductive Shape where
 | word
 | bool
 | int (k:IntKind)
 | string
 | slice (e:Nat)
 | struct (fs:List (Nat×Nat))
 | array (n e:Nat)
 | map (k e:Nat)
 | pointer (e:Nat)
structure Row where
 t:Nat
 d:Shape
 size:Nat
 bytes:Nat
 zero:Value
def j5(d:Shape)(u:TypeDesc):Bool:=
 match d,u with
 | .word,.struct _=>false
 | .word,.array _ _=>false
 | .word,.slice _=>false
 | .word,.interface _=>false
 | .word,.string=>false
 | .word,.map _ _=>false
 | .word,_=>true
 | .bool,.bool=>true
 | .int k,.int k'=>decide (k=k')
 | .string,.string=>true
 | .slice e,.slice g=>Nat.beq e g
 | .struct j,.struct i=>j==i.toList.map λf=>(f.offset,f.type)
 | .array n e,.array l g=>Nat.beq n l&&Nat.beq e g
 | .map k e,.map k' g=>Nat.beq k k'&&Nat.beq e g
 | .pointer e,.pointer g=>Nat.beq e g
 | _,_=>false
def N2(C:Ctx)(r:Row):Bool:=
 (match C.size r.t with | some n=>Nat.beq n r.size | none=>false)&&(match C.bytes r.t with | some n=>Nat.beq n r.bytes | none=>false) &&
 (match C.zero r.t with | some z=>bU z r.zero | none=>false)&&(match C.g9 r.t with | some d=>j5 r.d d | none=>false)
inductive RT where
 | e
 | n (l:RT) (r:Row) (g:RT)
def aP(C:Ctx):RT->Bool
 | .e=>true
 | .n l r g=>aP C l&&N2 C r&&aP C g
def rowOf:RT->Nat->Option Row
 | .e,_=>none
 | .n l r g,t=>bif Nat.beq r.t t then some r else bif Nat.blt t r.t then rowOf l t else rowOf g t
theorem dD{C:Ctx}{T:RT}(h:aP C T=true){t:Nat}{r:Row}(q:rowOf T t=some r):r.t=t/\C.size t=some r.size/\C.bytes t=some r.bytes/\C.zero t=some r.zero/\∃d,C.g9 t=some d/\j5 r.d d=true:=by induction T with| e=>{cases q}| n l r0 g j o=>{simp only[aP,ti] at h;simp only[rowOf] at q;cases p:Nat.beq r0.t t with| false=>{rw[p] at q;simp only[zy] at q;cases R:Nat.blt t r0.t with| false=>{rw[R] at q;exact o h.2 q}| true=>{rw[R] at q;exact j h.1.1 q}}| true=>{rw[p] at q;cases q;have:=R6 p;subst this;obtain⟨⟨_,f⟩,_⟩:=h;simp only[N2,ti] at f;obtain⟨⟨⟨f,I⟩,J⟩,P⟩:=f;refine⟨rfl,?_,?_,?_,?_⟩;{split at f;{rename_i n i;rw[i,R6 f]};{cases f}};{split at I;{rename_i n i;rw[i,R6 I]};{cases I}};{split at J;{rename_i n i;rw[i,jz J]};{cases J}};{split at P;{rename_i d U;exact⟨d,U,P⟩};{cases P}}}}
def dW(T:RT)(t:Nat):Option Nat:=match rowOf T t with | some r=>some r.size | none=>none
def gq(T:RT)(t:Nat):Option Value:=match rowOf T t with | some r=>some r.zero | none=>none
def Shape.agg:Shape->Bool
 | .struct _=>true
 | .array _ _=>true
 | _=>false
theorem uK{d:Shape}{u:TypeDesc}(h:j5 d u=true):uX u=d.agg:=by cases d<;>cases u<;>first | rfl | cases h
def takeN:Nat->List Value->Option (List Value)
 | 0,_=>some []
 | _+1,[]=>none
 | n+1,c::cs=>match takeN n cs with
  | some l=>some (c::l)
  | none=>none
def LG:Nat->List Value->Nat->Option (List Value)
 | 0,cs,n=>takeN n cs
 | _+1,[],_=>none
 | off+1,_::cs,n=>LG off cs n
theorem ob:∀(n:Nat) (cs l:List Value),takeN n cs=some l->cs.take n=l/\l.length=n
 | 0,cs,l,q=>by cases q;simp
 | n+1,[],l,q=>by cases q
 | n+1,c::cs,l,q=>by{unfold takeN at q;split at q;{rename_i f h;cases q;obtain⟨g,i⟩:=ob n cs f h;simp[g,i]};{cases q}}
theorem EX:∀(off:Nat) (cs:List Value) (n:Nat) (l:List Value),LG off cs n=some l->bE cs off n=some l
 | 0,cs,n,l,q=>by{obtain⟨f,g⟩:=ob n cs l q;unfold bE;simp[f,g]}
 | off+1,[],_,_,q=>by cases q
 | off+1,c::cs,n,l,q=>by{have:=EX off cs n l q;unfold bE at this |-;simpa using this}
def nQ(T:RT)(cs:List Value)(t:Nat)(off:Nat):Option Value:=
 match rowOf T t with
 | some r=>bif r.d.agg then (match LG off cs r.size with | some l=>some (.agg ⟨l⟩) | none=>none) else cs[off]?
 | none=>none
section
variable {C:Ctx}{T:RT}(hT:aP C T=true)
include hT
theorem bI{t m:Nat}(q:dW T t=some m):C.size t=some m:=by unfold dW at q;split at q;{rename_i r f;cases q;exact(dD hT f).2.1};{cases q}
theorem cT{t:Nat}{z:Value}(q:gq T t=some z):C.zero t=some z:=by unfold gq at q;split at q;{rename_i r f;cases q;exact(dD hT f).2.2.2.1};{cases q}
theorem bh{cs:List Value}{t off:Nat}{v:Value}(q:nQ T cs t off=some v):fL C cs t off=some v:=by unfold nQ at q;split at q;{rename_i r g;obtain⟨_,i,_,_,d,j,o⟩:=dD hT g;unfold fL;rw[j];simp only[uK o,i];cases f:r.d.agg with| true=>{rw[f] at q;simp only[xf] at q |-;split at q;{rename_i l p;rw[EX _ _ _ _ p];exact q};{cases q}}| false=>{rw[f] at q;exact q}};{cases q}
theorem bz{t e:Nat}{r:Row}(q:rowOf T t=some r)(g:r.d=.slice e):C.g9 t=some (.slice e):=by (obtain⟨_,_,_,_,d,i,f⟩:=dD hT q;rw[g] at f;cases d<;>first | (cases f;done) | skip);rw[i,R6 f]
theorem gr{t:Nat}{r:Row}{j:List (Nat×Nat)}(q:rowOf T t=some r)(l:r.d=.struct j):∃g,C.g9 t=some (.struct g)/\j=g.toList.map λf=>(f.offset,f.type):=by (obtain⟨_,_,_,_,d,o,i⟩:=dD hT q;rw[l] at i;cases d<;>first | (cases i;done) | skip);exact⟨_,o,by simpa [j5] using i⟩
theorem lW{t m e:Nat}{r:Row}(q:rowOf T t=some r)(g:r.d=.array m e):C.g9 t=some (.array m e):=by (obtain⟨_,_,_,_,d,i,f⟩:=dD hT q;rw[g] at f;cases d<;>first | (cases f;done) | skip);simp only[j5,ti] at f;rw[i,R6 f.1,R6 f.2]
theorem tL{t:Nat}{g:IntKind}{r:Row}(q:rowOf T t=some r)(i:r.d=.int g):C.g9 t=some (.int g):=by (obtain⟨_,_,_,_,d,j,f⟩:=dD hT q;rw[i] at f;cases d<;>first | (cases f;done) | skip);rw[j];simp[j5] at f;rw[f]
end
def rB(T:RT)(t:Nat)(x:Value)(f:Nat):Option Value:=
 match rowOf T t with
 | some r=>match r.d,x with
  | .struct g,.pointer (some ⟨b,off,none⟩)=>match g[f]? with
   | some (fo,i)=>match dW T i with
    | some m=>bif m==0 then none else some (.pointer (some ⟨b,off+fo,none⟩))
    | none=>none
   | none=>none
  | _,_=>none
 | none=>none
def GC(T:RT)(t:Nat)(x:Value)(f:Nat):Option Value:=
 match rowOf T t with
 | some r=>match r.d,x with
  | .struct g,.agg ⟨cs⟩=>match g[f]? with
   | some (fo,i)=>nQ T cs i fo
   | none=>none
  | _,_=>none
 | none=>none
def wP(T:RT):List (Nat×Nat)->Option (List (Nat×Nat))
 | []=>some []
 | (fo,f)::g=>match dW T f,wP T g with
  | some n,some r=>some ((fo,n)::r)
  | _,_=>none
def Ht:List Value->List Value->Option (List Value)
 | [],cs=>some cs
 | _::_,[]=>none
 | v::vs,_::cs=>match Ht vs cs with
  | some l=>some (v::l)
  | none=>none
def sN:Nat->List Value->List Value->Option (List Value)
 | 0,cs,vs=>Ht vs cs
 | _+1,[],_=>none
 | off+1,c::cs,vs=>match sN off cs vs with
  | some l=>some (c::l)
  | none=>none
theorem EZ:∀(vs cs l:List Value),Ht vs cs=some l->vs++cs.drop vs.length=l/\vs.length<=cs.length
 | [],cs,l,q=>by cases q;simp
 | _::_,[],l,q=>by cases q
 | v::vs,c::cs,l,q=>by{unfold Ht at q;split at q;{rename_i f h;cases q;obtain⟨g,i⟩:=EZ vs cs f h;simp[g,i]};{cases q}}
theorem rE:∀(off:Nat) (cs vs l:List Value),sN off cs vs=some l->bp cs off vs=l/\off+vs.length<=cs.length
 | 0,cs,vs,l,q=>by{obtain⟨f,g⟩:=EZ vs cs l q;unfold bp;simp[f,g]}
 | off+1,[],vs,l,q=>by cases q
 | off+1,c::cs,vs,l,q=>by{unfold sN at q;split at q;{rename_i i h;cases q;obtain⟨f,g⟩:=rE off cs vs i h;unfold bp at f |-;constructor;{rw[<-f];simp[Nat.add_right_comm]};{simp;omega}};{cases q}}
def Ax(place:Nat->Option (Nat×Nat)):List Value->List (Nat×Value)->Option (List Value)
 | cs,[]=>some cs
 | cs,(i,v)::rest=>
  match place i with
  | none=>none
  | some (off,size)=>bif Nat.beq v.cells.toList.length size then (match sN off cs v.cells.toList with
   | some cs=>Ax place cs rest
   | none=>none) else none
theorem rL{place:Nat->Option (Nat×Nat)}:∀(ps:List (Nat×Value)) (cs l:List Value),Ax place cs ps=some l->lZ place cs ps=some l
 | [],cs,l,q=>q
 | (i,v)::rest,cs,l,q=>by{unfold Ax at q;unfold lZ;split at q;{cases q};{rename_i off size o;cases f:Nat.beq v.cells.toList.length size with| false=>{rw[f] at q;cases q}| true=>{rw[f] at q;simp only[xf] at q;split at q;{rename_i g h;obtain⟨p,r⟩:=rE _ _ _ _ h;have j:=R6 f;simp only[o];have t:(v.cells.toList.length==size)=true:=by{simpa using j};have C:Nat.ble (off+size) cs.length=true:=RZ (by rw[<-j];exact r);rw[t,C];simp only[Tk,xf,p];exact rL rest g l q};{cases q}}}}
def aS(T:RT)(t:Nat)(parts:List (Nat×Value)):Option Value:=
 match rowOf T t with
 | some r=>match r.d with
  | .struct f=>match wP T f with
   | some ps=>match Ax (λi=>ps[i]?) r.zero.cells.toList parts with
    | some cs=>some (.agg ⟨cs⟩)
    | none=>none
   | none=>none
  | .array _ e=>match dW T e with
   | some n=>match Ax (λi=>some (i*n,n)) r.zero.cells.toList parts with
    | some cs=>some (.agg ⟨cs⟩)
    | none=>none
   | none=>none
  | _=>none
 | none=>none
def Ox(T:RT)(t:Nat)(x:Value):Option Value:=
 match rowOf T t with
 | some r=>match r.d,x with
  | .slice _,.slice _ n _=>some (.int .i64 n)
  | .array n _,_=>some (.int .i64 n)
  | _,_=>none
 | none=>none
section
variable {C:Ctx}{T:RT}(hT:aP C T=true)
include hT
theorem z8{t:Nat}{x:Value}{f:Nat}{v:Value}(q:rB T t x f=some v):kE C t x f=some v:=by unfold rB at q;split at q;{rename_i r o;split at q;{rename_i I b off p;obtain⟨i,hu,j⟩:=gr hT o p;split at q;{rename_i fo J g;split at q;{rename_i m hm;rw[j,zm] at g;cases l:i.toList[f]? with| none=>{simp[l] at g}| some fd=>{simp[l] at g;obtain⟨rfl,rfl⟩:=g;unfold kE;simp only[hu,l,bI hT hm];exact q}};{cases q}};{cases q}};{cases q}};{cases q}
theorem Ip{t:Nat}{x:Value}{f:Nat}{v:Value}(q:GC T t x f=some v):xD C t x f=some v:=by unfold GC at q;split at q;{rename_i r o;split at q;{rename_i I cs p;obtain⟨i,hu,j⟩:=gr hT o p;split at q;{rename_i fo J g;rw[j,zm] at g;cases l:i.toList[f]? with| none=>{simp[l] at g}| some fd=>{simp[l] at g;obtain⟨rfl,rfl⟩:=g;unfold xD;simp only[hu,l];exact bh hT q}};{cases q}};{cases q}};{cases q}
theorem yH:∀(g:List Field) (ps:List (Nat×Nat)),wP T (g.map λf=>(f.offset,f.type))=some ps->places C g=some ps
 | [],ps,q=>q
 | f::g,ps,q=>by{simp only[y2,wP] at q;split at q;{rename_i m r i j;cases q;unfold places;rw[bI hT i,yH g r j]};{cases q}}
theorem JB{t:Nat}{parts:List (Nat×Value)}{v:Value}(q:aS T t parts=some v):tV C t parts=some v:=by unfold aS at q;split at q;{rename_i r i;have o:=(dD hT i).2.2.2.1;split at q;{rename_i J j;obtain⟨p,hu,l⟩:=gr hT i j;split at q;{rename_i ps g;rw[l] at g;have:=yH hT _ _ g;unfold tV;simp only[o,hu,this];split at q;{rename_i cs f;rw[rL _ _ _ f];exact q};{cases q}};{cases q}};{rename_i m e j;have hu:=lW hT i j;split at q;{rename_i n I;unfold tV;simp only[o,hu,bI hT I];split at q;{rename_i cs f;rw[rL _ _ _ f];exact q};{cases q}};{cases q}};{cases q}};{cases q}
theorem M1{t:Nat}{x v:Value}(q:Ox T t x=some v)(h:au):zX C h t x=some v:=by unfold Ox at q;split at q;{rename_i r g;split at q;{rename_i e a n c f;unfold zX;rw[bz hT g f];exact q};{rename_i m e x f;unfold zX;rw[lW hT g f];exact q};{cases q}};{cases q}
end
def Hz(T:RT)(ρ:Operand->Option Value)(op:Op):Option Value:=
 match op with
 | .move x=>ρ x
 | .assign x=>ρ x
 | .pick c a b=>match ρ c with
  | some (.bool true)=>ρ a
  | some (.bool false)=>ρ b
  | _=>none
 | .build t ps=>match fw ρ ps.toList with
  | some ps=>aS T t ps
  | none=>none
 | .nilCheck x=>match ρ x with
  | some (.pointer (some a))=>some (.pointer (some a))
  | some (.func (.func f) xs ys)=>some (.func (.func f) xs ys)
  | _=>none
 | .unOp op _ x=>match ρ x with
  | some a=>Qf op a
  | none=>none
 | .makeFunc fn xs ys=>match cZ ρ xs.toList,cZ ρ ys.toList with
  | some a,some b=>some (.func fn ⟨a⟩ ⟨b⟩)
  | _,_=>none
 | .fieldAddr t x f=>match ρ x with
  | some x=>rB T t x f
  | none=>none
 | .field t x f=>match ρ x with
  | some x=>GC T t x f
  | none=>none
 | .extract x i=>match ρ x with
  | some (.tuple vs)=>vs.toList[i]?
  | _=>none
 | .call c=>match c.callee with
  | .builtin .len=>match cZ ρ c.args.toList,c.argTypes.toList with
   | some [x],t::_=>Ox T t x
   | _,_=>none
  | _=>none
 | .binOp op _ x y _=>match op,ρ x,ρ y with
  | .eql,some (.int k a),some (.int k' b)=>if k=k' then some (.bool (a==b)) else none
  | .neq,some (.int k a),some (.int k' b)=>if k=k' then some (.bool (a != b)) else none
  | .lss,some (.int k a),some (.int k' b)=>if k=k' then some (.bool (decide (a<b))) else none
  | .leq,some (.int k a),some (.int k' b)=>if k=k' then some (.bool (decide (a<=b))) else none
  | .gtr,some (.int k a),some (.int k' b)=>if k=k' then some (.bool (decide (a > b))) else none
  | .geq,some (.int k a),some (.int k' b)=>if k=k' then some (.bool (decide (a≥b))) else none
  | _,_,_=>none
 | _=>none
theorem O3{C:Ctx}{T:RT}(hT:aP C T=true){ρ:Operand->Option Value}{op:Op}{v:Value}(q:Hz T ρ op=some v)(h:au):aQ C ρ h op=some (.val v h):=by
 cases op with
 | move x=>simp only[Hz] at q;simp only[aQ,q];rfl
 | assign x=>simp only[Hz] at q;simp only[aQ,q];rfl
 | pick c a b=>
  simp only[Hz] at q;simp only[aQ];split at q
  ·rename_i g;simp only[g,q];rfl
  ·rename_i g;simp only[g,q];rfl
  ·cases q
 | build t ps=>
  simp only[Hz] at q;simp only[aQ];split at q
  ·rename_i g;simp only[g,JB hT q];rfl
  ·cases q
 | nilCheck x=>
  simp only[Hz] at q;simp only[aQ];split at q
  ·rename_i g;cases q;simp only[g];rfl
  ·rename_i g;cases q;simp only[g];rfl
  ·cases q
 | unOp op t x=>
  simp only[Hz] at q;simp only[aQ];split at q
  ·rename_i g;simp only[g,q];rfl
  ·cases q
 | makeFunc fn xs ys=>
  simp only[Hz] at q;simp only[aQ];split at q
  ·rename_i j l;cases q;simp only[j,l];rfl
  ·cases q
 | fieldAddr t x f=>
  simp only[Hz] at q;simp only[aQ];split at q
  ·rename_i g;simp only[g,z8 hT q];rfl
  ·cases q
 | field t x f=>
  simp only[Hz] at q;simp only[aQ];split at q
  ·rename_i g;simp only[g,Ip hT q];rfl
  ·cases q
 | extract x i=>
  simp only[Hz] at q;simp only[aQ];split at q
  ·rename_i g;simp only[g,q];rfl
  ·cases q
 | call c=>
  cases c with
  | mk callee args argTypes=>
  cases callee with
  | builtin b=>
   cases b<;>first | (cases q;done) | skip
   simp only[Hz] at q;split at q
   ·rename_i x t ts j l;simp only[aQ,j,bD,l,M1 hT q h];rfl
   ·cases q
  | _=>cases q
 | binOp op t x y m=>
  simp only[Hz] at q;simp only[aQ];split at q
  all_goals first
   | (rename_i j l
      split at q
      · rename_i hk;subst hk;cases q
        simp only[j,l,jL,dO,SN];rfl
      · cases q)
   | (cases q;done)
 | _=>cases q
def wy:List (Nat×aC)->Nat->Nat×aC->Option (List (Nat×aC))
 | [],_,_=>none
 | _::B,0,x=>some (x::B)
 | b::B,q+1,x=>match wy B q x with
  | some B=>some (b::B)
  | none=>none
def jG:bH->Nat->List (Nat×aC)->Option bH
 | [],_,_=>none
 | _::own,0,x=>some (x::own)
 | B::own,p+1,x=>match jG own p x with
  | some own=>some (B::own)
  | none=>none
theorem gJ:∀(B:List (Nat×aC)) (q:Nat) (x:Nat×aC) (f:List (Nat×aC)),wy B q x=some f->B.set q x=f
 | [],_,_,_,h=>by cases h
 | _::B,0,x,f,h=>by cases h;rfl
 | b::B,q+1,x,f,h=>by{unfold wy at h;split at h;{rename_i g i;cases h;simp[gJ B q x g i]};{cases h}}
theorem cA:∀(own:bH) (p:Nat) (x:List (Nat×aC)) (be:bH),jG own p x=some be->own.set p x=be
 | [],_,_,_,h=>by cases h
 | _::B,0,x,f,h=>by cases h;rfl
 | b::B,q+1,x,f,h=>by{unfold jG at h;split at h;{rename_i g i;cases h;simp[cA B q x g i]};{cases h}}
section
variable {C:Ctx}{T:RT}{n:Nat}{k:bY}{F:aw}{own:bH}{ops rest:List Oper}{o:Oper}{Q:bY->aw->bH->List Rec->Prop}
theorem aA{d:Nat}{v:Value}(f:Nat.blt d n=true):eS n k (some d) v=(d,v)::k:=by simp only[eS,f,xf]
theorem WT.LU(hT:aP C T=true){d:Nat}{v:Value}{l:List Nat}(hw:aH ops k o=some true)(f:Hz T (aW C k) o.op=some v)(g:o.dst=some d)(i:Nat.blt d n=true)(j:bg (aW C k) o.op=some l)
  (h:WT C n ops rest ((d,v)::k) F own (λk2 p own2 rs=>Q k2 p own2 (⟨F,own,F,own,l⟩::rs))):WT C n ops (o::rest) k F own Q:=
 WT.still hw j (λr _=>O3 hT f r) (by rw[g,aA i];exact h)
theorem WT.loadT(hT:aP C T=true)(p:Nat){d:Nat}{t:TypeId}{a:Operand}{i off:Nat}{ro:Bool}{cs:List Value}{v:Value}(f:o.op=.load t a)(hw:aH ops k o=some true)(g:o.dst=some d)(j:Nat.blt d n=true)(l:aW C k a=some (.pointer (some ⟨i,off,none⟩)))
  {B:List (Nat×aC)} (r:own[p]?=some B) (I:(i,aC.cells ro cs)∈B) (J:nQ T cs t off=some v)
  (h:WT C n ops rest ((d,v)::k) F own (λk2 P own2 rs=>Q k2 P own2 (⟨F,own,F,own,[i]⟩::rs))):WT C n ops (o::rest) k F own Q:=
 WT.s4 p f hw l r I (bh hT J) (by rw[g,aA j];exact h)
theorem WT.storeT(hT:aP C T=true)(p q:Nat){B r:List (Nat×aC)}{be:bH}{t:TypeId}{a x:Operand}{i off m:Nat}{cs f:List Value}{v:Value}(g:o.op=.store t a x)(hw:aH ops k o=some true)(I:o.dst=none)(J:aW C k a=some (.pointer (some ⟨i,off,none⟩)))
  (P:aW C k x=some v) (R:own[p]?=some B) (U:B[q]?=some (i,.cells false cs)) (hm:dW T t=some m) (j:(Nat.beq v.cells.toList.length m&&v.cells.toList.all one)=true) (l:sN off cs v.cells.toList=some f)
  (hB:wy B q (i,.cells false f)=some r) (ho:jG own p r=some be)
  (h:WT C n ops rest k F be (λk2 F2 own2 rs=>Q k2 F2 own2 (⟨F,own,F,be,[i]⟩::rs))) :
  WT C n ops (o::rest) k F own Q:=by simp only[ti] at j;obtain⟨rfl,hle⟩:=rE _ _ _ _ l;have e1:=gJ _ _ _ _ hB;have e2:=cA _ _ _ _ ho;subst e1;subst e2;have hlen:=R6 j.1;exact WT.store p q g hw J P R U (bI hT hm) hlen j.2 (by rw[<-hlen];exact hle) (by rw[I];exact h)
theorem WT.aG(hT:aP C T=true){d:Nat}{t:TypeId}{z:Value}(f:o.op=.alloc t)(hw:aH ops k o=some true)(j:o.dst=some d)(l:Nat.blt d n=true)(p:gq T t=some z)
  {zs:List Value} (g:takeN z.cells.toList.length z.cells.toList=some zs)
  (h:∀i,F i=none->WT C n ops rest ((d,.pointer (some ⟨i,0,none⟩))::k) F ([(i,.cells false zs)]::own) (λk2 r own2 rs=>Q k2 r own2 (⟨F,own,F,[(i,.cells false zs)]::own,[]⟩::rs))) :
  WT C n ops (o::rest) k F own Q:=by have:=(ob _ _ _ g).1;rw[SS] at this;subst this;exact WT.alloc f hw (cT hT p) (λi hi=>by rw[j,aA l];exact h i hi)
theorem WT.bZ{d:Nat}{t:TypeId}{x:Operand}{v:Value}{vs:List Value}(f:o.op=.box t x)(hw:aH ops k o=some true)(g:o.dst=some d)(j:Nat.blt d n=true)(l:aW C k x=some v)(p:takeN v.cells.toList.length v.cells.toList=some vs)
  (h:∀i,F i=none->WT C n ops rest ((d,.pointer (some ⟨i,0,none⟩))::k) F ([(i,.cells false vs)]::own) (λk2 r own2 rs=>Q k2 r own2 (⟨F,own,F,[(i,.cells false vs)]::own,[]⟩::rs))) :
  WT C n ops (o::rest) k F own Q:=by have:=(ob _ _ _ p).1;rw[SS] at this;subst this;exact WT.box f hw l (λi hi=>by rw[g,aA j];exact h i hi)
theorem WT.OQ{d:Nat}{t ty:TypeId}{g i:Operand}{x y:Int}(f:o.op=.binOp .add t g i ty)(hw:aH ops k o=some true)(j:o.dst=some d)(l:Nat.blt d n=true)(p:aW C k g=some (.int .i64 x))(r:aW C k i=some (.int .i64 y))
  (I:-9223372036854775808<=x+y/\x+y<=9223372036854775807)
  (h:WT C n ops rest ((d,.int .i64 (x+y))::k) F own (λk2 J own2 rs=>Q k2 J own2 (⟨F,own,F,own,[]⟩::rs))):WT C n ops (o::rest) k F own Q:=
 WT.add f hw p r I (by rw[j,aA l];exact h)
theorem WT.Lg{d:Nat}{t ty:TypeId}{g i:Operand}{x y:Int}(f:o.op=.binOp .sub t g i ty)(hw:aH ops k o=some true)(j:o.dst=some d)(l:Nat.blt d n=true)(p:aW C k g=some (.int .i64 x))(r:aW C k i=some (.int .i64 y))
  (I:-9223372036854775808<=x-y/\x-y<=9223372036854775807)
  (h:WT C n ops rest ((d,.int .i64 (x-y))::k) F own (λk2 J own2 rs=>Q k2 J own2 (⟨F,own,F,own,[]⟩::rs))):WT C n ops (o::rest) k F own Q:=
 WT.sub f hw p r I (by rw[j,aA l];exact h)
end
end Go.Abs