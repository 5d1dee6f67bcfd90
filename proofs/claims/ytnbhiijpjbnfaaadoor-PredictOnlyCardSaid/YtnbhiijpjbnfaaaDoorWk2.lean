/-
  Walks: what functions of the program do, over the abstract machine.
-/
import Derived.Test.YtnbhiijpjbnfaaaDoorWk1
set_option linter.unusedVariables false
set_option maxRecDepth 20000
set_option maxHeartbeats 0
open Go Go.Abs Go.Proofs Go.Proofs.D
namespace Go.Proofs.D
inductive Nul(g:Gram):Nat→Prop
 | mk {r:Rule}:r∈g.rules→(∀s∈r.right,s.term=false)→(∀s∈r.right,Nul g s.n)→Nul g r.left
def NulL(g:Gram)(l:List Sym):Prop:=∀s∈l,s.term=false∧Nul g s.n
inductive Beg(g:Gram):Nat→Nat→Prop
 | term {r:Rule} {pre post:List Sym} {t:Nat}:r∈g.rules→r.right=pre++⟨true,t⟩::post→NulL g pre→Beg g r.left t
 | non {r:Rule} {pre post:List Sym} {m t:Nat}:r∈g.rules→r.right=pre++⟨false,m⟩::post→NulL g pre→Beg g m t→Beg g r.left t
def BegL(g:Gram)(l:List Sym)(t:Nat):Prop:=∃pre s post,l=pre++s::post∧NulL g pre∧(s=⟨true,t⟩∨(s.term=false∧Beg g s.n t))
theorem Nul.of{g:Gram}{r:Rule}(h:r∈g.rules)(h2:NulL g r.right):Nul g r.left:=.mk h (fun s hs=>(h2 s hs).1) (fun s hs=>(h2 s hs).2)
theorem Beg.of{g:Gram}{r:Rule}{t:Nat}(h:r∈g.rules)(h2:BegL g r.right t):Beg g r.left t:=by
 obtain⟨pre,s,post,e,hn,h3⟩:=h2;rcases h3 with rfl | ⟨h3,h4⟩
 ·exact .term h e hn
 ·obtain⟨b,n⟩:=s;obtain rfl:b=false:=h3;exact .non h e hn h4
theorem NulL.nil{g:Gram}:NulL g []:=fun _ h=>by cases h
theorem NulL.cons{g:Gram}{s:Sym}{l:List Sym}(h1:s.term=false)(h2:Nul g s.n)(h:NulL g l):NulL g (s::l):=fun x hx=>by
 rcases List.mem_cons.1 hx with rfl | hx
 ·exact⟨h1,h2⟩
 ·exact h x hx
theorem BegL.head{g:Gram}{s:Sym}{l:List Sym}{t:Nat}(h:s=⟨true,t⟩∨(s.term=false∧Beg g s.n t)):BegL g (s::l) t:=⟨[],s,l,rfl,NulL.nil,h⟩
theorem BegL.cons{g:Gram}{s:Sym}{l:List Sym}{t:Nat}(h1:s.term=false)(h2:Nul g s.n)(h:BegL g l t):BegL g (s::l) t:=by
 obtain⟨pre,x,post,e,hn,h3⟩:=h;exact⟨s::pre,x,post,by rw[e];rfl,NulL.cons h1 h2 hn,h3⟩
mutual
theorem TreeOf.begin{g:Gram}{w:List Nat}:∀{t:Tree} {s:Sym} {i j:Nat},TreeOf g w s t i j→(i=j→s.term=false∧Nul g s.n)∧(i<j→∃c,w[i]?=some c∧(s=⟨true,c⟩∨(s.term=false∧Beg g s.n c)))
 | .mk _ _ _,_,i,_,.leaf h=>⟨fun e=>by omega,fun _=>⟨_,h,.inl rfl⟩⟩
 | .mk _ _ ks,_,i,j,.node h h2=>by
  have hm:=gM h;obtain⟨h3,h4⟩:=TreesOf.begin h2;refine⟨fun e=>⟨rfl,.of hm (h3 e)⟩,fun e=>?_⟩;obtain⟨c,hc,hb⟩:=h4 e;exact⟨c,hc,.inr ⟨rfl,.of hm hb⟩⟩
theorem TreesOf.begin{g:Gram}{w:List Nat}:∀{ts:List Tree} {l:List Sym} {i j:Nat},TreesOf g w l ts i j→(i=j→NulL g l)∧(i<j→∃c,w[i]?=some c∧BegL g l c)
 | [],_,i,_,.nil=>⟨fun _=>NulL.nil,fun e=>by omega⟩
 | t::ts,_,i,j,.cons (m:=m) h1 h2=>by
  have hle1:=(TreeOf.le h1).1;have hle2:=(TreesOf.le h2).1;obtain⟨a1,a2⟩:=TreeOf.begin h1;obtain⟨b1,b2⟩:=TreesOf.begin h2;refine⟨fun e=>?_,fun e=>?_⟩
  ·obtain⟨h3,h4⟩:=a1 zo;exact NulL.cons h3 h4 (b1 zo)
  ·by_cases hm:i<m
   ·obtain⟨c,hc,h5⟩:=a2 hm;exact⟨c,hc,BegL.head h5⟩
   ·obtain rfl:i=m:=by omega
    obtain⟨h3,h4⟩:=a1 rfl;obtain⟨c,hc,h5⟩:=b2 e;exact⟨c,hc,BegL.cons h3 h4 h5⟩
end
def rightL(g:Gram)(k:Nat):List Sym:=if k=g.rules.length then [⟨false,g.start⟩] else ((g.rules[k]?).map (·.right)).getD []
theorem rightL_rule{g:Gram}{k:Nat}{r:Rule}(h:g.rules[k]?=some r):rightL g k=r.right:=by
 unfold rightL;rw[if_neg (by have:=(gS h).1;omega),h];rfl
theorem afterL_right{g:Gram}{x:Lr}:afterL g x=(rightL g x.rule)[x.dot]?:=by
 unfold afterL rightL;split
 ·cases hd:x.dot with
  | zero=>rfl
  | succ d=>rfl
 ·cases h:g.rules[x.rule]? with
  | none=>rfl
  | some r=>rfl
def restL(g:Gram)(x:Lr):List Sym:=(rightL g x.rule).drop (x.dot+1)
structure LRok(g:Gram)(it:Nat→Lr→Prop)(la:Nat→Lr→Nat→Prop)(go:Nat→Sym→Option Nat):Prop where
 start:it 0 ⟨g.rules.length,0⟩
 startL:la 0 ⟨g.rules.length,0⟩ g.terms
 clos:∀{s:Nat} {x:Lr} {k:Nat} {r:Rule},it s x→afterL g x=some ⟨false,r.left⟩→g.rules[k]?=some r→it s ⟨k,0⟩
 closL:∀{s:Nat} {x:Lr} {k:Nat} {r:Rule} {t u:Nat},it s x→la s x u→afterL g x=some ⟨false,r.left⟩→g.rules[k]?=some r→(BegL g (restL g x) t∨(NulL g (restL g x)∧la s x t))→la s ⟨k,0⟩ t
 step:∀{s:Nat} {x:Lr} {y:Sym},it s x→afterL g x=some y→∃s',go s y=some s'∧it s' ⟨x.rule,x.dot+1⟩∧∀t,la s x t→la s' ⟨x.rule,x.dot+1⟩ t
 back:∀{s s':Nat} {y:Sym} {k d:Nat},go s y=some s'→it s' ⟨k,d+1⟩→it s ⟨k,d⟩∧afterL g ⟨k,d⟩=some y
 fill:∀{s:Nat} {k:Nat} {r:Rule},it s ⟨k,0⟩→g.rules[k]?=some r→∃s',go s ⟨false,r.left⟩=some s'
 first:∀{s:Nat},it s ⟨g.rules.length,0⟩→s=0
 zero:∀{s:Nat} {y:Sym},go s y≠some 0
 dots:∀{x:Lr},it 0 x→x.dot=0
inductive Act where
 | no
 | shift (s:Nat)
 | red (k:Nat)
 | acc
deriving DecidableEq
inductive ActOf(g:Gram)(it:Nat→Lr→Prop)(la:Nat→Lr→Nat→Prop)(go:Nat→Sym→Option Nat)(s t:Nat):Act→Prop
 | shift {s':Nat}:t<g.terms→go s ⟨true,t⟩=some s'→ActOf g it la go s t (.shift s')
 | red {k:Nat} {r:Rule}:g.rules[k]?=some r→it s ⟨k,r.right.length⟩→la s ⟨k,r.right.length⟩ t→ActOf g it la go s t (.red k)
 | acc:it s ⟨g.rules.length,1⟩→la s ⟨g.rules.length,1⟩ t→ActOf g it la go s t .acc
structure Only(g:Gram)(it:Nat→Lr→Prop)(la:Nat→Lr→Nat→Prop)(go:Nat→Sym→Option Nat)(act:Nat→Nat→Act):Prop where
 all:∀{s t:Nat} {a:Act},ActOf g it la go s t a→act s t=a
 one:∀{s t:Nat},act s t≠.no→ActOf g it la go s t (act s t)
abbrev Conf:=List Nat×List Tree
def topS(σ:List Nat):Nat:=σ.getLast?.getD 0
def redS(g:Gram)(go:Nat→Sym→Option Nat)(act:Nat→Nat→Act)(t:Nat)(c:Conf):Conf:=match act (topS c.1) t with
 | .red k=>match g.rules[k]? with
  | some r=>(c.1.take (c.1.length-r.right.length)++[(go (topS (c.1.take (c.1.length-r.right.length))) ⟨false,r.left⟩).getD 0],
    c.2.take (c.2.length-r.right.length)++[.mk k 0 (c.2.drop (c.2.length-r.right.length))])
  | none=>c
 | _=>c
def lookW(g:Gram)(w:List Nat)(i:Nat):Nat:=(w[i]?).getD g.terms
inductive LStk(g:Gram)(go:Nat→Sym→Option Nat)(w:List Nat):List Nat→List Tree→Nat→Prop
 | nil:LStk g go w [0] [] 0
 | snoc {σ:List Nat} {τ:List Tree} {i j s s':Nat} {y:Sym} {T:Tree}:LStk g go w (σ++[s]) τ i→go s y=some s'→TreeOf g w y T i j→LStk g go w (σ++[s]++[s']) (τ++[T]) j
theorem topS_snoc(σ:List Nat)(s:Nat):topS (σ++[s])=s:=by unfold topS;rw[List.getLast?_append];rfl
section
variable {g:Gram}{it:Nat→Lr→Prop}{la:Nat→Lr→Nat→Prop}{go:Nat→Sym→Option Nat}{act:Nat→Nat→Act}{w:List Nat}
inductive Run(g:Gram)(go:Nat→Sym→Option Nat)(act:Nat→Nat→Act)(w:List Nat)(a:Conf×Nat):Nat→Conf×Nat→Prop
 | refl:Run g go act w a 0 a
 | red {n:Nat} {c:Conf} {i k:Nat}:Run g go act w a n (c,i)→act (topS c.1) (lookW g w i)=.red k→Run g go act w a (n+1) (redS g go act (lookW g w i) c,i)
 | shift {n:Nat} {c:Conf} {i t s':Nat}:Run g go act w a n (c,i)→w[i]?=some t→act (topS c.1) t=.shift s'→Run g go act w a n ((c.1++[s'],c.2++[.mk (-1) t []]),i+1)
theorem Run.trans{a b c:Conf×Nat}{n m:Nat}(h1:Run g go act w a n b)(h2:Run g go act w b m c):Run g go act w a (n+m) c:=by
 induction h2 with
 | refl=>exact h1
 | red h3 h4 ih=>exact .red ih h4
 | shift h3 h4 h5 ih=>exact .shift ih h4 h5
def Allowed(g:Gram)(la:Nat→Lr→Nat→Prop)(s:Nat)(x:Lr)(t:Nat):Prop:=BegL g (restL g x) t∨(NulL g (restL g x)∧la s x t)
theorem lookW_at{i t:Nat}(h:w[i]?=some t):lookW g w i=t:=by unfold lookW;rw[h];rfl
mutual
theorem TreeOf.run(ok:LRok g it la go)(on:Only g it la go act)(hw:∀t∈w,t<g.terms):∀{T:Tree} {X:Sym} {i j:Nat},TreeOf g w X T i j→∀{σ:List Nat} {τ:List Tree} {x:Lr},it (topS σ) x→(∃u,la (topS σ) x u)→afterL g x=some X→Allowed g la (topS σ) x (lookW g w j)→
  ∃s' n,go (topS σ) X=some s'∧n≤T.pre.length∧Run g go act w ((σ,τ),i) n ((σ++[s'],τ++[T]),j)
 | .mk _ t _,_,i,_,.leaf h,σ,τ,x,hx,_,ha,_=>by
  obtain⟨s',h1,h2,h3⟩:=ok.step hx ha;have hact:=on.all (.shift (hw t (gM h)) h1);exact⟨s',0,h1,Nat.zero_le _,.shift (c:=(σ,τ)) .refl h hact⟩
 | .mk _ _ ks,_,i,j,.node (k:=k) (r:=r) h h2,σ,τ,x,hx,⟨u,hu⟩,ha,hal=>by
  obtain⟨s',h3,_,_⟩:=ok.step hx ha;have hk0:=ok.clos hx ha h;have hk1:=ok.closL (t:=lookW g w j) hx hu ha h hal;obtain⟨σ',n,e1,e2,e3,e4,e5⟩:=TreesOf.run ok on hw h2 (σ:=σ) (τ:=τ) (k:=k) (d:=0) (r:=r) h hk0 hk1 (Nat.zero_le _) rfl;have hact:=on.all (.red h e2 e3);refine⟨s',n+1,h3,?_,?_⟩
  ·show n+1≤((k:Int)::preL ks).length;rw[List.length_cons];omega
  ·have hred:=Run.red e5 hact;have hsl:σ'.length=r.right.length:=by rw[e1,TreesOf.len h2]
   have e:redS g go act (lookW g w j) (σ++σ',τ++ks)=(σ++[s'],τ++[.mk k 0 ks]):=by
    unfold redS;dsimp only;rw[hact];dsimp only;rw[h];dsimp only;have e7:(σ++σ').length-r.right.length=σ.length:=by rw[List.length_append,hsl];omega
    have e8:(τ++ks).length-r.right.length=τ.length:=by rw[List.length_append,TreesOf.len h2];omega
    rw[e7,e8,List.take_left,List.take_left,List.drop_left,h3];rfl
   rw[e] at hred;exact hred
theorem TreesOf.run(ok:LRok g it la go)(on:Only g it la go act)(hw:∀t∈w,t<g.terms):∀{ts:List Tree} {l:List Sym} {i j:Nat},TreesOf g w l ts i j→∀{σ:List Nat} {τ:List Tree} {k d:Nat} {r:Rule},g.rules[k]?=some r→it (topS σ) ⟨k,d⟩→la (topS σ) ⟨k,d⟩ (lookW g w j)→d≤r.right.length→r.right.drop d=l→
  ∃σ' n,σ'.length=ts.length∧it (topS (σ++σ')) ⟨k,r.right.length⟩∧la (topS (σ++σ')) ⟨k,r.right.length⟩ (lookW g w j)∧n≤(preL ts).length∧Run g go act w ((σ,τ),i) n ((σ++σ',τ++ts),j)
 | [],_,i,_,.nil,σ,τ,k,d,r,hk,hit,hla,hdl,hd=>by
  obtain rfl:d=r.right.length:=by have:=List.drop_eq_nil_iff.1 hd;omega
  refine⟨[],0,rfl,?_,?_,Nat.zero_le _,?_⟩
  ·rw[List.append_nil];exact hit
  ·rw[List.append_nil];exact hla
  ·rw[List.append_nil,List.append_nil];exact .refl
 | T::ts,s::l,i,j,.cons (m:=m) h1 h2,σ,τ,k,d,r,hk,hit,hla,hdl,hd=>by
  have hd1:r.right[d]?=some s:=by rw[←List.head?_drop,hd];rfl
  have hd2:r.right.drop (d+1)=l:=by rw[←List.tail_drop,hd];rfl
  have hdlt:=(gS hd1).1;have haf:afterL g ⟨k,d⟩=some s:=by rw[afterL_right];show (rightL g k)[d]?=_;rw[rightL_rule hk];exact hd1
  have hrest:restL g ⟨k,d⟩=l:=by unfold restL;show (rightL g k).drop (d+1)=_;rw[rightL_rule hk];exact hd2
  obtain⟨b1,b2⟩:=TreesOf.begin h2;have hle:=(TreesOf.le h2).1;have hal:Allowed g la (topS σ) ⟨k,d⟩ (lookW g w m):=by
   unfold Allowed;rw[hrest];by_cases hm:m<j
   ·obtain⟨c,hc,h5⟩:=b2 hm;rw[lookW_at hc];exact .inl h5
   ·obtain rfl:m=j:=by omega
    exact .inr ⟨b1 rfl,hla⟩
  obtain⟨s',n1,e1,e2,e3⟩:=TreeOf.run ok on hw h1 hit ⟨_,hla⟩ haf hal;obtain⟨s2,f1,f2,f3⟩:=ok.step hit haf;rw[e1] at f1;obtain rfl:=Option.some.inj f1;obtain⟨σ',n2,g1,g2,g3,g4,g5⟩:=TreesOf.run ok on hw h2 (σ:=σ++[s']) (τ:=τ++[T]) (k:=k) (d:=d+1) (r:=r) hk (by rw[topS_snoc];exact f2) (by rw[topS_snoc];exact f3 _ hla) hdlt hd2;have e:∀x:List Nat,σ++[s']++x=σ++(s'::x):=fun x=>by simp
  have e':∀x:List Tree,τ++[T]++x=τ++(T::x):=fun x=>by simp
  rw[e] at g2 g3 g5;rw[e'] at g5;refine⟨s'::σ',n1+n2,by rw[List.length_cons,g1];rfl,g2,g3,?_,e3.trans g5⟩;show _≤(T.pre++preL ts).length;rw[List.length_append];omega
end
end
def allLr(g:Gram):List Lr:=((List.range (g.rules.length+1)).map fun k=>(List.range ((rightL g k).length+1)).map fun d=>(⟨k,d⟩:Lr)).flatten
noncomputable def closL(g:Gram)(l:List Lr):List Lr:=(allLr g).filter fun z=>@decide (Clos g l z) (Classical.propDecidable _)
def OkLr(g:Gram)(x:Lr):Prop:=x.rule≤g.rules.length∧x.dot≤(rightL g x.rule).length
section
variable {α:Type}[DecidableEq α]
structure RowOf(sts:List α)(os:List (Option α))(row:List Int):Prop where
 len:row.length=os.length
 no:∀k:Nat,os[k]?=some none→row[k]?=some (-1)
 yes:∀(k:Nat) (s:α),os[k]?=some (some s)→∃j:Nat,row[k]?=some (j:Int)∧sts[j]?=some s
structure NumI(most:Nat)(step:α→List (Option α))(first:α)(i:Nat)(sts:List α)(rows:List (List Int)):Prop where
 first:sts[0]?=some first
 nodup:sts.Nodup
 few:sts.length≤most
 len:rows.length=i
 le:i≤sts.length
 row:∀(k:Nat) (st:α) (row:List Int),sts[k]?=some st→rows[k]?=some row→RowOf sts (step st) row
 from_:∀(j:Nat) (st:α),0<j→sts[j]?=some st→∃(k:Nat) (sk:α),k<j∧k<i∧sts[k]?=some sk∧some st∈step sk
end
theorem NumI.all{α:Type}{most:Nat}{step:α→List (Option α)}{first:α}{i:Nat}{sts:List α}{rows:List (List Int)}(h:NumI most step first i sts rows){P:α→Prop}(h0:P first)(hs:∀st s,P st→some s∈step st→P s):∀(j:Nat) (st:α),sts[j]?=some st→P st:=by
 intro j
 induction j using Nat.strongRecOn with
 | _ j ih=>
  intro st hst;by_cases e:j=0
  ·subst e;rw[h.first] at hst
   obtain rfl:=Option.some.inj hst;exact h0
  ·obtain⟨k,sk,h1,_,h3,h4⟩:=h.from_ j st zo hst;exact hs sk st (ih k h1 sk h3) h4
def kern(g:Gram)(st:List Lr)(y:Sym):List Lr:=st.filterMap fun x=>if afterL g x=some y then some ⟨x.rule,x.dot+1⟩ else none
def symsL(g:Gram):List Sym:=((List.range g.terms).map fun t=>(⟨true,t⟩:Sym))++(List.range g.nons).map fun n=>(⟨false,n⟩:Sym)
structure AutoC(g:Gram)(I:List (List Lr))(rows:List (List Int)):Prop where
 len:rows.length=I.length
 ok:∀(s:Nat) (st:List Lr),I[s]?=some st→∀x∈st,OkLr g x
 zero:∃st,I[0]?=some st∧∀z,z∈st↔Clos g [⟨g.rules.length,0⟩] z
 from_:∀(s:Nat) (st:List Lr),0<s→I[s]?=some st→∃l:List Lr,(∀x∈l,0<x.dot)∧l≠[]∧∀z,z∈st↔Clos g l z
 row:∀(s:Nat) (st:List Lr) (row:List Int),I[s]?=some st→rows[s]?=some row→row.length=g.terms+g.nons
 no:∀(s k:Nat) (st:List Lr) (row:List Int) (y:Sym),I[s]?=some st→rows[s]?=some row→(symsL g)[k]?=some y→kern g st y=[]→row[k]?=some (-1)
 yes:∀(s k:Nat) (st:List Lr) (row:List Int) (y:Sym),I[s]?=some st→rows[s]?=some row→(symsL g)[k]?=some y→kern g st y≠[]→∃(j:Nat) (st':List Lr),row[k]?=some (j:Int)∧I[j]?=some st'∧∀z,z∈st'↔Clos g (kern g st y) z
section
variable {g:Gram}{I:List (List Lr)}{rows:List (List Int)}
end
noncomputable def maskOf(P:Nat→Prop):Nat→Nat
 | 0=>0
 | n+1=>maskOf P n+(if @decide (P n) (Classical.propDecidable _)=true then 2 ^ n else 0)
theorem maskOf_lt(P:Nat→Prop):∀n,maskOf P n<2 ^ n
 | 0=>Nat.one_pos
 | n+1=>by
  have:=maskOf_lt P n;unfold maskOf;rw[Nat.pow_succ];split<;>omega
theorem maskOf_bit(P:Nat→Prop):∀(n t:Nat),(maskOf P n).testBit t=true↔t<n∧P t
 | 0,t=>by unfold maskOf;simp
 | n+1,t=>by
  have h1:=maskOf_lt P n;have h2:=maskOf_bit P n t;unfold maskOf;by_cases e:t=n
  ·subst e;have h3:(maskOf P t).testBit t=false:=Nat.testBit_lt_two_pow h1;split
   ·rename_i h;rw[Nat.add_comm,Nat.testBit_two_pow_add_eq,h3];simp only[Bool.not_false,true_iff];exact⟨Nat.lt_succ_self _,@of_decide_eq_true _ (Classical.propDecidable _) h⟩
   ·rename_i h;rw[Nat.add_zero,h3];simp only[Bool.false_eq_true,false_iff,not_and];exact fun _ hp=>h (@decide_eq_true _ (Classical.propDecidable _) hp)
  ·have h4:(t<n+1∧P t)↔(t<n∧P t):=⟨fun ⟨a,b⟩=>⟨by omega,b⟩,fun ⟨a,b⟩=>⟨by omega,b⟩⟩;rw[h4,←h2];split
   ·by_cases e2:t<n
    ·rw[Nat.add_comm,Nat.testBit_two_pow_add_gt zo]
    ·have e3:n<t:=by omega
     have a1:(maskOf P n).testBit t=false:=Nat.testBit_lt_two_pow (Nat.lt_trans h1 (Nat.pow_lt_pow_right (by decide) e3));have a2:(maskOf P n+2 ^ n).testBit t=false:=Nat.testBit_lt_two_pow (by
      have:2 ^ (n+1)≤2 ^ t:=Nat.pow_le_pow_right (by decide) e3;rw[Nat.pow_succ] at this;omega)
     rw[a1,a2]
   ·rw[Nat.add_zero]
structure Look where
 item:Lr
 set:Nat
deriving DecidableEq,Inhabited
def itemsK(l:List Look):List Lr:=l.map (·.item)
inductive LAc(g:Gram)(l:List Look):Lr→Nat→Prop
 | base {z:Lr} {m t:Nat}:⟨z,m⟩∈l→m.testBit t=true→t≤g.terms→LAc g l z t
 | beg {x:Lr} {k t:Nat} {r:Rule}:Clos g (itemsK l) x→afterL g x=some ⟨false,r.left⟩→g.rules[k]?=some r→BegL g (restL g x) t→LAc g l ⟨k,0⟩ t
 | pass {x:Lr} {k t:Nat} {r:Rule}:Clos g (itemsK l) x→afterL g x=some ⟨false,r.left⟩→g.rules[k]?=some r→NulL g (restL g x)→LAc g l x t→LAc g l ⟨k,0⟩ t
theorem Beg.lt{g:Gram}(hg:Valid g){n t:Nat}(h:Beg g n t):t<g.terms:=by
 induction h with
 | term hr e _=>
  have:=(hg.right _ hr).2.2 ⟨true,_⟩ (by rw[e];exact List.mem_append_right _ me);exact this
 | non _ _ _ _ ih=>exact ih
theorem BegL.lt{g:Gram}(hg:Valid g){l:List Sym}(hl:∀s∈l,SymOk g.terms g.nons s){t:Nat}(h:BegL g l t):t<g.terms:=by
 obtain⟨pre,s,post,rfl,_,h3⟩:=h;rcases h3 with rfl | ⟨_,h4⟩
 ·exact hl _ (List.mem_append_right _ me)
 ·exact h4.lt hg
inductive Rch(g:Gram):Nat→Prop
 | start:Rch g g.start
 | more {r:Rule} {m:Nat}:r∈g.rules→Rch g r.left→⟨false,m⟩∈r.right→Rch g m
inductive Fol(g:Gram):Nat→Nat→Prop
 | start:Fol g g.start g.terms
 | beg {r:Rule} {pre post:List Sym} {m t:Nat}:r∈g.rules→Rch g r.left→r.right=pre++⟨false,m⟩::post→BegL g post t→Fol g m t
 | pass {r:Rule} {pre post:List Sym} {m t:Nat}:r∈g.rules→Rch g r.left→r.right=pre++⟨false,m⟩::post→NulL g post→Fol g r.left t→Fol g m t
def nextW(g:Gram)(w:List Nat)(i:Nat):Nat:=(w[i]?).getD g.terms
def Can(g:Gram)(r:Rule)(t:Nat):Prop:=BegL g r.right t∨(NulL g r.right∧Fol g r.left t)
structure LLok(g:Gram)(tab:Nat→Nat→Option Nat):Prop where
 rule:∀{n t k:Nat},tab n t=some k→∃r,g.rules[k]?=some r∧r.left=n∧Can g r t
 only:∀{k t:Nat} {r:Rule},g.rules[k]?=some r→Can g r t→tab r.left t=some k
mutual
inductive PR(g:Gram)(tab:Nat→Nat→Option Nat)(w:List Nat):Sym→Nat→Option Tree→Nat→Prop
 | leaf {t i:Nat} (h:w[i]?=some t):PR g tab w ⟨true,t⟩ i (some (.mk (-1) t [])) (i+1)
 | other {t i:Nat} (h:¬w[i]?=some t):PR g tab w ⟨true,t⟩ i none i
 | none {n i:Nat} (h:tab n (nextW g w i)=none):PR g tab w ⟨false,n⟩ i none i
 | node {k n i j:Nat} {r:Rule} {ts:List Tree} (h:tab n (nextW g w i)=some k) (hr:g.rules[k]?=some r) (h2:PRL g tab w r.right i (some ts) j):PR g tab w ⟨false,n⟩ i (some (.mk k 0 ts)) j
 | bad {k n i j:Nat} {r:Rule} (h:tab n (nextW g w i)=some k) (hr:g.rules[k]?=some r) (h2:PRL g tab w r.right i none j):PR g tab w ⟨false,n⟩ i none j
inductive PRL(g:Gram)(tab:Nat→Nat→Option Nat)(w:List Nat):List Sym→Nat→Option (List Tree)→Nat→Prop
 | nil {i:Nat}:PRL g tab w [] i (some []) i
 | cons {s:Sym} {l:List Sym} {t:Tree} {ts:List Tree} {i m j:Nat} (h:PR g tab w s i (some t) m) (h2:PRL g tab w l m (some ts) j):PRL g tab w (s::l) i (some (t::ts)) j
 | stop {s:Sym} {l:List Sym} {i m:Nat} (h:PR g tab w s i none m):PRL g tab w (s::l) i none m
 | later {s:Sym} {l:List Sym} {t:Tree} {i m j:Nat} (h:PR g tab w s i (some t) m) (h2:PRL g tab w l m none j):PRL g tab w (s::l) i none j
end
section
variable {g:Gram}{tab:Nat→Nat→Option Nat}{w:List Nat}
mutual
theorem PR.sound(ok:LLok g tab):∀{s:Sym} {i j:Nat} {T:Tree},PR g tab w s i (some T) j→TreeOf g w s T i j
 | _,_,_,.mk _ _ _,.leaf h=>.leaf h
 | _,_,_,.mk _ _ ks,.node h hr h2=>by
  obtain⟨r',q1,rfl,_⟩:=ok.rule h;rw[hr] at q1;obtain rfl:=Option.some.inj q1;exact .node hr (PRL.sound ok h2)
theorem PRL.sound(ok:LLok g tab):∀{l:List Sym} {i j:Nat} {ts:List Tree},PRL g tab w l i (some ts) j→TreesOf g w l ts i j
 | _,_,_,[],.nil=>.nil
 | _,_,_,_::_,.cons h h2=>.cons (PR.sound ok h) (PRL.sound ok h2)
end
theorem nextW_at{i c:Nat}(h:w[i]?=some c):nextW g w i=c:=by unfold nextW;rw[h];rfl
mutual
theorem TreeOf.pr(ok:LLok g tab):∀{T:Tree} {s:Sym} {i j:Nat},TreeOf g w s T i j→(s.term=false→Rch g s.n∧Fol g s.n (nextW g w j))→PR g tab w s i (some T) j
 | .mk _ _ _,_,_,_,.leaf h,_=>.leaf h
 | .mk _ _ ks,_,i,j,.node (k:=k) (r:=r) h h2,hc=>by
  obtain⟨hR,hF⟩:=hc rfl;have hle:=(TreesOf.le h2).1;obtain⟨b1,b2⟩:=TreesOf.begin h2;have hcan:Can g r (nextW g w i):=by
   by_cases e:i=j
   ·subst e;exact .inr ⟨b1 rfl,hF⟩
   ·obtain⟨c,q1,q2⟩:=b2 zo;rw[nextW_at q1];exact .inl q2
  exact .node (ok.only h hcan) h (TreesOf.pr ok (pre:=[]) (gM h) hR hF rfl h2)
theorem TreesOf.pr(ok:LLok g tab):∀{ts:List Tree} {l:List Sym} {i j:Nat} {r:Rule} {pre:List Sym},r∈g.rules→Rch g r.left→Fol g r.left (nextW g w j)→r.right=pre++l→TreesOf g w l ts i j→PRL g tab w l i (some ts) j
 | [],[],_,_,_,_,_,_,_,_,.nil=>.nil
 | t::ts,s::l,i,j,r,pre,hm,hR,hF,e,.cons (m:=m) h1 h2=>by
  refine .cons (TreeOf.pr ok h1 fun hs=>?_) (TreesOf.pr ok hm hR hF (pre:=pre++[s]) (by rw[e,List.append_assoc];rfl) h2);obtain⟨b,n⟩:=s;obtain rfl:b=false:=hs;have hle:=(TreesOf.le h2).1;obtain⟨b1,b2⟩:=TreesOf.begin h2;refine⟨.more hm hR (by rw[e];exact List.mem_append_right _ me),?_⟩;by_cases e2:m=j
  ·subst e2;exact .pass hm hR e (b1 rfl) hF
  ·obtain⟨c,q1,q2⟩:=b2 zo;rw[nextW_at q1];exact .beg hm hR e q2
end
mutual
theorem PR.same:∀{s:Sym} {i j j':Nat} {a b:Option Tree},PR g tab w s i a j→PR g tab w s i b j'→a=b∧j=j'
 | _,_,_,_,_,_,.leaf h,.leaf _=>⟨rfl,rfl⟩
 | _,_,_,_,_,_,.leaf h,.other h'=>absurd h h'
 | _,_,_,_,_,_,.other h,.leaf h'=>absurd h' h
 | _,_,_,_,_,_,.other h,.other _=>⟨rfl,rfl⟩
 | _,_,_,_,_,_,.none h,.none _=>⟨rfl,rfl⟩
 | _,_,_,_,_,_,.none h,.node h' _ _=>by rw[h] at h';cases h'
 | _,_,_,_,_,_,.none h,.bad h' _ _=>by rw[h] at h';cases h'
 | _,_,_,_,_,_,.node h' _ _,.none h=>by rw[h] at h';cases h'
 | _,_,_,_,_,_,.bad h' _ _,.none h=>by rw[h] at h';cases h'
 | _,_,_,_,_,_,.node h hr h2,.node h' hr' h2'=>by
  rw[h] at h';obtain rfl:=Option.some.inj h';rw[hr] at hr';obtain rfl:=Option.some.inj hr';obtain⟨q,rfl⟩:=PRL.same h2 h2';obtain rfl:=Option.some.inj q;exact⟨rfl,rfl⟩
 | _,_,_,_,_,_,.node h hr h2,.bad h' hr' h2'=>by
  rw[h] at h';obtain rfl:=Option.some.inj h';rw[hr] at hr';obtain rfl:=Option.some.inj hr';cases (PRL.same h2 h2').1
 | _,_,_,_,_,_,.bad h hr h2,.node h' hr' h2'=>by
  rw[h] at h';obtain rfl:=Option.some.inj h';rw[hr] at hr';obtain rfl:=Option.some.inj hr';cases (PRL.same h2 h2').1
 | _,_,_,_,_,_,.bad h hr h2,.bad h' hr' h2'=>by
  rw[h] at h';obtain rfl:=Option.some.inj h';rw[hr] at hr';obtain rfl:=Option.some.inj hr';exact⟨rfl,(PRL.same h2 h2').2⟩
theorem PRL.same:∀{l:List Sym} {i j j':Nat} {a b:Option (List Tree)},PRL g tab w l i a j→PRL g tab w l i b j'→a=b∧j=j'
 | _,_,_,_,_,_,.nil,.nil=>⟨rfl,rfl⟩
 | _,_,_,_,_,_,.cons h h2,.cons h' h2'=>by
  obtain⟨q,rfl⟩:=PR.same h h';obtain rfl:=Option.some.inj q;obtain⟨q,rfl⟩:=PRL.same h2 h2';obtain rfl:=Option.some.inj q;exact⟨rfl,rfl⟩
 | _,_,_,_,_,_,.cons h h2,.stop h'=>by cases (PR.same h h').1
 | _,_,_,_,_,_,.cons h h2,.later h' h2'=>by
  obtain⟨q,rfl⟩:=PR.same h h';cases (PRL.same h2 h2').1
 | _,_,_,_,_,_,.stop h,.cons h' _=>by cases (PR.same h h').1
 | _,_,_,_,_,_,.stop h,.stop h'=>⟨rfl,(PR.same h h').2⟩
 | _,_,_,_,_,_,.stop h,.later h' _=>by cases (PR.same h h').1
 | _,_,_,_,_,_,.later h h2,.cons h' h2'=>by
  obtain⟨q,rfl⟩:=PR.same h h';cases (PRL.same h2 h2').1
 | _,_,_,_,_,_,.later h h2,.stop h'=>by cases (PR.same h h').1
 | _,_,_,_,_,_,.later h h2,.later h' h2'=>by
  obtain⟨q,rfl⟩:=PR.same h h';exact⟨rfl,(PRL.same h2 h2').2⟩
end
theorem nul_pr(ok:LLok g tab){i:Nat}{n:Nat}(h:Nul g n):Rch g n→Fol g n (nextW g w i)→∃T,PR g tab w ⟨false,n⟩ i (some T) i:=by
 induction h with
 | mk hr h1 h2 ih=>
  rename_i r;intro hR hF;obtain⟨k,hk⟩:=List.getElem?_of_mem hr;have hnl:NulL g r.right:=fun s hs=>⟨h1 s hs,h2 s hs⟩;have key:∀(l pre:List Sym),r.right=pre++l→∃ts,PRL g tab w l i (some ts) i:=by
   intro l
   induction l with
   | nil=>exact fun _ _=>⟨[],.nil⟩
   | cons s l ihl=>
    intro pre e;have hm:s∈r.right:=by rw[e];exact List.mem_append_right _ me
    have hsub:NulL g l:=fun x hx=>hnl x (by rw[e];exact List.mem_append_right _ (List.mem_cons_of_mem _ hx));obtain⟨b,m⟩:=s;obtain rfl:b=false:=h1 _ hm;obtain⟨T,hT⟩:=ih _ hm (.more hr hR hm) (.pass hr hR e hsub hF);obtain⟨ts,hts⟩:=ihl (pre++[⟨false,m⟩]) (by rw[e,List.append_assoc];rfl);exact⟨T::ts,.cons hT hts⟩
  obtain⟨ts,hts⟩:=key r.right [] rfl;exact⟨_,.node (ok.only hk (.inr ⟨hnl,hF⟩)) hk hts⟩
theorem nuls_pr(ok:LLok g tab){i:Nat}{r:Rule}(hr:r∈g.rules)(hR:Rch g r.left){s:Sym}{post:List Sym}(hb:BegL g (s::post) (nextW g w i)) :
  ∀(l pre:List Sym),r.right=pre++(l++s::post)→NulL g l→∃ts,PRL g tab w l i (some ts) i
 | [],_,_,_=>⟨[],.nil⟩
 | x::l,pre,e,hn=>by
  have hsub:NulL g l:=fun y hy=>hn y (List.mem_cons_of_mem _ hy);obtain⟨ts,hts⟩:=nuls_pr ok hr hR hb l (pre++[x]) (by rw[e,List.append_assoc];rfl) hsub;obtain⟨h1,h2⟩:=hn x me;obtain⟨b,m⟩:=x;obtain rfl:b=false:=h1;have hm:(⟨false,m⟩:Sym)∈r.right:=by rw[e];exact List.mem_append_right _ me
  have hb2:BegL g (l++s::post) (nextW g w i):=by
   obtain⟨p,y,q,e2,h3,h4⟩:=hb;refine⟨l++p,y,q,by rw[e2,List.append_assoc],fun z hz=>?_,h4⟩;rcases List.mem_append.1 hz with hz | hz
   ·exact hsub z hz
   ·exact h3 z hz
  obtain⟨T,hT⟩:=nul_pr ok h2 (.more hr hR hm) (.beg hr hR e hb2);exact⟨T::ts,.cons hT hts⟩
theorem PRL.app:∀{l l2:List Sym} {ts:List Tree} {i m j:Nat} {o:Option (List Tree)},PRL g tab w l i (some ts) m→PRL g tab w l2 m o j→∃o',PRL g tab w (l++l2) i o' j∧(o'=none↔o=none)
 | [],l2,_,i,_,j,o,.nil,h2=>⟨o,h2,Iff.rfl⟩
 | s::l,l2,_,i,m,j,o,.cons h h1,h2=>by
  obtain⟨o',q1,q2⟩:=PRL.app h1 h2;cases o' with
  | none=>exact⟨none,.later h q1,by simpa using q2⟩
  | some ts=>exact⟨some _,.cons h q1,by simpa using q2⟩
theorem prl_of{i:Nat}(H:∀i',i≤i'→i'≤w.length→∀s:Sym,(s.term=false→Rch g s.n)→∃o j,PR g tab w s i' o j∧(o≠none→i'≤j∧j≤w.length)) :
  ∀(l:List Sym) (i':Nat),i≤i'→i'≤w.length→(∀s∈l,s.term=false→Rch g s.n)→∃o j,PRL g tab w l i' o j
 | [],i',_,_,_=>⟨some [],i',.nil⟩
 | s::l,i',h1,h2,hs=>by
  obtain⟨o,j,q1,q2⟩:=H i' h1 h2 s (hs s me);cases o with
  | none=>exact⟨none,j,.stop q1⟩
  | some T=>
   obtain⟨q3,q4⟩:=q2 (by simp);obtain⟨o,k,q5⟩:=prl_of H l j zo q4 fun x hx=>hs x (List.mem_cons_of_mem _ hx);cases o with
   | none=>exact⟨none,k,.later q1 q5⟩
   | some ts=>exact⟨some _,k,.cons q1 q5⟩
theorem PR.le(ok:LLok g tab){s:Sym}{i j:Nat}{T:Tree}(h:PR g tab w s i (some T) j)(hi:i≤w.length):i≤j∧j≤w.length:=by
 have:=TreeOf.le (PR.sound ok h);exact⟨this.1,this.2 hi⟩
theorem beg_pr(ok:LLok g tab){i:Nat}(hi:i<w.length)(H:∀i',i+1≤i'→i'≤w.length→∀s:Sym,(s.term=false→Rch g s.n)→∃o j,PR g tab w s i' o j∧(o≠none→i'≤j∧j≤w.length))
  {n t:Nat} (h:Beg g n t):w[i]?=some t→Rch g n→∃o j,PR g tab w ⟨false,n⟩ i o j∧(o≠none→i<j):=by
 have fin:∀{r:Rule} {pre post:List Sym} {s:Sym} {t:Nat},r∈g.rules→r.right=pre++s::post→NulL g pre→(s=⟨true,t⟩∨(s.term=false∧Beg g s.n t))→w[i]?=some t→Rch g r.left→
   (∃o j,PR g tab w s i o j∧(o≠none→i<j))→∃o j,PR g tab w ⟨false,r.left⟩ i o j∧(o≠none→i<j):=by
  intro r pre post s t hr e hn hs hw hR hp;obtain⟨k,hk⟩:=List.getElem?_of_mem hr;have hl:nextW g w i=t:=nextW_at hw;have hbl:BegL g (s::post) (nextW g w i):=by rw[hl];exact BegL.head hs
  obtain⟨ts,hts⟩:=nuls_pr ok hr hR hbl pre [] e hn;have hcan:Can g r (nextW g w i):=.inl ⟨pre,s,post,e,hn,by rw[hl];exact hs⟩;have htab:=ok.only hk hcan;have hrest:∀x∈post,x.term=false→Rch g x.n:=fun x hx hxt=>by
   obtain⟨b,m⟩:=x;obtain rfl:b=false:=hxt;exact .more hr hR (by rw[e];exact List.mem_append_right _ (List.mem_cons_of_mem _ hx))
  obtain⟨o,j,q1,q2⟩:=hp;have hcons:∃o2 j2,PRL g tab w (s::post) i o2 j2∧(o2≠none→i<j2):=by
   cases o with
   | none=>exact⟨none,j,.stop q1,fun h=>absurd rfl h⟩
   | some T=>
    have h3:=q2 (by simp);have h4:=(PR.le ok q1 zo).2;obtain⟨o3,j3,q5⟩:=prl_of (i:=i+1) H post j zo h4 hrest;cases o3 with
    | none=>exact⟨none,j3,.later q1 q5,fun h=>absurd rfl h⟩
    | some ts3=>
     have:=(TreesOf.le (PRL.sound ok q5)).1;exact⟨some _,j3,.cons q1 q5,fun _=>by omega⟩
  obtain⟨o2,j2,q6,q7⟩:=hcons;obtain⟨o4,q8,q9⟩:=PRL.app hts q6;rw[←e] at q8;cases o4 with
  | none=>exact⟨none,j2,.bad htab hk q8,fun h=>absurd rfl h⟩
  | some ts4=>exact⟨some _,j2,.node htab hk q8,fun _=>q7 fun h=>by simpa using q9.2 h⟩
 induction h with
 | term hr e hn=>
  intro hw hR;exact fin hr e hn (.inl rfl) hw hR ⟨_,_,.leaf hw,fun _=>Nat.lt_succ_self _⟩
 | non hr e hn hb ih=>
  intro hw hR;exact fin hr e hn (.inr ⟨rfl,hb⟩) hw hR (ih hw (.more hr hR (by rw[e];exact List.mem_append_right _ me)))
theorem pr_total(hg:Valid g)(ok:LLok g tab):∀(m i:Nat),w.length-i=m→i≤w.length→∀s:Sym,(s.term=false→Rch g s.n)→∃o j,PR g tab w s i o j:=by
 intro m
 induction m using Nat.strongRecOn with
 | ind m ih=>
  intro i hm hi s hs;obtain⟨b,n⟩:=s;cases b with
  | true=>
   by_cases h:w[i]?=some n
   ·exact⟨_,_,.leaf h⟩
   ·exact⟨_,_,.other h⟩
  | false=>
   cases ht:tab n (nextW g w i) with
   | none=>exact⟨_,_,.none ht⟩
   | some k=>
    obtain⟨r,hr,rfl,hc⟩:=ok.rule ht;have hmem:=gM hr;rcases hc with hc | ⟨hn,hF⟩
    ·have hlt:=hc.lt hg (hg.right r hmem).2.2;have hil:i<w.length:=by
      rcases Nat.lt_or_ge i w.length with h | h
      ·exact h
      ·unfold nextW at hlt;rw[List.getElem?_eq_none h] at hlt;exact absurd hlt (Nat.lt_irrefl _)
     have hw:w[i]?=some (nextW g w i):=by
      unfold nextW;rw[gE hil];rfl
     obtain⟨o,j,q,_⟩:=beg_pr ok hil (fun i' h1 h2 s hs=>by
      obtain⟨o,j,q⟩:=ih (w.length-i') zo i' rfl h2 s hs;refine⟨o,j,q,fun h=>?_⟩;cases o with
      | none=>exact absurd rfl h
      | some T=>exact PR.le ok q h2) (Beg.of hmem hc) hw (hs rfl)
     exact⟨o,j,q⟩
    ·obtain⟨T,hT⟩:=nul_pr ok (Nul.of hmem hn) (hs rfl) hF;exact⟨_,_,hT⟩
theorem pr_start(hg:Valid g)(ok:LLok g tab):∃o j,PR g tab w ⟨false,g.start⟩ 0 o j:=pr_total hg ok _ 0 rfl (Nat.zero_le _) _ fun _=>.start
theorem nextW_end:nextW g w w.length=g.terms:=by unfold nextW;rw[List.getElem?_eq_none (Nat.le_refl _)];rfl
theorem pr_whole(ok:LLok g tab){T:Tree}(h:TreeOf g w ⟨false,g.start⟩ T 0 w.length):PR g tab w ⟨false,g.start⟩ 0 (some T) w.length:=
 TreeOf.pr ok h fun _=>⟨.start,by rw[nextW_end];exact .start⟩
theorem ll_one(ok:LLok g tab){T T':Tree}(h:TreeOf g w ⟨false,g.start⟩ T 0 w.length)(h':TreeOf g w ⟨false,g.start⟩ T' 0 w.length):T=T':=
 Option.some.inj (PR.same (pr_whole ok h) (pr_whole ok h')).1
end
theorem makeJ_spec(F:Frz)(g:Gram)(hg:Valid g)(J:List Bool→List (List Bool)→Prop)(hJ0:J (List.replicate g.nons false) (List.replicate g.nons (List.replicate g.terms false)))
  (hJs:∀E Fi r,r∈g.rules→J E Fi→∀E',(E'=E∨(E'=E.set r.left true∧(ofRow E Fi (List.replicate g.terms false) r.right).2=true))→J E' (Fi.set r.left (orRow (Fi.getD r.left []) (ofRow E Fi (List.replicate g.terms false) r.right).1)))
  {a:Option Addr} {m c:Nat} (hr:Arr tRule F a m c g.rules) :
  Abs.Spec CC 44 [.agg ⟨gramCells g a m c⟩] F [] fun F' v o=>o=[]∧∃is E Fi,v=.pointer (some ⟨is,0,none⟩)∧SetsF F' is g a m c E Fi∧J E Fi∧E.length=g.nons∧Fi.length=g.nons:=by
 unfold gramCells;have hrlen:=hr.len;have hgr:=hg.range.rules;have hgn:=hg.range.nons;have hgt:=hg.range.terms;refine Abs.Spec.fn (n:=81) Tryd.func44 rfl rfl fun own=>?_;refine AW.seq (AW.reg ?_);refine WT.boxT Z Z Z Z Z Z (fun i1 hi1=>?_);refine WT.freezeAll 0 Z Z (fun F0 hF0 hB0=>?_);have hi1:=hB0 i1 _ me;have hr:=hr.mono hF0;refine zB4 ?_;refine AW.draw (ps:=[(0,3)]) Z Z ?_;refine zB4 ?_;refine WT.makeT (l:=g.nons) hT Z Z Z Z Z Z Z Z Z Z Z Z zom (fun ie hie=>?_);rw[cap_eq];refine zB4 ?_;refine WT.boxT Z Z Z Z Z Z (fun is his=>?_);refine zB4 ?_;refine⟨zrC,?_⟩;refine zB4 ?_
 refine AW.range (S:=FS) (fun _=>[]) (fun s=>[(is,.cells false [.int .i64 g.terms,.int .i64 g.nons,.int .i64 g.start,.slice a m c,.slice (some ⟨ie,0,none⟩) g.nons (if g.nons=0 then 0 else 1),.slice s.a s.m s.c])]::s.B::[(ie,.cells false (List.replicate g.nons (.bool false)))]::s.bs::[]::own)
  (fun j s G=>Bld tRaw G s.a s.m s.c s.B s.vs∧Abs.Rows cBool s.vs s.bs (List.replicate j (List.replicate g.terms false))) g.nons ⟨none,0,0,[],[],[]⟩ Z Z Z Z Z Z Z Z Z zo rfl rfl (fun _=>rfl) (fun _=>rfl) sM (OwnLe.flat (List.Perm.refl _)) ⟨Bld.nil_ _ _,Abs.Rows.nil⟩ ?_ ?_
 ·intro j s F1 hF1 hj hP;obtain⟨hb,hR⟩:=hP;have hi1:=hF1 _ _ hi1;have hblen:=hb.len;have hvl:=hR.len.1;rw[List.length_replicate] at hvl;refine AW.draw (ps:=[(4,7),(4,8)]) Z Z ?_;refine zB4 ?_;refine WT.makeT (l:=g.terms) hT Z Z Z Z Z Z Z Z Z Z Z Z zom (fun ir hir=>?_);rw[cap_eq];refine WT.buildT hT Z Z Z Z Z Z Z Z Z Z Z Z Z Z (fun i9 hi9=>?_)
  refine WT.appendT (R:=tRaw) (ys:=[.slice (some ⟨ir,0,none⟩) g.terms (if g.terms=0 then 0 else 1)]) hT 3 hb Z (fun _=>rfl) Z Z Z Z Z Z Z Z Z Z Z (fun h0 s0=>news_own hT s0 0 Z Z Z Z) (Cells.single (R:=tRaw) ⟨rfl,rfl⟩) Z (by decide) zom (fun a3 c3 B3 hB3=>?_);refine zB4 ?_;refine⟨zrC,?_⟩;refine⟨⟨a3,s.m+1,c3,B3,s.vs++[.slice (some ⟨ir,0,none⟩) g.terms (if g.terms=0 then 0 else 1)],s.bs++[(ir,.cells false (List.replicate g.terms (.bool false)))]⟩,sM,?_,hB3,?_⟩
  ·refine OwnLe.skip _ (OwnLe.flat ?_);simp only[List.flatten_cons,List.singleton_append];have:=perm_to_end (ir,Blk.cells false (List.replicate g.terms (.bool false))) ((is,Blk.cells false [.int .i64 g.terms,.int .i64 g.nons,.int .i64 g.start,.slice a m c,.slice (some ⟨ie,0,none⟩) g.nons (if g.nons=0 then 0 else 1),.slice a3 (s.m+1) c3])::(B3++[(ie,.cells false (List.replicate g.nons (.bool false)))])) s.bs ([]++own.flatten);simpa using this
  ·rw[show List.replicate (j+1) (List.replicate g.terms false)=List.replicate j (List.replicate g.terms false)++[List.replicate g.terms false] from List.replicate_succ'];have:=hR.snoc (K:=cBool) (id:=ir) (row:=List.replicate g.terms false) (c:=if g.terms=0 then 0 else 1) (by simp);rw[List.length_replicate,List.map_replicate] at this;exact this
 ·intro s F1 hF1 hP;obtain⟨hb,hR⟩:=hP;have hi1:=hF1 _ _ hi1;have hvl:=hR.len.1;rw[List.length_replicate] at hvl;have hr1:=hr.mono hF1;have hblen:=hb.len;obtain⟨io,cs,hia,hic,hiB,hcells,_⟩:=hb.at_.resolve_left (fun h=>by rw[h.1] at hvl;simp at hvl;omega);have hcs:=cells_raw hcells;subst hcs;have hic:s.c=1:=hic;refine zB4 ?_
  refine AW.le (own2:=((is,.cells false [.int .i64 g.terms,.int .i64 g.nons,.int .i64 g.start,.slice a m c,.slice (some ⟨ie,0,none⟩) g.nons (if g.nons=0 then 0 else 1),.slice (some ⟨io,0,none⟩) g.nons 1])::(io,.cells false s.vs)::(ie,.cells false ((List.replicate g.nons false).map cBool.cell))::s.bs)::own) (OwnLe.flat ?_) ?_
  ·rw[hia,hic,hiB,show s.m=g.nons by omega,List.map_replicate];exact List.Perm.refl _
  refine AW.block ?_;refine AW.loopR (S:=FM) (fun t=>[(4,.bool t.again)]) (fun t=>((is,.cells false [.int .i64 g.terms,.int .i64 g.nons,.int .i64 g.start,.slice a m c,.slice (some ⟨ie,0,none⟩) g.nons (if g.nons=0 then 0 else 1),.slice (some ⟨io,0,none⟩) g.nons 1])::(io,.cells false s.vs)::(ie,.cells false (t.E.map cBool.cell))::t.bs)::own)
   (fun t G=>Abs.Rows cBool s.vs t.bs t.Fi∧TabOk g.nons g.terms t.Fi∧t.E.length=g.nons∧(t.again=false→FirstClosed g t.E t.Fi)∧J t.E t.Fi) (fun t=>if t.again=true then 1+(g.nons+g.nons*g.terms-(ones t.E+onesT t.Fi)) else 0) ⟨List.replicate g.nons false,List.replicate g.nons (List.replicate g.terms false),s.bs,true⟩
   sM oR ⟨hR,⟨by simp,fun r hr=>by rw[List.eq_of_mem_replicate hr];simp⟩,by simp,fun h=>(by cases h),hJ0⟩ ?_
  intro t F2 hF2 hP;obtain⟨hR,hM,hE,hC,hJ⟩:=hP;have hi1:=hF2 _ _ hi1;have hr2:=hr1.mono hF2;refine zB4 ?_;refine AW.cond Z (fun h=>?_) (fun h=>?_)
  ·refine zB4 ?_;refine AW.block ?_;refine zB4 ?_;refine AW.range (S:=FM) (fun t=>[(4,.bool t.again)]) (fun t=>((is,.cells false [.int .i64 g.terms,.int .i64 g.nons,.int .i64 g.start,.slice a m c,.slice (some ⟨ie,0,none⟩) g.nons (if g.nons=0 then 0 else 1),.slice (some ⟨io,0,none⟩) g.nons 1])::(io,.cells false s.vs)::(ie,.cells false (t.E.map cBool.cell))::t.bs)::own)
    (fun k u G=>Abs.Rows cBool s.vs u.bs u.Fi∧TabOk g.nons g.terms u.Fi∧u.E.length=g.nons∧ones t.E+onesT t.Fi≤ones u.E+onesT u.Fi∧(u.again=true→ones t.E+onesT t.Fi<ones u.E+onesT u.Fi)∧(u.again=false→∀r∈g.rules.take k,RuleClosed g.terms u.E u.Fi r)∧J u.E u.Fi) m ⟨t.E,t.Fi,t.bs,false⟩
    Z Z Z Z Z Z Z Z Z zo rfl rfl (fun _=>rfl) (fun _=>rfl) sM oR ⟨hR,hM,hE,Nat.le_refl _,fun h=>(by cases h),by simp,hJ⟩ ?_ ?_
   ·intro k u F3 hF3 hk hP;obtain⟨hR,hM,hE,hT1,hT2,hC,hJu⟩:=hP;have hi1:=hF3 _ _ hi1;have hr3:=hr2.mono hF3;refine zB4 ?_;refine WT.idxL hT hr3 Z Z Z Z Z Z Z Z Z zo (fun r hrk b1 off ro cs lx hb hp1 hrel=>?_);obtain⟨b2,n2,d2,rfl,hr4⟩:=hrel;obtain⟨hrl,hrr,hrs⟩:=hg.right r (gM hrk);have hr4l:=hr4.len;refine zB4 ?_;refine WT.allocT hT Z Z Z Z Z Z (fun i6 hi6=>?_);refine zB4 ?_
    have lk3:∀G,Frz.le F3 G→(∀i b,(i,b)∈((is,Blk.cells false [.int .i64 g.terms,.int .i64 g.nons,.int .i64 g.start,.slice a m c,.slice (some ⟨ie,0,none⟩) g.nons (if g.nons=0 then 0 else 1),.slice (some ⟨io,0,none⟩) g.nons 1])::(io,.cells false s.vs)::(ie,.cells false (u.E.map cBool.cell))::u.bs)→G i=some b)→
      Arr tBool G (some ⟨ie,0,none⟩) g.nons (if g.nons=0 then 0 else 1) u.E∧Arr (tList tBool) G (some ⟨io,0,none⟩) g.nons 1 u.Fi:=by
     intro G hG hBG;constructor
     ·have:=arr_of_cells (K:=cBool) (R:=tBool) (F:=G) (id:=ie) (row:=u.E) (c:=if u.E.length=0 then 0 else 1) (ro:=false) rfl (fun _ _=>rfl) rfl (hBG ie _ (by simp));rw[hE] at this;exact this
     ·have:=Abs.Rows.arr (K:=cBool) (R:=tBool) rfl (fun _ _=>rfl) (F:=G) (o:=io) (c:=if u.Fi.length=0 then 0 else 1) (ro:=false) hR (fun i b hm=>hBG i b (by simp[hm])) rfl (hBG io _ (by simp));rw[hM.size,if_neg zo] at this;exact this
    refine WT.callLendN 1 Tryd.func46 Z Z Z Z Z Z Z (fun G hG hBG=>sof_spec G (terms:=g.terms) (nons:=g.nons) (hBG is _ me) (lk3 G hG hBG).1 (lk3 G hG hBG).2 hM.row zo (hr4.mono hG) zo hrs) (fun v B hv=>?_);obtain⟨ir,rfl,hofl,rfl⟩:=hv;have hRC:RuleClosed g.terms u.E u.Fi r↔orRow (u.Fi.getD r.left []) (ofRow u.E u.Fi (List.replicate g.terms false) r.right).1=u.Fi.getD r.left []∧((ofRow u.E u.Fi (List.replicate g.terms false) r.right).2=true→u.E.getD r.left false=true):=Iff.rfl;have hJr:=hJs u.E u.Fi r (gM hrk) hJu
    generalize ofRow u.E u.Fi (List.replicate g.terms false) r.right=fr at hofl hRC hJr ⊢;obtain⟨row,emp⟩:=fr;dsimp only at hofl hRC hJr;have hFl:r.left<u.Fi.length:=by rw[hM.size];exact hrl
    have hrow0:=gE hFl;generalize hrow0':u.Fi[r.left]=old at hrow0;have holdl:=hM.row old (gM hrow0);obtain⟨id,cc,hvs,hbs,hcc⟩:=hR.at r.left old hrow0;rw[holdl] at hvs;have hvs':s.vs[0+r.left*1]?=some (.slice (some ⟨id,0,none⟩) g.terms cc):=by rw[Nat.zero_add,Nat.mul_one];exact hvs
    have hgetF:u.Fi.getD r.left []=old:=by rw[List.getD_eq_getElem?_getD,hrow0];rfl
    have hEl:r.left<u.E.length:=by rw[hE];exact hrl
    obtain⟨e0,he0⟩:∃e0,u.E[r.left]?=some e0:=⟨_,gE hEl⟩;have hgetE:u.E.getD r.left false=e0:=by rw[List.getD_eq_getElem?_getD,he0];rfl
    have hE0c:(u.E.map cBool.cell)[0+r.left*1]?=some (.bool e0):=by rw[Nat.zero_add,Nat.mul_one,List.getElem?_map,he0];rfl
    have hol:(orRow old row).length=g.terms:=by rw[orRow_len zo];exact holdl
    have hR':=hR.set r.left old (orRow old row) id hrow0 zo hbs;have hM':TabOk g.nons g.terms (u.Fi.set r.left (orRow old row)):=hM.setRow _ hol;have hcnt:=onesT_set (row':=orRow old row) hrow0;have hone:=ones_or (xs:=old) (ys:=row) zo;have hset_same:orRow old row=old→u.Fi.set r.left (orRow old row)=u.Fi:=by
     intro e;rw[e];apply List.ext_getElem?;intro i;by_cases hi:i=r.left
     ·subst hi;rw[List.getElem?_set_self hFl,hrow0]
     ·rw[List.getElem?_set_ne zo]
    rw[hgetF,hgetE] at hRC;rw[hgetF] at hJr;refine zB4 ?_;refine WT.idxA (j:=r.left) (s:=1) hT Z Z Z Z Z Z Z Z Z hrl ?_;refine WT.loadAt hT 2 Z Z Z Z Z Z (List.mem_cons_of_mem _ me) Z Z hvs' ?_;refine zB4 ?_;have hpk:=perm_pick hbs;have hps:=perm_set (id,Blk.cells false ((orRow old row).map cBool.cell)) hbs
    refine WT.le (own2:=[(ir,.cells false (row.map cBool.cell))]::[(id,.cells false (old.map cBool.cell))]::((is,.cells false [.int .i64 g.terms,.int .i64 g.nons,.int .i64 g.start,.slice a m c,.slice (some ⟨ie,0,none⟩) g.nons (if g.nons=0 then 0 else 1),.slice (some ⟨io,0,none⟩) g.nons 1])::(io,.cells false s.vs)::(ie,.cells false (u.E.map cBool.cell))::u.bs.eraseIdx r.left)::[(i6,.cells false [.int .i64 r.left,.slice b2 n2 d2])]::own) (OwnLe.flat ?_) ?_
    ·simp only[List.flatten_cons];refine List.Perm.append_left _ ?_;exact perm_borrow _ _ [_,_,_] _ _ _ hpk
    refine WT.callLend1 (upd:=fun D'=>[(ir,.cells false (row.map cBool.cell))]::D'::((is,.cells false [.int .i64 g.terms,.int .i64 g.nons,.int .i64 g.start,.slice a m c,.slice (some ⟨ie,0,none⟩) g.nons (if g.nons=0 then 0 else 1),.slice (some ⟨io,0,none⟩) g.nons 1])::(io,.cells false s.vs)::(ie,.cells false (u.E.map cBool.cell))::u.bs.eraseIdx r.left)::[(i6,.cells false [.int .i64 r.left,.slice b2 n2 d2])]::own) 0 1 Tryd.func47 Z Z Z Z Z Z (List.Perm.refl _) (fun _=>List.Perm.refl _) (fun G hG hBG=>union_spec G (it:=id) (xs:=old) (ys:=row) (m:=g.terms) zo (by
     have:=arr_of_cells (K:=cBool) (R:=tBool) (F:=G) (id:=ir) (row:=row) (c:=if row.length=0 then 0 else 1) (ro:=false) rfl (fun _ _=>rfl) rfl (hBG ir _ me);rw[hofl] at this;exact this) zo zo) (fun v D hv=>?_)
    obtain⟨rfl,rfl⟩:=hv;refine WT.le (own2:=[(ir,.cells false (row.map cBool.cell))]::[(i6,.cells false [.int .i64 r.left,.slice b2 n2 d2])]::((is,.cells false [.int .i64 g.terms,.int .i64 g.nons,.int .i64 g.start,.slice a m c,.slice (some ⟨ie,0,none⟩) g.nons (if g.nons=0 then 0 else 1),.slice (some ⟨io,0,none⟩) g.nons 1])::(io,.cells false s.vs)::(ie,.cells false (u.E.map cBool.cell))::u.bs.set r.left (id,.cells false ((orRow old row).map cBool.cell)))::own) (OwnLe.flat ?_) ?_
    ·simp only[List.flatten_cons];refine List.Perm.append_left _ ?_;exact(perm_borrow _ _ [_,_,_] _ _ _ hps).symm
    refine zB4 ?_;have done:∀(E':List Bool) (ag:Bool),(E'=u.E∨(E'=u.E.set r.left true∧e0=false∧ag=true∧emp=true))→(orRow old row≠old→ag=true)→(u.again=true→ag=true)→(ag=true→u.again=true∨orRow old row≠old∨ones E'=ones u.E+1)→(ag=false→emp=true→e0=true)→
      (Abs.Rows cBool s.vs (u.bs.set r.left (id,.cells false ((orRow old row).map cBool.cell))) (u.Fi.set r.left (orRow old row))∧TabOk g.nons g.terms (u.Fi.set r.left (orRow old row))∧E'.length=g.nons∧ones t.E+onesT t.Fi≤ones E'+onesT (u.Fi.set r.left (orRow old row))∧(ag=true→ones t.E+onesT t.Fi<ones E'+onesT (u.Fi.set r.left (orRow old row)))∧(ag=false→∀r'∈g.rules.take (k+1),RuleClosed g.terms E' (u.Fi.set r.left (orRow old row)) r')∧J E' (u.Fi.set r.left (orRow old row))):=by
     intro E' ag hE' h1 h2 h3 h4;have hE1:ones u.E≤ones E'∧E'.length=g.nons:=by
      rcases hE' with rfl | ⟨rfl,h5,_,_⟩
      ·exact⟨Nat.le_refl _,hE⟩
      ·subst h5;rw[ones_set he0];exact⟨by omega,by simp[hE]⟩
     refine⟨hR',hM',hE1.2,by omega,fun hag=>?_,fun hag=>?_,hJr E' (hE'.imp (fun h=>h) fun h=>⟨h.1,h.2.2.2⟩)⟩
     ·rcases h3 hag with h5 | h5 | h5
      ·have:=hT2 h5;omega
      ·have:=hone.2 h5;omega
      ·omega
     ·have hch:orRow old row=old:=by
       rcases Classical.em (orRow old row=old) with h5 | h5
       ·exact h5
       ·rw[h1 h5] at hag;cases hag
      have hua:u.again=false:=by
       cases hu:u.again with
       | false=>rfl
       | true=>rw[h2 hu] at hag;cases hag
      have hEE:E'=u.E:=by
       rcases hE' with h5 | ⟨_,_,h5,_⟩
       ·exact h5
       ·rw[h5] at hag;cases hag
      subst hEE;rw[hset_same hch];exact take_all hrk (hC hua) (hRC.2 ⟨hch,h4 hag⟩)
    have ownE:∀ag,OwnLe ((fun t:FM=>((is,Blk.cells false [.int .i64 g.terms,.int .i64 g.nons,.int .i64 g.start,.slice a m c,.slice (some ⟨ie,0,none⟩) g.nons (if g.nons=0 then 0 else 1),.slice (some ⟨io,0,none⟩) g.nons 1])::(io,.cells false s.vs)::(ie,.cells false (t.E.map cBool.cell))::t.bs)::own) ⟨u.E.set r.left true,u.Fi.set r.left (orRow old row),u.bs.set r.left (id,.cells false ((orRow old row).map cBool.cell)),ag⟩)
      (((is,Blk.cells false [.int .i64 g.terms,.int .i64 g.nons,.int .i64 g.start,.slice a m c,.slice (some ⟨ie,0,none⟩) g.nons (if g.nons=0 then 0 else 1),.slice (some ⟨io,0,none⟩) g.nons 1])::(io,.cells false s.vs)::(ie,.cells false ((u.E.map cBool.cell).set (0+r.left*1) (.bool true)))::u.bs.set r.left (id,.cells false ((orRow old row).map cBool.cell)))::own):=by
     intro ag;refine OwnLe.flat ?_;dsimp only;rw[List.map_set,Nat.zero_add,Nat.mul_one];exact List.Perm.refl _
    refine WT.split 57 Z (fun h3=>?_) (fun h3=>?_)
    ·have hch:orRow old row≠old:=of_decide_eq_true h3;refine zB4 ?_;refine WT.split 61 Z (fun h4=>?_) (fun h4=>?_)
     ·refine zB4 ?_;refine WT.idxA (j:=r.left) (s:=1) hT Z Z Z Z Z Z Z Z Z hrl ?_;refine WT.loadAt hT 2 Z Z Z Z Z Z (List.mem_cons_of_mem _ (List.mem_cons_of_mem _ me)) Z Z hE0c ?_;refine zB4 ?_;refine AW.cond Z (fun h5=>?_) (fun h5=>?_)
      ·have h5:e0=false:=by simpa using h5
       refine zB4 ?_;refine WT.idxA (j:=r.left) (s:=1) hT Z Z Z Z Z Z Z Z Z hrl ?_;refine WT.storeAt hT 2 2 Z Z Z Z Z Z Z Z Z Z (by simp;omega) Z Z ?_;refine zB4 ?_;exact⟨_,sM,OwnLe.skip _ (OwnLe.skip _ (ownE true)),done _ true (.inr ⟨rfl,h5,rfl,h4⟩) (fun _=>rfl) (fun _=>rfl) (fun _=>.inr (.inr (by subst h5;exact ones_set he0))) (fun h=>(by cases h))⟩
      ·have h5:e0=true:=by simpa using h5
       refine zB4 ?_;exact⟨⟨u.E,u.Fi.set r.left (orRow old row),u.bs.set r.left (id,.cells false ((orRow old row).map cBool.cell)),true⟩,sM,zow,done _ true (.inl rfl) (fun _=>rfl) (fun _=>rfl) (fun _=>.inr (.inl hch)) (fun _ _=>h5)⟩
     ·refine zB4 ?_;refine AW.cond Z (fun h5=>(by cases h5)) (fun _=>?_);refine zB4 ?_;exact⟨⟨u.E,u.Fi.set r.left (orRow old row),u.bs.set r.left (id,.cells false ((orRow old row).map cBool.cell)),true⟩,sM,zow,done _ true (.inl rfl) (fun _=>rfl) (fun _=>rfl) (fun _=>.inr (.inl hch)) (fun _ he=>(by rw[show emp=false from h4] at he;cases he))⟩
    ·have hch:orRow old row=old:=by simpa using h3
     refine zB4 ?_;refine WT.split 61 Z (fun h4=>?_) (fun h4=>?_)
     ·refine zB4 ?_;refine WT.idxA (j:=r.left) (s:=1) hT Z Z Z Z Z Z Z Z Z hrl ?_;refine WT.loadAt hT 2 Z Z Z Z Z Z (List.mem_cons_of_mem _ (List.mem_cons_of_mem _ me)) Z Z hE0c ?_;refine zB4 ?_;refine AW.cond Z (fun h5=>?_) (fun h5=>?_)
      ·have h5:e0=false:=by simpa using h5
       refine zB4 ?_;refine WT.idxA (j:=r.left) (s:=1) hT Z Z Z Z Z Z Z Z Z hrl ?_;refine WT.storeAt hT 2 2 Z Z Z Z Z Z Z Z Z Z (by simp;omega) Z Z ?_;refine zB4 ?_;exact⟨_,sM,OwnLe.skip _ (OwnLe.skip _ (ownE true)),done _ true (.inr ⟨rfl,h5,rfl,h4⟩) (fun _=>rfl) (fun _=>rfl) (fun _=>.inr (.inr (by subst h5;exact ones_set he0))) (fun h=>(by cases h))⟩
      ·have h5:e0=true:=by simpa using h5
       refine zB4 ?_;exact⟨⟨u.E,u.Fi.set r.left (orRow old row),u.bs.set r.left (id,.cells false ((orRow old row).map cBool.cell)),u.again⟩,sM,zow,done _ u.again (.inl rfl) (fun hne=>absurd hch hne) (fun h=>h) (fun h=>.inl h) (fun _ _=>h5)⟩
     ·refine zB4 ?_;refine AW.cond Z (fun h5=>(by cases h5)) (fun _=>?_);refine zB4 ?_;exact⟨⟨u.E,u.Fi.set r.left (orRow old row),u.bs.set r.left (id,.cells false ((orRow old row).map cBool.cell)),u.again⟩,sM,zow,done _ u.again (.inl rfl) (fun hne=>absurd hch hne) (fun h=>h) (fun h=>.inl h) (fun _ he=>(by rw[show emp=false from h4] at he;cases he))⟩
   ·intro u F3 hF3 hP;obtain⟨hR,hM,hE,hT1,hT2,hC,hJu⟩:=hP;rw[List.take_of_length_le zo] at hC;refine⟨u,?_,sM,zow,hR,hM,hE,hC,hJu⟩;have h1:=onesT_le hM;have h2:=ones_le u.E;rw[h,if_pos rfl];split
    ·rename_i h4;have:=hT2 h4;omega
    ·omega
  ·refine AW.exit ?_;refine AW.freezeAll 0 Z Z (fun F3 hF3 hB3=>?_);refine zB4 ?_;have hEa:=arr_of_cells (K:=cBool) (R:=tBool) (F:=F3) (id:=ie) (row:=t.E) (c:=if t.E.length=0 then 0 else 1) (ro:=false) rfl (fun _ _=>rfl) rfl (hB3 ie _ (by simp));rw[hE] at hEa;have hFa:=Abs.Rows.arr (K:=cBool) (R:=tBool) rfl (fun _ _=>rfl) (F:=F3) (o:=io) (c:=if t.Fi.length=0 then 0 else 1) (ro:=false) hR (fun i b hm=>hB3 i b (by simp[hm])) rfl (hB3 io _ (by simp));rw[hM.size,if_neg zo] at hFa
   exact AW.ret ⟨_,[],⟨_,_,rfl,rfl,rfl⟩,zsb,rfl,is,t.E,t.Fi,rfl,⟨⟨ie,io,_,_,false,hB3 is _ (by simp),hEa,hFa⟩,hM.row,hr2.mono hF3,hC h⟩,hJ,hE,hM.size⟩
def FSnd(g:Gram)(E:List Bool)(Fi:List (List Bool)):Prop:=(∀n,E.getD n false=true→Nul g n)∧∀n t,(Fi.getD n []).getD t false=true→Beg g n t
theorem orRow_get:∀{xs ys:List Bool} {t:Nat},(orRow xs ys).getD t false=true→xs.getD t false=true∨ys.getD t false=true
 | [],_,_,h=>by simp[orRow] at h
 | _::_,[],_,h=>by simp[orRow] at h
 | x::xs,y::ys,0,h=>by simp only[orRow,List.zipWith_cons_cons,List.getD_cons_zero] at h;simpa using h
 | x::xs,y::ys,t+1,h=>by
  simp only[orRow,List.zipWith_cons_cons,List.getD_cons_succ] at h;exact orRow_get (xs:=xs) (ys:=ys) h
theorem orRow_left:∀{xs ys:List Bool} {t:Nat},xs.length=ys.length→(xs.getD t false=true∨ys.getD t false=true)→(orRow xs ys).getD t false=true
 | [],[],_,_,h=>by simp at h
 | [],_::_,_,hl,_=>by simp at hl
 | _::_,[],_,hl,_=>by simp at hl
 | x::xs,y::ys,0,_,h=>by simp only[orRow,List.zipWith_cons_cons,List.getD_cons_zero] at h ⊢;simpa using h
 | x::xs,y::ys,t+1,hl,h=>by
  simp only[orRow,List.zipWith_cons_cons,List.getD_cons_succ] at h ⊢;exact orRow_left (xs:=xs) (ys:=ys) (by simpa using hl) h
theorem set_get{l:List Bool}{n t:Nat}(h:(l.set n true).getD t false=true):t=n∨l.getD t false=true:=by
 by_cases e:t=n
 ·exact .inl e
 ·right;rw[List.getD_eq_getElem?_getD,List.getElem?_set_ne (fun e2=>e e2.symm)] at h;rw[List.getD_eq_getElem?_getD];exact h
theorem ofRow_sound{g:Gram}{E:List Bool}{Fi:List (List Bool)}(h:FSnd g E Fi):∀(l:List Sym) (out:List Bool),(∀t,(ofRow E Fi out l).1.getD t false=true→out.getD t false=true∨BegL g l t)∧((ofRow E Fi out l).2=true→NulL g l)
 | [],out=>⟨fun t ht=>.inl ht,fun _=>NulL.nil⟩
 | s::l,out=>by
  obtain⟨b,n⟩:=s;unfold ofRow;cases b with
  | true=>
   rw[if_pos rfl];refine⟨fun t ht=>?_,fun h=>(by cases h)⟩;rcases set_get ht with rfl | h2
   ·exact .inr (BegL.head (.inl rfl))
   ·exact .inl h2
  | false=>
   rw[if_neg (by simp)];have hrow:∀t,(orRow out (Fi.getD n [])).getD t false=true→out.getD t false=true∨BegL g (⟨false,n⟩::l) t:=fun t ht=>by
    rcases orRow_get ht with h2 | h2
    ·exact .inl h2
    ·exact .inr (BegL.head (.inr ⟨rfl,h.2 n t h2⟩))
   split
   ·rename_i hE;obtain⟨h1,h2⟩:=ofRow_sound h l (orRow out (Fi.getD n []));refine⟨fun t ht=>?_,fun ht=>NulL.cons rfl (h.1 n hE) (h2 ht)⟩;rcases h1 t ht with h3 | h3
    ·exact hrow t h3
    ·exact .inr (BegL.cons rfl (h.1 n hE) h3)
   ·exact⟨fun t ht=>hrow t ht,fun h=>(by cases h)⟩
theorem zeros_get{n t:Nat}:¬(List.replicate n false).getD t false=true:=by
 rw[List.getD_eq_getElem?_getD,List.getElem?_replicate];split<;>simp
theorem FSnd.zero{g:Gram}:FSnd g (List.replicate g.nons false) (List.replicate g.nons (List.replicate g.terms false)):=by
 refine⟨fun n h=>absurd h zeros_get,fun n t h=>?_⟩;rw[List.getD_eq_getElem?_getD,List.getD_eq_getElem?_getD,List.getElem?_replicate] at h;split at h
 ·rw[←List.getD_eq_getElem?_getD] at h;exact absurd h zeros_get
 ·simp at h
theorem FSnd.step{g:Gram}{E:List Bool}{Fi:List (List Bool)}{r:Rule}(hr:r∈g.rules)(h:FSnd g E Fi){E':List Bool}(hE':E'=E∨(E'=E.set r.left true∧(ofRow E Fi (List.replicate g.terms false) r.right).2=true)) :
  FSnd g E' (Fi.set r.left (orRow (Fi.getD r.left []) (ofRow E Fi (List.replicate g.terms false) r.right).1)):=by
 obtain⟨h1,h2⟩:=ofRow_sound h r.right (List.replicate g.terms false);refine⟨fun n hn=>?_,fun n t hn=>?_⟩
 ·rcases hE' with rfl | ⟨rfl,he⟩
  ·exact h.1 n hn
  ·rcases set_get hn with rfl | h3
   ·exact .of hr (h2 he)
   ·exact h.1 n h3
 ·by_cases e:n=r.left
  ·subst e;rw[List.getD_eq_getElem?_getD (l:=Fi.set _ _),List.getElem?_set] at hn;rw[if_pos rfl] at hn;split at hn
   ·rw[Option.getD_some] at hn;rcases orRow_get hn with h3 | h3
    ·exact h.2 _ _ h3
    ·rcases h1 t h3 with h4 | h4
     ·exact absurd h4 zeros_get
     ·exact .of hr h4
   ·simp at hn
  ·rw[List.getD_eq_getElem?_getD (l:=Fi.set _ _),List.getElem?_set_ne (fun e2=>e e2.symm),←List.getD_eq_getElem?_getD] at hn;exact h.2 n t hn
section
variable {g:Gram}{E:List Bool}{Fi:List (List Bool)}
theorem ofRow_len(hrow:∀n,n<g.nons→(Fi.getD n []).length=g.terms):∀(l:List Sym) (out:List Bool),(∀s∈l,SymOk g.terms g.nons s)→out.length=g.terms→(ofRow E Fi out l).1.length=g.terms
 | [],out,_,h=>h
 | s::l,out,hs,h=>by
  unfold ofRow;split
  ·rw[List.length_set];exact h
  ·rename_i ht;have hn:s.n<g.nons:=by have:=hs s me;unfold SymOk at this;rw[if_neg ht] at this;exact this
   have h2:(orRow out (Fi.getD s.n [])).length=g.terms:=by rw[orRow_len (by rw[h,hrow _ hn])];exact h
   split
   ·exact ofRow_len hrow l _ (fun x hx=>hs x (List.mem_cons_of_mem _ hx)) h2
   ·exact h2
theorem ofRow_keep(hrow:∀n,n<g.nons→(Fi.getD n []).length=g.terms){t:Nat}:∀(l:List Sym) (out:List Bool),(∀s∈l,SymOk g.terms g.nons s)→out.length=g.terms→out.getD t false=true→(ofRow E Fi out l).1.getD t false=true
 | [],out,_,_,h=>h
 | s::l,out,hs,hl,h=>by
  unfold ofRow;split
  ·rw[List.getD_eq_getElem?_getD,List.getElem?_set];split
   ·split
    ·rfl
    ·rename_i h1 h2;subst h1;rw[List.getD_eq_getElem?_getD,List.getElem?_eq_none zo] at h;simp at h
   ·rw[←List.getD_eq_getElem?_getD];exact h
  ·rename_i ht;have hn:s.n<g.nons:=by have:=hs s me;unfold SymOk at this;rw[if_neg ht] at this;exact this
   have h2:(orRow out (Fi.getD s.n [])).length=g.terms:=by rw[orRow_len (by rw[hl,hrow _ hn])];exact hl
   have h3:(orRow out (Fi.getD s.n [])).getD t false=true:=orRow_left (by rw[hl,hrow _ hn]) (.inl h);split
   ·exact ofRow_keep hrow l _ (fun x hx=>hs x (List.mem_cons_of_mem _ hx)) h2 h3
   ·exact h3
theorem ofRow_null:∀(l:List Sym) (out:List Bool),(∀s∈l,s.term=false∧E.getD s.n false=true)→(ofRow E Fi out l).2=true
 | [],_,_=>rfl
 | s::l,out,h=>by
  obtain⟨h1,h2⟩:=h s me;unfold ofRow;rw[if_neg (by rw[h1];simp),if_pos h2];exact ofRow_null l _ fun x hx=>h x (List.mem_cons_of_mem _ hx)
theorem ofRow_beg(hrow:∀n,n<g.nons→(Fi.getD n []).length=g.terms){t:Nat}{s:Sym}{post:List Sym}(hs:(s=⟨true,t⟩)∨(s.term=false∧(Fi.getD s.n []).getD t false=true)) :
  ∀(pre:List Sym) (out:List Bool),(∀x∈pre++s::post,SymOk g.terms g.nons x)→out.length=g.terms→(∀x∈pre,x.term=false∧E.getD x.n false=true)→(ofRow E Fi out (pre++s::post)).1.getD t false=true
 | [],out,hok,hl,_=>by
  have hso:=hok s (List.mem_append_right _ me);rcases hs with rfl | ⟨h1,h2⟩
  ·show (ofRow E Fi out (⟨true,t⟩::post)).1.getD t false=true;unfold ofRow;rw[if_pos rfl];have ht:t<g.terms:=hso;show (out.set t true).getD t false=true;rw[List.getD_eq_getElem?_getD,List.getElem?_set_self zo];rfl
  ·have hn:s.n<g.nons:=by unfold SymOk at hso;rw[if_neg (by rw[h1];simp)] at hso;exact hso
   show (ofRow E Fi out (s::post)).1.getD t false=true;unfold ofRow;rw[if_neg (by rw[h1];simp)];have h3:(orRow out (Fi.getD s.n [])).length=g.terms:=by rw[orRow_len (by rw[hl,hrow _ hn])];exact hl
   have h4:(orRow out (Fi.getD s.n [])).getD t false=true:=orRow_left (by rw[hl,hrow _ hn]) (.inr h2);split
   ·exact ofRow_keep hrow post _ (fun x hx=>hok x (List.mem_append_right _ (List.mem_cons_of_mem _ hx))) h3 h4
   ·exact h4
 | x::pre,out,hok,hl,hp=>by
  obtain⟨h1,h2⟩:=hp x me;have hxo:=hok x me;have hn:x.n<g.nons:=by unfold SymOk at hxo;rw[if_neg (by rw[h1];simp)] at hxo;exact hxo
  show (ofRow E Fi out (x::(pre++s::post))).1.getD t false=true;unfold ofRow;rw[if_neg (by rw[h1];simp),if_pos h2];exact ofRow_beg hrow hs pre _ (fun y hy=>hok y (List.mem_cons_of_mem _ hy)) (by rw[orRow_len (by rw[hl,hrow _ hn])];exact hl) fun y hy=>hp y (List.mem_cons_of_mem _ hy)
theorem closed_nul(hc:FirstClosed g E Fi){n:Nat}(h:Nul g n):E.getD n false=true:=by
 induction h with
 | mk hr h1 h2 ih=>exact(hc _ hr).2 (ofRow_null _ _ fun s hs=>⟨h1 s hs,ih s hs⟩)
theorem closed_key(hg:Valid g)(hc:FirstClosed g E Fi)(hrow:∀n,n<g.nons→(Fi.getD n []).length=g.terms){t:Nat}:∀{r:Rule} {pre post:List Sym} {s:Sym},r∈g.rules→r.right=pre++s::post→NulL g pre→((s=⟨true,t⟩)∨(s.term=false∧(Fi.getD s.n []).getD t false=true))→(Fi.getD r.left []).getD t false=true:=by
 intro r pre post s hr e hn hs;obtain⟨hrl,_,hok⟩:=hg.right r hr;rw[e] at hok;have h1:=ofRow_beg (E:=E) hrow (post:=post) hs pre (List.replicate g.terms false) hok (by simp) (fun x hx=>⟨(hn x hx).1,closed_nul hc (hn x hx).2⟩);have h2:=ofRow_len (E:=E) hrow (pre++s::post) (List.replicate g.terms false) hok (by simp);have h3:=(hc r hr).1;rw[e] at h3;rw[←h3];exact orRow_left (by rw[h2,hrow _ hrl]) (.inr h1)
theorem closed_beg(hg:Valid g)(hc:FirstClosed g E Fi)(hrow:∀n,n<g.nons→(Fi.getD n []).length=g.terms){n t:Nat}(h:Beg g n t):(Fi.getD n []).getD t false=true:=by
 induction h with
 | term hr e hn=>exact closed_key hg hc hrow hr e hn (.inl rfl)
 | non hr e hn _ ih=>exact closed_key hg hc hrow hr e hn (.inr ⟨rfl,ih⟩)
structure FSet(g:Gram)(E:List Bool)(Fi:List (List Bool)):Prop where
 elen:E.length=g.nons
 flen:Fi.length=g.nons
 row:∀r∈Fi,r.length=g.terms
 nul:∀n,E.getD n false=true↔Nul g n
 beg:∀n t,(Fi.getD n []).getD t false=true↔Beg g n t
theorem FSet.rows(h:FSet g E Fi):∀n,n<g.nons→(Fi.getD n []).length=g.terms:=fun n hn=>by
 have:=gE (show n<Fi.length by rw[h.flen];exact hn);rw[List.getD_eq_getElem?_getD,this];exact h.row _ (List.getElem_mem _)
theorem FSet.list(h:FSet g E Fi){l:List Sym}(hl:∀s∈l,SymOk g.terms g.nons s):(∀t,(ofRow E Fi (List.replicate g.terms false) l).1.getD t false=true↔BegL g l t)∧((ofRow E Fi (List.replicate g.terms false) l).2=true↔NulL g l):=by
 obtain⟨h1,h2⟩:=ofRow_sound (E:=E) (Fi:=Fi) ⟨fun n hn=>(h.nul n).1 hn,fun n t ht=>(h.beg n t).1 ht⟩ l (List.replicate g.terms false);refine⟨fun t=>⟨fun ht=>(h1 t ht).resolve_left zeros_get,fun ht=>?_⟩,h2,fun hn=>ofRow_null _ _ fun s hs=>⟨(hn s hs).1,(h.nul _).2 (hn s hs).2⟩⟩;obtain⟨pre,s,post,rfl,hn,h3⟩:=ht;exact ofRow_beg h.rows (h3.imp id fun h4=>⟨h4.1,(h.beg _ _).2 h4.2⟩) pre _ hl (by simp) fun x hx=>⟨(hn x hx).1,(h.nul _).2 (hn x hx).2⟩
end
theorem make2_spec(F:Frz)(g:Gram)(hg:Valid g){a:Option Addr}{m c:Nat}(hr:Arr tRule F a m c g.rules) :
  Abs.Spec CC 44 [.agg ⟨gramCells g a m c⟩] F [] fun F' v o=>o=[]∧∃is E Fi,v=.pointer (some ⟨is,0,none⟩)∧SetsF F' is g a m c E Fi∧FSet g E Fi:=
 (makeJ_spec F g hg (FSnd g) FSnd.zero (fun E Fi r hm h E' hE'=>h.step hm hE') hr).mono fun F' v o _ ⟨h1,is,E,Fi,h2,h3,h4,h5,h6⟩=>by
  refine⟨h1,is,E,Fi,h2,h3,h5,h6,h3.row,fun n=>⟨h4.1 n,closed_nul h3.closed⟩,fun n t=>⟨h4.2 n t,closed_beg hg h3.closed fun k hk=>?_⟩⟩;have:=gE (show k<Fi.length by rw[h6];exact hk);rw[List.getD_eq_getElem?_getD,this];exact h3.row _ (List.getElem_mem _)
def padF(n:Nat)(ys:List Bool):List Bool:=ys++List.replicate (n-ys.length) false
theorem padF_len{n:Nat}{ys:List Bool}(h:ys.length≤n):(padF n ys).length=n:=by unfold padF;simp;omega
theorem padF_get{n:Nat}{ys:List Bool}{t:Nat}:(padF n ys).getD t false=ys.getD t false:=by
 unfold padF;rw[List.getD_eq_getElem?_getD,List.getD_eq_getElem?_getD,List.getElem?_append];split
 ·rfl
 ·rename_i h;rw[List.getElem?_eq_none (l:=ys) zo,List.getElem?_replicate];split<;>rfl
theorem orTo_pad{xs ys:List Bool}(h:ys.length≤xs.length):orTo ys.length xs (padF xs.length ys)=orRow xs (padF xs.length ys):=by
 rw[←orTo_all (padF_len h).symm];have:∀k,ys.length+k≤xs.length→orTo (ys.length+k) xs (padF xs.length ys)=orTo ys.length xs (padF xs.length ys):=by
  intro k
  induction k with
  | zero=>intro _;rfl
  | succ k ih=>
   intro hk;have hx:=gE (show ys.length+k<xs.length by omega);have hy:(padF xs.length ys)[ys.length+k]?=some false:=by
    unfold padF;rw[List.getElem?_append_right zo,List.getElem?_replicate,if_pos zo]
   rw[show ys.length+(k+1)=ys.length+k+1 by omega,orTo_succ (padF_len h).symm hx hy,ih zo,Bool.or_false];rw[←ih zo];apply List.ext_getElem?;intro i;by_cases hi:i=ys.length+k
   ·subst hi;rw[List.getElem?_set_self (by rw[orTo_len (padF_len h).symm];omega),orTo_at (padF_len h).symm hx]
   ·rw[List.getElem?_set_ne zo]
 have:=this (xs.length-ys.length) zo;rw[show ys.length+(xs.length-ys.length)=xs.length by omega] at this;exact this.symm
theorem union2_spec(F:Frz){it:Nat}{xs ys:List Bool}{b:Option Addr}{m n c d:Nat}(hm:m=xs.length)(hy:Arr tBool F b n d ys)(hlen:ys.length≤xs.length)(hn:n≤1000000) :
  Abs.Spec CC 47 [.slice (some ⟨it,0,none⟩) m c,.slice b n d] F [[(it,.cells false (xs.map cBool.cell))]] fun _ v o=>∃B',o=[B']∧B'=[(it,.cells false ((orRow xs (padF xs.length ys)).map cBool.cell))]∧v=.bool (decide (orRow xs (padF xs.length ys)≠xs)):=by
 have hylen:=hy.len;have hpl:=(padF_len hlen).symm;have hopad:=orTo_pad hlen;have hpat:∀(j:Nat) (y:Bool),ys[j]?=some y→(padF xs.length ys)[j]?=some y:=fun j y h=>by
  unfold padF;rw[List.getElem?_append_left (gS h).1];exact h
 generalize padF xs.length ys=zs at hpl hopad hpat;refine Abs.Spec.fn (n:=28) Tryd.func47 rfl rfl fun own=>?_;refine zC4 ?_;refine AW.range (S:=US) (fun s=>[(5,.bool s.ch)]) (fun s=>[(it,.cells false (s.cur.map cBool.cell))]::own) (fun j s G=>s.cur=orTo j xs zs∧s.ch=decide (s.cur≠xs)) n ⟨xs,false⟩ Z Z Z Z Z Z Z Z Z zo Z Z (fun _=>rfl) (fun _=>rfl) sM oR ⟨(orTo_zero xs zs).symm,by simp⟩ ?_ ?_
 ·intro j s F1 hF1 hj hP;obtain⟨hcur,hch⟩:=hP;have hy1:=hy.mono hF1;obtain⟨x,hx⟩:∃x,xs[j]?=some x:=⟨_,gE zo⟩;have hcl:s.cur.length=xs.length:=by rw[hcur];exact orTo_len hpl
  have hcx:(s.cur.map cBool.cell)[0+j*1]?=some (.bool x):=by rw[Nat.zero_add,Nat.mul_one,List.getElem?_map,hcur,orTo_at hpl hx];rfl
  refine zC4 ?_;refine WT.idxL hT hy1 Z Z Z Z Z Z Z Z Z zo (fun y hyj b1 off ro cs lx hb hp hrel=>?_);obtain rfl:lx=_:=hrel;have hnext:=orTo_succ hpl hx (hpat j y hyj);rw[←hcur] at hnext;have same:(x||y)=x→s.cur.set j (x||y)=s.cur:=by
   intro e;rw[e];apply List.ext_getElem?;intro i;by_cases hi:i=j
   ·subst hi;rw[List.getElem?_set_self zo,hcur,orTo_at hpl hx]
   ·rw[List.getElem?_set_ne zo]
  refine zC4 ?_;refine WT.split 16 Z (fun h=>?_) (fun h=>?_)
  ·refine zC4 ?_;refine WT.idxA (j:=j) (s:=1) hT Z Z Z Z Z Z Z Z Z zo ?_;refine WT.loadAt hT 0 Z Z Z Z Z Z me Z Z hcx ?_;refine zC4 ?_;refine AW.cond Z (fun h2=>?_) (fun h2=>?_)
   ·have h2:x=false:=by simpa using h2
    refine zC4 ?_;refine WT.idxA (j:=j) (s:=1) hT Z Z Z Z Z Z Z Z Z zo ?_;refine WT.storeAt hT 0 0 Z Z Z Z Z Z Z Z Z Z (by simp;omega) Z Z ?_;refine zC4 ?_;refine⟨⟨s.cur.set j true,true⟩,sM,OwnLe.flat ?_,?_,?_⟩
    ·dsimp only;rw[List.map_set,Nat.zero_add,Nat.mul_one];exact List.Perm.refl _
    ·rw[hnext,h,h2];rfl
    ·have:s.cur.set j true≠xs:=by
      intro e;have this:(s.cur.set j true)[j]?=xs[j]?:=by rw[e]
      rw[List.getElem?_set_self zo,hx,h2] at this;cases this
     simp[this]
   ·have h2:x=true:=by simpa using h2
    refine zC4 ?_;refine⟨s,sM,zow,?_,hch⟩;rw[hnext,same (by rw[h2];rfl)]
  ·refine zC4 ?_;refine AW.cond Z (fun h2=>(by cases h2)) (fun h2=>?_);refine zC4 ?_;refine⟨s,sM,zow,?_,hch⟩;rw[hnext,same (by rw[h];simp)]
 ·intro s F1 hF1 hP;obtain⟨hcur,hch⟩:=hP;rw[show n=ys.length by omega,hopad] at hcur;refine zC4 ?_;refine AW.ret ⟨_,[_],⟨_,_,rfl,rfl,rfl⟩,List.Sublist.refl _,_,rfl,by rw[←hcur],?_⟩;rw[←hcur,←hch];rfl
theorem unionSelf_spec(F:Frz){it:Nat}{xs:List Bool}{m c d:Nat}(hm:m=xs.length)(hn:m≤1000000) :
  Abs.Spec CC 47 [.slice (some ⟨it,0,none⟩) m c,.slice (some ⟨it,0,none⟩) m d] F [[(it,.cells false (xs.map cBool.cell))]] fun _ v o=>∃B',o=[B']∧B'=[(it,.cells false (xs.map cBool.cell))]∧v=.bool false:=by
 refine Abs.Spec.fn (n:=28) Tryd.func47 rfl rfl fun own=>?_;refine zC4 ?_;refine AW.range (S:=Unit) (fun s=>[(5,.bool false)]) (fun s=>[(it,.cells false (xs.map cBool.cell))]::own) (fun j s G=>True) m () Z Z Z Z Z Z Z Z Z zo Z Z (fun _=>rfl) (fun _=>rfl) sM oR trivial ?_ ?_
 ·intro j s F1 hF1 hj hP;obtain⟨x,hx⟩:∃x,xs[j]?=some x:=⟨_,gE zo⟩;have hcx:(xs.map cBool.cell)[0+j*1]?=some (.bool x):=by rw[Nat.zero_add,Nat.mul_one,List.getElem?_map,hx];rfl
  refine zC4 ?_;refine WT.idxA (j:=j) (s:=1) hT Z Z Z Z Z Z Z Z Z zo ?_;refine WT.loadAt hT 0 Z Z Z Z Z Z me Z Z hcx ?_;refine zC4 ?_;refine WT.split 16 Z (fun h=>?_) (fun h=>?_)
  ·refine zC4 ?_;refine WT.idxA (j:=j) (s:=1) hT Z Z Z Z Z Z Z Z Z zo ?_;refine WT.loadAt hT 0 Z Z Z Z Z Z me Z Z hcx ?_;refine zC4 ?_;refine AW.cond Z (fun h2=>?_) (fun h2=>?_)
   ·have h2:x=false:=by simpa using h2
    rw[h2] at h;cases h
   ·refine zC4 ?_;exact⟨(),sM,zow,trivial⟩
  ·refine zC4 ?_;refine AW.cond Z (fun h2=>(by cases h2)) (fun h2=>?_);refine zC4 ?_;exact⟨(),sM,zow,trivial⟩
 ·intro s F1 hF1 hP;refine zC4 ?_;exact AW.ret ⟨_,[_],⟨_,_,rfl,rfl,rfl⟩,List.Sublist.refl _,_,rfl,rfl,rfl⟩
theorem reachedUse_spec(F:Frz)(x:Nat)(s:Value)(hs:∃a m c,s=.slice a m c) :
  Abs.Spec CC 80 [.agg ⟨[.int .i64 x,s]⟩] F [] fun _ v o=>o=[]∧v=.bool true:=by
 obtain⟨a,m,c,rfl⟩:=hs;refine Abs.Spec.fn (n:=3) Tryd.func80 rfl rfl fun own=>?_;refine AW.seq (AW.reg ?_);refine WT.boxT Z Z Z Z Z Z (fun i3 hi3=>?_);refine zC4 ?_;exact AW.ret ⟨_,[],⟨_,_,rfl,rfl,rfl⟩,zsb,rfl,rfl⟩
structure RcS where
 O:List Bool
 again:Bool
def ClosR(O:List Bool)(r:Rule):Prop:=O.getD r.left false=true→∀s∈r.right,s.term=false→O.getD s.n false=true
structure ReachF(g:Gram)(O:List Bool):Prop where
 len:O.length=g.nons
 at_:∀n,O.getD n false=true↔Rch g n
theorem set_true{l:List Bool}{n:Nat}(h:n<l.length):(l.set n true).getD n false=true:=by rw[List.getD_eq_getElem?_getD,List.getElem?_set_self h];rfl
theorem set_keep{l:List Bool}{n t:Nat}(h:l.getD t false=true):(l.set n true).getD t false=true:=by
 rw[List.getD_eq_getElem?_getD] at h ⊢;rw[List.getElem?_set];split
 ·split
  ·rfl
  ·rename_i h1 h2;subst h1;rw[List.getElem?_eq_none zo] at h;exact h
 ·exact h
theorem reached_spec(F:Frz)(g:Gram)(hg:Valid g){a:Option Addr}{m c:Nat}(hr:Arr tRule F a m c g.rules) :
  Abs.Spec CC 79 [.agg ⟨gramCells g a m c⟩,.func (.func 80) ⟨[]⟩ ⟨[]⟩] F [] fun F' v o=>o=[]∧∃a' c' O,v=.slice a' g.nons c'∧Arr tBool F' a' g.nons c' O∧ReachF g O:=by
 unfold gramCells;have hrlen:=hr.len;have hgr:=hg.range.rules;have hgn:=hg.range.nons;have hgs:=hg.range.start;refine Abs.Spec.fn (n:=63) Tryd.func79 rfl rfl fun own=>?_;refine AW.seq (AW.reg ?_);refine WT.boxT Z Z Z Z Z Z (fun i2 hi2=>?_);refine zC4 ?_;refine WT.makeT (l:=g.nons) hT Z Z Z Z Z Z Z Z Z Z Z Z zom (fun ie hie=>?_);rw[cap_eq];refine zC4 ?_;have hgst:g.start<g.nons:=hgs;refine WT.idxA (j:=g.start) (s:=1) hT Z Z Z Z Z Z Z Z Z hgst ?_;refine WT.storeAt hT 0 0 Z Z Z Z Z Z Z Z Z Z (by simp;omega) Z Z ?_;refine zC4 ?_;refine AW.block ?_
 refine AW.loopR (S:=RcS) (fun t=>[(6,.bool t.again)]) (fun t=>[(ie,.cells false (t.O.map cBool.cell))]::[(i2,.cells false [.int .i64 g.terms,.int .i64 g.nons,.int .i64 g.start,.slice a m c])]::own)
  (fun t G=>t.O.length=g.nons∧(∀n,t.O.getD n false=true→Rch g n)∧t.O.getD g.start false=true∧(t.again=false→∀r∈g.rules,ClosR t.O r)) (fun t=>if t.again=true then 1+(g.nons-ones t.O) else 0) ⟨(List.replicate g.nons false).set g.start true,true⟩
  sM (OwnLe.flat ?_) ⟨by simp,fun n hn=>?_,set_true (by simp;exact hgst),fun h=>(by cases h)⟩ ?_
 ·dsimp only;rw[List.map_set,List.map_replicate,Nat.zero_add,Nat.mul_one];exact List.Perm.refl _
 ·rcases set_get hn with rfl | h3
  ·exact .start
  ·exact absurd h3 zeros_get
 intro t F2 hF2 hP;obtain⟨hl,hsnd,hst,hcl⟩:=hP;have hr2:=hr.mono hF2;refine zC4 ?_;refine AW.cond Z (fun h=>?_) (fun h=>?_)
 ·refine zC4 ?_;refine AW.block ?_;refine zC4 ?_;refine AW.range (S:=RcS) (fun t=>[(6,.bool t.again)]) (fun t=>[(ie,.cells false (t.O.map cBool.cell))]::[(i2,.cells false [.int .i64 g.terms,.int .i64 g.nons,.int .i64 g.start,.slice a m c])]::own)
   (fun k u G=>u.O.length=g.nons∧(∀n,u.O.getD n false=true→Rch g n)∧u.O.getD g.start false=true∧(u.again=true→ones t.O<ones u.O)∧(u.again=false→u.O=t.O∧∀r∈g.rules.take k,ClosR t.O r)) m ⟨t.O,false⟩
   Z Z Z Z Z Z Z Z Z zo rfl rfl (fun _=>rfl) (fun _=>rfl) sM oR ⟨hl,hsnd,hst,fun h=>(by cases h),fun _=>⟨rfl,by simp⟩⟩ ?_ ?_
  ·intro k u F3 hF3 hk hP;obtain⟨hl,hsnd,hst,hT2,hC⟩:=hP;have hr3:=hr2.mono hF3;refine zC4 ?_;refine WT.idxL hT hr3 Z Z Z Z Z Z Z Z Z zo (fun r hrk b1 off ro cs lx hb hp1 hrel=>?_);obtain⟨b2,n2,d2,rfl,hr4⟩:=hrel;obtain⟨hrl,hrr,hrs⟩:=hg.right r (gM hrk);have hr4l:=hr4.len;have htk:g.rules.take (k+1)=g.rules.take k++[r]:=by rw[List.take_add_one,hrk];rfl
   obtain⟨e0,he0⟩:∃e0,u.O[r.left]?=some e0:=⟨_,gE (by rw[hl];exact hrl)⟩;have hgE:u.O.getD r.left false=e0:=by rw[List.getD_eq_getElem?_getD,he0];rfl
   have hE0c:(u.O.map cBool.cell)[0+r.left*1]?=some (.bool e0):=by rw[Nat.zero_add,Nat.mul_one,List.getElem?_map,he0];rfl
   refine zC4 ?_;refine WT.allocT hT Z Z Z Z Z Z (fun i6 hi6=>?_);refine zC4 ?_;refine WT.idxA (j:=r.left) (s:=1) hT Z Z Z Z Z Z Z Z Z hrl ?_;refine WT.loadAt hT 1 Z Z Z Z Z Z me Z Z hE0c ?_;refine zC4 ?_;refine WT.split 32 Z (fun h3=>?_) (fun h3=>?_)
   ·have h3:e0=false:=by simpa using h3
    refine zC4 ?_;refine AW.cond Z (fun _=>?_) (fun h=>(by cases h));refine AW.exit ?_;refine⟨u,sM,zow,hl,hsnd,hst,hT2,fun hag=>?_⟩;obtain⟨q1,q2⟩:=hC hag;refine⟨q1,fun r' hr'=>?_⟩;rw[htk] at hr';rcases List.mem_append.1 hr' with h4 | h4
    ·exact q2 r' h4
    ·rw[List.mem_singleton.1 h4];intro h5;rw[←q1,hgE,h3] at h5;cases h5
   ·have h3:e0=true:=by simpa using h3
    refine zC4 ?_;refine WT.callC (first:=[]) (args:=[.agg ⟨[.int .i64 r.left,.slice b2 n2 d2]⟩]) (capt:=[]) Tryd.func80 Z Z Z Z Z Z Z Z (reachedUse_spec F3 r.left _ ⟨_,_,_,rfl⟩) (fun v hv=>?_)
    subst hv;refine zC4 ?_;refine AW.cond Z (fun h=>(by cases h)) (fun _=>?_);refine zC4 ?_;refine AW.range (S:=RcS) (fun t=>[(6,.bool t.again)]) (fun t=>[(i6,.cells false [.int .i64 r.left,.slice b2 n2 d2])]::[(ie,.cells false (t.O.map cBool.cell))]::[(i2,.cells false [.int .i64 g.terms,.int .i64 g.nons,.int .i64 g.start,.slice a m c])]::own)
     (fun i v G=>v.O.length=g.nons∧(∀n,v.O.getD n false=true→Rch g n)∧v.O.getD g.start false=true∧(v.again=true→ones t.O<ones v.O)∧(v.again=false→u.again=false∧v.O=u.O∧∀s∈r.right.take i,s.term=false→u.O.getD s.n false=true)) n2 u
     Z Z Z Z Z Z Z Z Z zo rfl rfl (fun _=>rfl) (fun _=>rfl) sM oR ⟨hl,hsnd,hst,hT2,fun h=>⟨h,rfl,by simp⟩⟩ ?_ ?_
    ·intro i v F4 hF4 hi hP;obtain⟨hvl,hvsnd,hvst,hvT,hvC⟩:=hP;have hr5:=hr4.mono hF4;refine zC4 ?_;refine WT.idxL hT hr5 Z Z Z Z Z Z Z Z Z zo (fun y hyi b5 off5 ro5 cs5 lx5 hb5 hp5 hrel5=>?_);obtain rfl:lx5=_:=hrel5;obtain⟨yt,yn⟩:=y;have hyo:=hrs _ (gM hyi);have hytk:r.right.take (i+1)=r.right.take i++[⟨yt,yn⟩]:=by rw[List.take_add_one,hyi];rfl
     refine zC4 ?_;refine WT.allocT hT Z Z Z Z Z Z (fun i8 hi8=>?_);refine zC4 ?_;refine WT.split 48 Z (fun h4=>?_) (fun h4=>?_)
     ·have h4:yt=false:=by simpa using h4
      subst h4;have hyn:yn<g.nons:=hyo;obtain⟨e1,he1⟩:∃e1,v.O[yn]?=some e1:=⟨_,gE (by rw[hvl];exact hyn)⟩;have hgE1:v.O.getD yn false=e1:=by rw[List.getD_eq_getElem?_getD,he1];rfl
      have hE1c:(v.O.map cBool.cell)[0+yn*1]?=some (.bool e1):=by rw[Nat.zero_add,Nat.mul_one,List.getElem?_map,he1];rfl
      refine zC4 ?_;refine WT.idxA (j:=yn) (s:=1) hT Z Z Z Z Z Z Z Z Z hyn ?_;refine WT.loadAt hT 2 Z Z Z Z Z Z me Z Z hE1c ?_;refine zC4 ?_;refine AW.cond Z (fun h5=>?_) (fun h5=>?_)
      ·have h5:e1=false:=by simpa using h5
       subst h5;refine zC4 ?_;refine WT.idxA (j:=yn) (s:=1) hT Z Z Z Z Z Z Z Z Z hyn ?_;refine WT.storeAt hT 2 0 Z Z Z Z Z Z Z Z Z Z (by simp;omega) Z Z ?_;refine zC4 ?_;have h1s:=ones_set he1;refine⟨⟨v.O.set yn true,true⟩,sM,?_,by simp[hvl],fun n hn=>?_,set_keep hvst,fun _=>?_,fun h=>(by cases h)⟩
       ·refine OwnLe.skip _ (OwnLe.flat ?_);dsimp only;rw[List.map_set,Nat.zero_add,Nat.mul_one];exact List.Perm.refl _
       ·rcases set_get hn with rfl | h6
        ·exact .more (gM hrk) (hsnd _ (by rw[hgE,h3])) (gM hyi)
        ·exact hvsnd n h6
       ·show ones t.O<ones (v.O.set yn true);rw[h1s];cases hva:v.again with
        | true=>have:=hvT hva;omega
        | false=>
         obtain⟨q1,q2,_⟩:=hvC hva;rw[q2,(hC q1).1];omega
      ·have h5:e1=true:=by simpa using h5
       refine zC4 ?_;refine⟨v,sM,zow,hvl,hvsnd,hvst,hvT,fun hag=>?_⟩;obtain⟨q1,q2,q3⟩:=hvC hag;refine⟨q1,q2,fun s hs hs2=>?_⟩;rw[hytk] at hs;rcases List.mem_append.1 hs with h6 | h6
       ·exact q3 s h6 hs2
       ·rw[List.mem_singleton.1 h6,←q2,hgE1,h5]
     ·have h4:yt=true:=by simpa using h4
      refine zC4 ?_;refine AW.cond Z (fun h=>(by cases h)) (fun _=>?_);refine zC4 ?_;refine⟨v,sM,zow,hvl,hvsnd,hvst,hvT,fun hag=>?_⟩;obtain⟨q1,q2,q3⟩:=hvC hag;refine⟨q1,q2,fun s hs hs2=>?_⟩;rw[hytk] at hs;rcases List.mem_append.1 hs with h6 | h6
      ·exact q3 s h6 hs2
      ·rw[List.mem_singleton.1 h6,h4] at hs2;cases hs2
    ·intro v F4 hF4 hP;obtain⟨hvl,hvsnd,hvst,hvT,hvC⟩:=hP;rw[List.take_of_length_le zo] at hvC;refine⟨v,sM,zow,hvl,hvsnd,hvst,hvT,fun hag=>?_⟩;obtain⟨q1,q2,q3⟩:=hvC hag;obtain⟨q4,q5⟩:=hC q1;refine⟨by rw[q2,q4],fun r' hr'=>?_⟩;rw[htk] at hr';rcases List.mem_append.1 hr' with h6 | h6
     ·exact q5 r' h6
     ·rw[List.mem_singleton.1 h6];intro _ s hs hs2;rw[←q4];exact q3 s hs hs2
  ·intro u F3 hF3 hP;obtain⟨hul,husnd,hust,hT2,hC⟩:=hP;rw[List.take_of_length_le zo] at hC;refine⟨u,?_,sM,zow,hul,husnd,hust,fun hag=>?_⟩
   ·have h1:=ones_le u.O;have h2:=ones_le t.O;rw[h,if_pos rfl];split
    ·rename_i h4;have:=hT2 h4;omega
    ·omega
   ·obtain⟨q1,q2⟩:=hC hag;rw[q1];exact q2
 ·refine AW.exit ?_;refine AW.freezeAll 0 Z Z (fun F3 hF3 hB3=>?_);refine zC4 ?_;have hEa:=arr_of_cells (K:=cBool) (R:=tBool) (F:=F3) (id:=ie) (row:=t.O) (c:=if t.O.length=0 then 0 else 1) (ro:=false) rfl (fun _ _=>rfl) rfl (hB3 ie _ (by simp));rw[hl] at hEa;refine AW.ret ⟨_,[],⟨_,_,rfl,rfl,rfl⟩,zsb,rfl,_,_,t.O,rfl,hEa,hl,fun n=>⟨hsnd n,fun hn=>?_⟩⟩
  induction hn with
  | start=>exact hst
  | more h4 _ h6 ih=>exact hcl h _ h4 ih _ h6 rfl
theorem reachedAll_spec(F:Frz)(g:Gram)(hg:Valid g){a:Option Addr}{m c:Nat}(hr:Arr tRule F a m c g.rules) :
  Abs.Spec CC 65 [.agg ⟨gramCells g a m c⟩] F [] fun F' v o=>o=[]∧∃a' c' O,v=.tuple ⟨[.slice a' g.nons c',.int .i64 0]⟩∧Arr tBool F' a' g.nons c' O∧ReachF g O:=by
 unfold gramCells;refine Abs.Spec.fn (n:=12) Tryd.func65 rfl rfl fun own=>?_;refine AW.seq (AW.reg ?_);refine WT.boxT Z Z Z Z Z Z (fun i1 hi1=>?_);refine zC4 ?_;have hck:=check_spec F g hg.range hr;unfold gramCells at hck;refine WT.callV Tryd.func32 Z Z Z Z Z Z hck (fun v hv=>?_);rw[hg.no_err] at hv;subst hv;refine zC4 ?_;refine AW.cond Z (fun h=>(by simp at h)) (fun _=>?_);refine zC4 ?_;have hre:=reached_spec F g hg hr;unfold gramCells at hre;refine WT.callF0 Tryd.func79 Z Z Z Z Z Z hre (fun F3 v hF3 hv=>?_);obtain⟨a8,c8,O,rfl,hO,hR⟩:=hv;refine zC4 ?_
 exact AW.ret ⟨_,[],⟨_,_,rfl,⟨_,_,rfl,rfl,rfl⟩,rfl⟩,zsb,rfl,a8,c8,O,rfl,hO,hR⟩
structure Tab where
 act:List (List (Nat×Nat))
 go:List (List Int)
 conf:List (Nat×Nat×List (Nat×Nat))
end Go.Proofs.D
set_option linter.unusedVariables false
set_option maxRecDepth 20000
set_option maxHeartbeats 0
open Go Go.Abs Go.Proofs Go.Proofs.D
namespace Go.Abs
section
variable {C:Ctx}{T:RT}{n:Nat}{k:Kno}{F:Frz}{own:Own}{ops rest:List Oper}{o:Oper}{Q:Kno→Frz→Own→List Rec→Prop}
end
end Go.Abs
namespace Go.Proofs.D
def LrOk(g:Gram)(x:Lr):Prop:=x.rule≤g.rules.length∧x.dot≤(if x.rule=g.rules.length then 1 else ((g.rules[x.rule]?).map (·.right.length)).getD 0)
theorem Clos.ok{g:Gram}{l:List Lr}(hl:∀x∈l,LrOk g x){x:Lr}(h:Clos g l x):LrOk g x:=by
 induction h with
 | base h=>exact hl _ h
 | more _ _ h _ _=>exact⟨Nat.le_of_lt (gS h).1,Nat.zero_le _⟩
structure ISt where
 xs:List Lr
 a:Option Addr
 c:Nat
 B:List (Nat×Blk)
structure SyS where
 a:Option Addr
 m:Nat
 c:Nat
 B:List (Nat×Blk)
structure NxS where
 a:Option Addr
 m:Nat
 c:Nat
 B:List (Nat×Blk)
 l:List Lr
structure CpS where
 j:Nat
 a:Option Addr
 c:Nat
 B:List (Nat×Blk)
theorem CountVal.some{T:Nat→Nat}{c:Int}(h:CountVal T c)(hc:c≠0):∃d,1≤T d:=by
 rcases h with ⟨n,⟨D,hD⟩,h2⟩ | ⟨h,_⟩
 ·refine⟨D,?_⟩;rw[hD D (Nat.le_refl _)];rcases Nat.eq_zero_or_pos n with e | e
  ·subst e;exact absurd h2 (by simpa using hc)
  ·exact e
 ·exact h 1
end Go.Proofs.D
set_option linter.unusedVariables false
set_option maxRecDepth 20000
set_option maxHeartbeats 0
open Go Go.Abs Go.Proofs Go.Proofs.D
namespace Go.Abs
section
variable {C:Ctx}{T:RT}{n:Nat}{k:Kno}{F:Frz}{own:Own}{ops rest:List Oper}{o:Oper}{Q:Kno→Frz→Own→List Rec→Prop}{args':List Value}
end
end Go.Abs
namespace Go.Proofs.D
def tBool:Ty Bool where
 size:=1
 rel:=fun _ l x=>l=[.bool x]
 len:=fun _ _ _ h=>by subst h;rfl
 one:=fun _ _ _ h=>by subst h;rfl
 mono:=fun _ _ _ _ _ h=>h
def Chain(to:Nat):List Sym→Nat→List Key→Prop
 | [],i,ks=>ks=[]∧i=to
 | s::l,i,ks=>∃q ks',ks=q::ks'∧q.sym=s∧q.frm=i∧Chain to l q.to ks'
structure PackOk(g:Gram)(S:List Key)(k:Key)(p:NPack)(kp:KPack):Prop where
 num:p=numPack S kp
 rule:∃r,g.rules[kp.rule]?=some r∧r.left=k.sym.n∧Chain k.to r.right k.frm kp.kids
 ins:∀q∈kp.kids,q∈S
structure NodeOk(g:Gram)(w:List Nat)(S:List Key)(k:Key)(x:Node):Prop where
 key:x.key=k
 term:k.sym.term=true→k.to=k.frm+1∧k.to≤w.length∧w[k.frm]?=some k.sym.n∧x.packs=[]
 non:k.sym.term=false→x.packs≠[]
 pack:∀p∈x.packs,∃kp,PackOk g S k p kp
 sorted:x.packs.Pairwise fun x y=>cmpNPack x y<0
end Go.Proofs.D
set_option linter.unusedVariables false
set_option maxRecDepth 20000
set_option maxHeartbeats 0
open Go Go.Abs Go.Proofs Go.Proofs.D
namespace Go.Abs
section
variable {C:Ctx}{T:RT}{n:Nat}{k:Kno}{F:Frz}{own:Own}{ops rest:List Oper}{o:Oper}{Q:Kno→Frz→Own→List Rec→Prop}{α:Type}{R:Ty α}
end
end Go.Abs
namespace Go.Proofs.D
structure NmOI where
 i:Nat
 sts:List (List Lr)
 rows:List (List Int)
 sa:Option Addr
 sn:Nat
 sc:Nat
 SB:List (Nat×Blk)
 ta:Option Addr
 tn:Nat
 tc:Nat
 TB:List (Nat×Blk)
 es:Ents (List UInt8)
structure NmRI where
 sts:List (List Lr)
 row:List Int
 sa:Option Addr
 sn:Nat
 sc:Nat
 SB:List (Nat×Blk)
 ra:Option Addr
 rn:Nat
 rc:Nat
 RB:List (Nat×Blk)
 es:Ents (List UInt8)
end Go.Proofs.D
set_option linter.unusedVariables false
set_option maxRecDepth 20000
set_option maxHeartbeats 0
open Go Go.Abs Go.Proofs Go.Proofs.D
namespace Go.Abs
section
variable {C:Ctx}{T:RT}{t:TypeId}{κ:Type}[DecidableEq κ](K:KeyTy C t κ)
variable {n:Nat}{k:Kno}{F:Frz}{own:Own}{ops rest:List Oper}{o:Oper}{Q:Kno→Frz→Own→List Rec→Prop}
end
end Go.Abs
namespace Go.Proofs.D
structure MkS where
 eb:Ents Lr
 ee:Ents Lr
theorem SetsF.mono{F G:Frz}{is:Nat}{g:Gram}{ra:Option Addr}{rm rc:Nat}{E:List Bool}{Fi:List (List Bool)}(h:SetsF F is g ra rm rc E Fi)(hF:Frz.le F G):SetsF G is g ra rm rc E Fi:=by
 obtain⟨ie,io,ce,co,ro,h1,h2,h3⟩:=h.blk;exact⟨⟨ie,io,ce,co,ro,hF _ _ h1,h2.mono hF,h3.mono hF⟩,h.row,h.rules.mono hF,h.closed⟩
structure ClS where
 a:Option Addr
 m:Nat
 c:Nat
 B:List (Nat×Blk)
 es:Ents Lr
structure CfS where
 es:Ents Lr
 S:Lr→Nat
 again:Bool
structure AfS where
 a:Option Addr
 m:Nat
 c:Nat
 B:List (Nat×Blk)
 l:List Look
structure FwI(g:Gram)(Fo:List (List Bool)):Prop where
 tab:TabOk g.nons (g.terms+1) Fo
 snd:∀n t,(Fo.getD n []).getD t false=true→Fol g n t
 start:(Fo.getD g.start []).getD g.terms false=true
def SymCl(g:Gram)(Fo:List (List Bool))(r:Rule)(i:Nat):Prop:=∀n,r.right[i]?=some ⟨false,n⟩→(∀t,BegL g (r.right.drop (i+1)) t→(Fo.getD n []).getD t false=true)∧(NulL g (r.right.drop (i+1))→∀t,(Fo.getD r.left []).getD t false=true→(Fo.getD n []).getD t false=true)
theorem getD_setN{α:Type}{l:List α}{n k:Nat}{x d:α}(hn:n<l.length):(l.set n x).getD k d=if k=n then x else l.getD k d:=by
 rw[List.getD_eq_getElem?_getD,List.getElem?_set];by_cases h:n=k
 ·subst h;rw[if_pos rfl,if_pos hn,if_pos rfl];rfl
 ·rw[if_neg h,if_neg (fun e=>h e.symm),List.getD_eq_getElem?_getD]
theorem FwI.row{g:Gram}{Fo:List (List Bool)}(h:FwI g Fo){n:Nat}(hn:n<g.nons):(Fo.getD n []).length=g.terms+1:=by
 have:=gE (show n<Fo.length by rw[h.tab.size];exact hn);rw[List.getD_eq_getElem?_getD,this];exact h.tab.row _ (List.getElem_mem _)
theorem FwI.or{g:Gram}{Fo:List (List Bool)}(h:FwI g Fo){n:Nat}(hn:n<g.nons){zs:List Bool}(hz:zs.length=g.terms+1)(hs:∀t,zs.getD t false=true→Fol g n t):FwI g (Fo.set n (orRow (Fo.getD n []) zs)):=by
 have hl:=h.row hn;have hn2:n<Fo.length:=by rw[h.tab.size];exact hn
 refine⟨h.tab.setRow _ (by rw[orRow_len zo];exact hl),fun k t ht=>?_,?_⟩
 ·rw[getD_setN hn2] at ht;split at ht
  ·rename_i e;subst e;rcases orRow_get ht with h1 | h1
   ·exact h.snd _ _ h1
   ·exact hs t h1
  ·exact h.snd _ _ ht
 ·rw[getD_setN hn2];split
  ·rename_i e;rw[←e];exact orRow_left (by rw[h.row (by rw[e];exact hn)];exact hz.symm) (.inl h.start)
  ·exact h.start
theorem FwI.grow{g:Gram}{Fo:List (List Bool)}(h:FwI g Fo){n:Nat}(hn:n<g.nons){zs:List Bool}(hz:zs.length=g.terms+1):onesT Fo≤onesT (Fo.set n (orRow (Fo.getD n []) zs))∧(orRow (Fo.getD n []) zs≠Fo.getD n []→onesT Fo<onesT (Fo.set n (orRow (Fo.getD n []) zs))):=by
 have hl:=h.row hn;have hn2:n<Fo.length:=by rw[h.tab.size];exact hn
 have h0:Fo[n]?=some (Fo.getD n []):=by rw[List.getD_eq_getElem?_getD,gE hn2];rfl
 have h1:=onesT_set (row':=orRow (Fo.getD n []) zs) h0;have h2:=ones_or (xs:=Fo.getD n []) (ys:=zs) zo;exact⟨by have:=h2.1;omega,fun hne=>by have:=h2.2 hne;omega⟩
theorem set_getD{Fo:List (List Bool)}{n:Nat}(hn:n<Fo.length):Fo.set n (Fo.getD n [])=Fo:=by
 apply List.ext_getElem?;intro i;by_cases hi:i=n
 ·subst hi;rw[List.getElem?_set_self hn,List.getD_eq_getElem?_getD,gE hn];rfl
 ·rw[List.getElem?_set_ne zo]
theorem or_same{xs zs:List Bool}(hl:xs.length=zs.length)(h:orRow xs zs=xs){t:Nat}(ht:zs.getD t false=true):xs.getD t false=true:=by
 rw[←h];exact orRow_left hl (.inr ht)
theorem orRow_self:∀xs:List Bool,orRow xs xs=xs
 | []=>rfl
 | x::xs=>by
  have:=orRow_self xs;unfold orRow at this ⊢;rw[List.zipWith_cons_cons,this,Bool.or_self]
structure FolF(g:Gram)(Fo:List (List Bool)):Prop where
 tab:TabOk g.nons (g.terms+1) Fo
 at_:∀n t,(Fo.getD n []).getD t false=true↔Fol g n t
theorem FolF.of{g:Gram}{Fo:List (List Bool)}(h:FwI g Fo)(hc:∀r∈g.rules,Rch g r.left→∀j,SymCl g Fo r j):FolF g Fo:=by
 have hat:∀{r:Rule} {pre post:List Sym} {m:Nat},r.right=pre++⟨false,m⟩::post→r.right[pre.length]?=some ⟨false,m⟩∧r.right.drop (pre.length+1)=post:=fun {r pre post m} e=>by
  rw[e];refine⟨by rw[List.getElem?_append_right (Nat.le_refl _),Nat.sub_self];rfl,?_⟩;rw[show pre++⟨false,m⟩::post=(pre++[⟨false,m⟩])++post by simp,List.drop_left' (by simp)]
 refine⟨h.tab,fun n t=>⟨h.snd n t,fun hf=>?_⟩⟩
 induction hf with
 | start=>exact h.start
 | beg h1 h2 h3 h4=>
  obtain⟨q1,q2⟩:=hat h3;exact(hc _ h1 h2 _ _ q1).1 _ (by rw[q2];exact h4)
 | pass h1 h2 h3 h4 _ ih=>
  obtain⟨q1,q2⟩:=hat h3;exact(hc _ h1 h2 _ _ q1).2 (by rw[q2];exact h4) _ ih
structure FwS where
 Fo:List (List Bool)
 bs:List (Nat×Blk)
 again:Bool
theorem FwI.step{g:Gram}{t0 u v:FwS}{r:Rule}{i n:Nat}(hr:r∈g.rules)(hR:Rch g r.left)(hlr:r.left<g.nons)(hx:r.right[i]?=some ⟨false,n⟩)(hn:n<g.nons)(hv:FwI g v.Fo)
  (hT:v.again=true→onesT t0.Fo<onesT v.Fo) (hut:u.again=false→u.Fo=t0.Fo) (hC:v.again=false→u.again=false∧v.Fo=u.Fo∧∀j<i,SymCl g u.Fo r j)
  {row:List Bool} {emp:Bool} (hrl:row.length=g.terms) (hb:∀t,row.getD t false=true↔BegL g (r.right.drop (i+1)) t) (he:emp=true↔NulL g (r.right.drop (i+1)))
  {Fo1 Fo2:List (List Bool)} (h1:Fo1=v.Fo.set n (orRow (v.Fo.getD n []) (padF (g.terms+1) row)))
  (h2:Fo2=if emp=true then Fo1.set n (orRow (Fo1.getD n []) (Fo1.getD r.left [])) else Fo1) {ag:Bool}
  (ha1:v.again=true→ag=true) (ha2:orRow (v.Fo.getD n []) (padF (g.terms+1) row)≠v.Fo.getD n []→ag=true) (ha3:emp=true→orRow (Fo1.getD n []) (Fo1.getD r.left [])≠Fo1.getD n []→ag=true)
  (ha4:ag=true→v.again=true∨orRow (v.Fo.getD n []) (padF (g.terms+1) row)≠v.Fo.getD n []∨(emp=true∧orRow (Fo1.getD n []) (Fo1.getD r.left [])≠Fo1.getD n [])) :
  FwI g Fo2∧(ag=true→onesT t0.Fo<onesT Fo2)∧(ag=false→u.again=false∧Fo2=u.Fo∧∀j<i+1,SymCl g u.Fo r j):=by
 have hsp:r.right=r.right.take i++⟨false,n⟩::r.right.drop (i+1):=by
  have h3:=(gS hx);obtain⟨h4,h5⟩:=h3;rw[←h5,List.getElem_cons_drop h4,List.take_append_drop]
 have hpl:(padF (g.terms+1) row).length=g.terms+1:=padF_len zo;have hI1:FwI g Fo1:=by
  rw[h1];refine hv.or hn hpl fun t ht=>?_;rw[padF_get,hb] at ht;exact .beg hr hR hsp ht
 have hg1:=hv.grow hn hpl;rw[←h1] at hg1;have hz2:(Fo1.getD r.left []).length=g.terms+1:=hI1.row hlr;have hI2:FwI g Fo2:=by
  rw[h2];split
  ·rename_i hem;exact hI1.or hn hz2 fun t ht=>.pass hr hR hsp (he.1 hem) (hI1.snd _ _ ht)
  ·exact hI1
 have hg2:onesT Fo1≤onesT Fo2∧(emp=true→orRow (Fo1.getD n []) (Fo1.getD r.left [])≠Fo1.getD n []→onesT Fo1<onesT Fo2):=by
  rw[h2];split
  ·have:=hI1.grow hn hz2;exact⟨this.1,fun _=>this.2⟩
  ·rename_i hem;exact⟨Nat.le_refl _,fun h=>absurd h hem⟩
 have hn2:n<v.Fo.length:=by rw[hv.tab.size];exact hn
 refine⟨hI2,fun hag=>?_,fun hag=>?_⟩
 ·have hle:onesT t0.Fo≤onesT v.Fo:=by
   cases hva:v.again with
   | true=>exact Nat.le_of_lt (hT hva)
   | false=>
    obtain⟨q1,q2,_⟩:=hC hva;rw[q2,hut q1];exact Nat.le_refl _
  have e1:=hg1.1;have e2:=hg2.1;rcases ha4 hag with h3 | h3 | ⟨h3,h4⟩
  ·have:=hT h3;omega
  ·have:=hg1.2 h3;omega
  ·have:=hg2.2 h3 h4;omega
 ·have hva:v.again=false:=by
   cases h:v.again with
   | false=>rfl
   | true=>rw[ha1 h] at hag;cases hag
  obtain⟨q1,q2,q3⟩:=hC hva;have e1:orRow (v.Fo.getD n []) (padF (g.terms+1) row)=v.Fo.getD n []:=Classical.byContradiction fun h=>by rw[ha2 h] at hag;cases hag
  have eF1:Fo1=v.Fo:=by rw[h1,e1,set_getD hn2]
  have e2:emp=true→orRow (v.Fo.getD n []) (v.Fo.getD r.left [])=v.Fo.getD n []:=fun hem=>Classical.byContradiction fun h=>by rw[ha3 hem (by rw[eF1];exact h)] at hag;cases hag
  have eF2:Fo2=v.Fo:=by
   rw[h2];split
   ·rename_i hem;rw[eF1,e2 hem,set_getD hn2]
   ·exact eF1
  refine⟨q1,by rw[eF2,q2],fun j hj=>?_⟩;rcases Nat.lt_or_ge j i with h6 | h6
  ·exact q3 j h6
  ·obtain rfl:j=i:=by omega
   intro n' hn';rw[hx] at hn';simp only[Option.some.injEq,Sym.mk.injEq,true_and] at hn';subst hn';rw[←q2];refine⟨fun t ht=>or_same (by rw[hv.row hn,hpl]) e1 (by rw[padF_get];exact(hb t).2 ht),fun hnul t ht=>or_same (by rw[hv.row hn,hv.row hlr]) (e2 (he.2 hnul)) ht⟩
theorem FwI.skip{g:Gram}{u v:FwS}{r:Rule}{i:Nat}{y:Sym}(hx:r.right[i]?=some y)(hy:y.term=true)(hC:v.again=false→u.again=false∧v.Fo=u.Fo∧∀j<i,SymCl g u.Fo r j):v.again=false→u.again=false∧v.Fo=u.Fo∧∀j<i+1,SymCl g u.Fo r j:=fun hag=>by
 obtain⟨q1,q2,q3⟩:=hC hag;refine⟨q1,q2,fun j hj=>?_⟩;rcases Nat.lt_or_ge j i with h6 | h6
 ·exact q3 j h6
 ·obtain rfl:j=i:=by omega
  intro n' hn';rw[hx] at hn';obtain rfl:=Option.some.inj hn';cases hy
theorem uniAny_spec(G:Frz){i1 i2:Nat}{xs zs:List Bool}{m c1 c2:Nat}{B:List (Nat×Blk)}(hB:∀i b,(i,b)∈B→G i=some b)(hm:m=xs.length)(hz:zs.length=m)(hmm:m≤1000000)
  (h:(i1=i2∧zs=xs)∨(i2,Blk.cells false (zs.map cBool.cell))∈B) (hc2:c2=if zs.length=0 then 0 else 1) :
  Abs.Spec CC 47 [.slice (some ⟨i1,0,none⟩) m c1,.slice (some ⟨i2,0,none⟩) m c2] G [[(i1,.cells false (xs.map cBool.cell))]] fun _ v o=>∃D',o=[D']∧D'=[(i1,.cells false ((orRow xs zs).map cBool.cell))]∧v=.bool (decide (orRow xs zs≠xs)):=by
 rcases h with ⟨rfl,rfl⟩ | h
 ·rw[orRow_self];refine(unionSelf_spec G hm hmm).mono fun F' v o _ ⟨D',h1,h2,h3⟩=>⟨D',h1,h2,?_⟩;rw[h3];simp
 ·have ha:=arr_of_cells (K:=cBool) (R:=tBool) (F:=G) (id:=i2) (row:=zs) (c:=if zs.length=0 then 0 else 1) (ro:=false) rfl (fun _ _=>rfl) rfl (hB i2 _ h);rw[hz] at ha;rw[hc2,hz];exact union_spec G hm ha zo hmm
theorem perm_lend{α:Type}{p q z y:α}{bs X own:List α}(h:bs.Perm (y::X)):(p::q::((z::bs)++own)).Perm ((z::X)++(y::p::q::own)):=by
 classical
 rw[List.perm_iff_count] at h ⊢;intro a;have:=h a;simp only[List.count_cons,List.count_append] at this ⊢;omega
theorem follow_spec(F:Frz)(g:Gram)(hg:Valid g){is:Nat}{a:Option Addr}{m c:Nat}{E:List Bool}{Fi:List (List Bool)}(hS:SetsF F is g a m c E Fi)(hFS:FSet g E Fi) :
  Abs.Spec CC 45 [.pointer (some ⟨is,0,none⟩)] F [] fun F' v o=>o=[]∧∃a' n' c' Fo,v=.slice a' n' c'∧Arr (tList tBool) F' a' n' c' Fo∧FolF g Fo:=by
 have hr:=hS.rules;have hrlen:=hr.len;have hgr:=hg.range.rules;have hgn:=hg.range.nons;have hgt:=hg.range.terms;have hgst:g.start<g.nons:=hg.range.start;obtain⟨ie,io0,ce,co,ro,hb0,hE0,hFi0⟩:=hS.blk;refine Abs.Spec.fn (n:=118) Tryd.func45 rfl rfl fun own=>?_;refine zC4 ?_;have hre:=reachedAll_spec F g hg hr;unfold gramCells at hre;refine WT.callF0 Tryd.func65 Z Z Z Z Z Z hre (fun F0 v hF0 hv=>?_);obtain⟨a3,c3,O,rfl,hO,hOR⟩:=hv;have hb0:=hF0 _ _ hb0;refine zC4 ?_;refine AW.range (S:=FS) (fun s=>[(5,.slice s.a s.m s.c)]) (fun s=>s.B::s.bs::own)
  (fun j s G=>Bld tRaw G s.a s.m s.c s.B s.vs∧Abs.Rows cBool s.vs s.bs (List.replicate j (List.replicate (g.terms+1) false))) g.nons ⟨none,0,0,[],[],[]⟩ Z Z Z Z Z Z Z Z Z zo rfl rfl (fun _=>rfl) (fun _=>rfl) sM (OwnLe.flat (List.Perm.refl _)) ⟨Bld.nil_ _ _,Abs.Rows.nil⟩ ?_ ?_
 ·intro j s F1 hF1 hj hP;obtain⟨hb,hR⟩:=hP;have hb1:=hF1 _ _ hb0;have hblen:=hb.len;have hvl:=hR.len.1;rw[List.length_replicate] at hvl;refine zC4 ?_;refine WT.makeT (l:=g.terms+1) hT Z Z Z Z Z Z Z Z Z Z Z Z zom (fun ir hir=>?_);rw[cap_eq];refine WT.buildT hT Z Z Z Z Z Z Z Z Z Z Z Z Z Z (fun i9 hi9=>?_);refine WT.appendT (R:=tRaw) (ys:=[.slice (some ⟨ir,0,none⟩) (g.terms+1) (if g.terms+1=0 then 0 else 1)]) hT 2 hb Z (fun _=>rfl) Z Z Z Z Z Z Z Z Z Z Z (fun h0 s0=>news_own hT s0 0 Z Z Z Z) (Cells.single (R:=tRaw) ⟨rfl,rfl⟩) Z (by decide) zom (fun a3 c3 B3 hB3=>?_);refine zC4 ?_
  refine⟨⟨a3,s.m+1,c3,B3,s.vs++[.slice (some ⟨ir,0,none⟩) (g.terms+1) (if g.terms+1=0 then 0 else 1)],s.bs++[(ir,.cells false (List.replicate (g.terms+1) (.bool false)))]⟩,sM,?_,hB3,?_⟩
  ·refine OwnLe.skip _ (OwnLe.flat ?_);simp only[List.flatten_cons,List.singleton_append];have:=perm_to_end (ir,Blk.cells false (List.replicate (g.terms+1) (.bool false))) B3 s.bs own.flatten;simpa using this
  ·rw[show List.replicate (j+1) (List.replicate (g.terms+1) false)=List.replicate j (List.replicate (g.terms+1) false)++[List.replicate (g.terms+1) false] from List.replicate_succ'];have:=hR.snoc (K:=cBool) (id:=ir) (row:=List.replicate (g.terms+1) false) (c:=if g.terms+1=0 then 0 else 1) (by simp);rw[List.length_replicate,List.map_replicate] at this;exact this
 ·intro s F1 hF1 hP;obtain⟨hb,hR⟩:=hP;have hb1:=hF1 _ _ hb0;have hvl:=hR.len.1;rw[List.length_replicate] at hvl;have hr1:=(hr.mono hF0).mono hF1;have hblen:=hb.len;obtain⟨io,cs,hia,hic,hiB,hcells,_⟩:=hb.at_.resolve_left (fun h=>by rw[h.1] at hvl;simp at hvl;omega);have hcs:=cells_raw hcells;subst hcs;have hic:s.c=1:=hic;refine AW.le (own2:=((io,.cells false s.vs)::s.bs)::own) (OwnLe.flat ?_) ?_
  ·rw[hiB];exact List.Perm.refl _
  rw[hia,hic,show s.m=g.nons by omega];obtain⟨id,cc,hvs,hbs,hcc⟩:=hR.at g.start (List.replicate (g.terms+1) false) (by rw[List.getElem?_replicate,if_pos hgst]);rw[List.length_replicate] at hvs;have hvs0:s.vs[0+g.start*1]?=some (.slice (some ⟨id,0,none⟩) (g.terms+1) cc):=by rw[Nat.zero_add,Nat.mul_one];exact hvs
  have hR0:=hR.set g.start (List.replicate (g.terms+1) false) ((List.replicate (g.terms+1) false).set g.terms true) id (by rw[List.getElem?_replicate,if_pos hgst]) (by simp) hbs;refine zC4 ?_;refine WT.idxA (j:=g.start) (s:=1) hT Z Z Z Z Z Z Z Z Z hgst ?_;refine WT.loadAt hT 0 Z Z Z Z Z Z me Z Z hvs0 ?_;refine zC4 ?_;refine WT.idxA (j:=g.terms) (s:=1) hT Z Z Z Z Z Z Z Z Z zo ?_;refine WT.storeAt hT 0 (g.start+1) Z Z Z Z Z Z hbs Z Z Z (by simp) Z Z ?_;refine zC4 ?_;refine AW.block ?_;refine AW.loopR (S:=FwS) (fun t=>[(6,.bool t.again)]) (fun t=>((io,.cells false s.vs)::t.bs)::own)
   (fun t G=>Abs.Rows cBool s.vs t.bs t.Fo∧FwI g t.Fo∧(t.again=false→∀r∈g.rules,Rch g r.left→∀j,SymCl g t.Fo r j)) (fun t=>if t.again=true then 1+(g.nons*(g.terms+1)-onesT t.Fo) else 0)
   ⟨(List.replicate g.nons (List.replicate (g.terms+1) false)).set g.start ((List.replicate (g.terms+1) false).set g.terms true),s.bs.set g.start (id,.cells false (((List.replicate (g.terms+1) false).set g.terms true).map cBool.cell)),true⟩
   sM (OwnLe.flat ?_) ⟨hR0,?_,fun h=>(by cases h)⟩ ?_
  ·dsimp only;rw[List.map_set,Nat.zero_add,Nat.mul_one];exact List.Perm.refl _
  ·refine⟨⟨by simp,fun row hrow=>?_⟩,fun n t ht=>?_,?_⟩
   ·rcases List.mem_or_eq_of_mem_set hrow with h1 | h1
    ·rw[List.eq_of_mem_replicate h1];simp
    ·rw[h1];simp
   ·rw[getD_setN (by simpa using hgst)] at ht;split at ht
    ·rename_i e;subst e;rcases set_get ht with rfl | h3
     ·exact .start
     ·exact absurd h3 zeros_get
    ·exfalso;rw[List.getD_eq_getElem?_getD (l:=List.replicate g.nons _),List.getElem?_replicate] at ht;split at ht
     ·exact absurd ht zeros_get
     ·simp at ht
   ·rw[getD_setN (by simpa using hgst),if_pos rfl];exact set_true (by simp)
  intro t F2 hF2 hP;obtain⟨hR,hI,hC⟩:=hP;have hr2:=hr1.mono hF2;have hb2:=hF2 _ _ hb1;have hO2:=(hO.mono hF1).mono hF2;refine zC4 ?_;refine AW.cond Z (fun h=>?_) (fun h=>?_)
  ·refine zC4 ?_;refine AW.block ?_;refine zC4 ?_;refine AW.range (S:=FwS) (fun t=>[(6,.bool t.again)]) (fun t=>((io,.cells false s.vs)::t.bs)::own)
    (fun k u G=>Abs.Rows cBool s.vs u.bs u.Fo∧FwI g u.Fo∧(u.again=true→onesT t.Fo<onesT u.Fo)∧(u.again=false→u.Fo=t.Fo∧∀r∈g.rules.take k,Rch g r.left→∀j,SymCl g t.Fo r j)) m ⟨t.Fo,t.bs,false⟩
    Z Z Z Z Z Z Z Z Z zo rfl rfl (fun _=>rfl) (fun _=>rfl) sM oR ⟨hR,hI,fun h=>(by cases h),fun _=>⟨rfl,by simp⟩⟩ ?_ ?_
   ·intro k u F3 hF3 hk hP;obtain⟨huR,huI,huT,huC⟩:=hP;have hr3:=hr2.mono hF3;have hb3:=hF3 _ _ hb2;have hO3:=hO2.mono hF3;have hOl:=hO3.len;refine zC4 ?_;refine WT.idxL hT hr3 Z Z Z Z Z Z Z Z Z zo (fun r hrk b1 off ro1 cs lx hb1' hp1 hrel=>?_);obtain⟨b2,n2,d2,rfl,hr4⟩:=hrel;obtain⟨hrl,hrr,hrs⟩:=hg.right r (gM hrk);have hr4l:=hr4.len;have htk:g.rules.take (k+1)=g.rules.take k++[r]:=by rw[List.take_add_one,hrk];rfl
    refine zC4 ?_;refine WT.allocT hT Z Z Z Z Z Z (fun i8 hi8=>?_);refine zC4 ?_;refine WT.idxL hT hO3 Z Z Z Z Z Z Z Z Z (by have:=hOR.len;omega) (fun e0 he0 b5 off5 ro5 cs5 lx5 hb5 hp5 hrel5=>?_);obtain rfl:lx5=_:=hrel5;have hgE:O.getD r.left false=e0:=by rw[List.getD_eq_getElem?_getD,he0];rfl
    refine zC4 ?_;refine AW.cond Z (fun h3=>?_) (fun h3=>?_)
    ·have h3:e0=false:=by simpa using h3
     refine AW.exit ?_;refine⟨u,sM,zow,huR,huI,huT,fun hag=>?_⟩;obtain⟨q1,q2⟩:=huC hag;refine⟨q1,fun r' hr'=>?_⟩;rw[htk] at hr';rcases List.mem_append.1 hr' with h4 | h4
     ·exact q2 r' h4
     ·rw[List.mem_singleton.1 h4];intro h5;rw[←hOR.at_,hgE,h3] at h5;cases h5
    ·have h3:e0=true:=by simpa using h3
     have hRch:Rch g r.left:=(hOR.at_ _).1 (by rw[hgE,h3]);refine zC4 ?_;refine AW.range (S:=FwS) (fun t=>[(6,.bool t.again)]) (fun t=>[(i8,.cells false [.int .i64 r.left,.slice b2 n2 d2])]::((io,.cells false s.vs)::t.bs)::own)
      (fun i v G=>Abs.Rows cBool s.vs v.bs v.Fo∧FwI g v.Fo∧(v.again=true→onesT t.Fo<onesT v.Fo)∧(v.again=false→u.again=false∧v.Fo=u.Fo∧∀j<i,SymCl g u.Fo r j)) n2 u
      Z Z Z Z Z Z Z Z Z zo rfl rfl (fun _=>rfl) (fun _=>rfl) sM oR ⟨huR,huI,huT,fun h=>⟨h,rfl,fun j hj=>absurd hj (Nat.not_lt_zero _)⟩⟩ ?_ ?_
     ·intro i v F4 hF4 hi hP;obtain⟨hvR,hvI,hvT,hvC⟩:=hP;have hr5:=hr4.mono hF4;have hb4:=hF4 _ _ hb3;refine zC4 ?_;refine WT.idxL hT hr5 Z Z Z Z Z Z Z Z Z zo (fun y hyi b5 off5 ro5 cs5 lx5 hb5 hp5 hrel5=>?_);obtain rfl:lx5=_:=hrel5;obtain⟨yt,yn⟩:=y;have hyo:=hrs _ (gM hyi);refine zC4 ?_;refine WT.allocT hT Z Z Z Z Z Z (fun i10 hi10=>?_);refine zC4 ?_;refine AW.cond Z (fun h4=>?_) (fun h4=>?_)
      ·have h4:yt=true:=by simpa using h4
       refine AW.exit ?_;exact⟨v,sM,zow,hvR,hvI,hvT,FwI.skip hyi h4 hvC⟩
      ·have h4:yt=false:=by simpa using h4
       subst h4;have hyn:yn<g.nons:=hyo;refine zC4 ?_;obtain⟨ra,rc,hrs2,hra⟩:=hr5.slice (C:=CC) (lo:=i+1) (hi:=n2) zo (Nat.le_refl _) hT (t:=52) Z Z Z (some (.int .i64 ((i+1:Nat):Int))) none (by simp[boundA];omega) rfl;refine WT.slice Z Z Z Z Z Z Z Z hrs2 ?_;rw[List.take_of_length_le zo] at hra;have hF34:=((((hF0.trans hF1).trans hF2).trans hF3).trans hF4);have hlst:=hFS.list (l:=r.right.drop (i+1)) (fun y hy=>hrs y (List.mem_of_mem_drop hy))
       refine WT.callN Tryd.func46 Z Z Z Z Z Z (sof_spec F4 hb4 (hE0.mono hF34) (hFi0.mono hF34) hS.row zo hra zo (fun y hy=>hrs y (List.mem_of_mem_drop hy))) (fun F5 w B5 hF5 hv=>?_);obtain⟨ir,rfl,hrl5,rfl⟩:=hv;refine WT.freezeAll 0 Z Z (fun F6 hF6 hB6=>?_);have hrow:Arr tBool F6 (some ⟨ir,0,none⟩) g.terms (if g.terms=0 then 0 else 1) (ofRow E Fi (List.replicate g.terms false) (r.right.drop (i+1))).1:=by
        have:=arr_of_cells (K:=cBool) (R:=tBool) (F:=F6) (id:=ir) (row:=(ofRow E Fi (List.replicate g.terms false) (r.right.drop (i+1))).1) (c:=if (ofRow E Fi (List.replicate g.terms false) (r.right.drop (i+1))).1.length=0 then 0 else 1) (ro:=false) rfl (fun _ _=>rfl) rfl (hB6 ir _ me);rw[hrl5] at this;exact this
       generalize ofRow E Fi (List.replicate g.terms false) (r.right.drop (i+1))=fr at hlst hrow hrl5 ⊢;obtain⟨row,emp⟩:=fr;dsimp only at hlst hrow hrl5;have hnl:yn<v.Fo.length:=by rw[hvI.tab.size];exact hyn
       have hrow0:v.Fo[yn]?=some (v.Fo.getD yn []):=by rw[List.getD_eq_getElem?_getD,gE hnl];rfl
       have holdl:=hvI.row hyn;obtain⟨id1,cc1,hvs1,hbs1,hcc1⟩:=hvR.at yn _ hrow0;have hst:=fun (Fo2:List (List Bool)) (h2:Fo2=if emp=true then (v.Fo.set yn (orRow (v.Fo.getD yn []) (padF (g.terms+1) row))).set yn (orRow ((v.Fo.set yn (orRow (v.Fo.getD yn []) (padF (g.terms+1) row))).getD yn []) ((v.Fo.set yn (orRow (v.Fo.getD yn []) (padF (g.terms+1) row))).getD r.left [])) else v.Fo.set yn (orRow (v.Fo.getD yn []) (padF (g.terms+1) row))) (ag:Bool)=>FwI.step (t0:=t) (u:=u) (v:=v) (gM hrk) hRch hrl hyi hyn hvI hvT (fun h=>(huC h).1) hvC hrl5 hlst.1 hlst.2 rfl h2 (ag:=ag)
       generalize hold:v.Fo.getD yn []=old at hrow0 holdl hvs1 hbs1 hst;have hpl:(padF (g.terms+1) row).length=g.terms+1:=padF_len zo;have hR1:=hvR.set yn old (orRow old (padF (g.terms+1) row)) id1 hrow0 (by rw[orRow_len zo]) hbs1;rw[holdl] at hvs1;have hvs1':s.vs[0+yn*1]?=some (.slice (some ⟨id1,0,none⟩) (g.terms+1) cc1):=by rw[Nat.zero_add,Nat.mul_one];exact hvs1
       refine zC4 ?_;refine WT.idxA (j:=yn) (s:=1) hT Z Z Z Z Z Z Z Z Z hyn ?_;refine WT.loadAt hT 3 Z Z Z Z Z Z me Z Z hvs1' ?_;refine zC4 ?_;have hpk:=perm_pick hbs1;have hn1:(v.Fo.set yn (orRow old (padF (g.terms+1) row))).getD yn []=orRow old (padF (g.terms+1) row):=by rw[getD_setN hnl,if_pos rfl]
       rw[hn1] at hst;have hnewl:(orRow old (padF (g.terms+1) row)).length=g.terms+1:=by rw[orRow_len zo];exact holdl
       refine WT.le (own2:=((io,.cells false s.vs)::v.bs.eraseIdx yn)::[(id1,.cells false (old.map cBool.cell))]::[(i10,.cells false [.bool false,.int .i64 yn])]::[(i8,.cells false [.int .i64 r.left,.slice b2 n2 d2])]::own) (OwnLe.flat (perm_lend hpk)) ?_
       refine WT.callLend1 (upd:=fun D'=>((io,.cells false s.vs)::v.bs.eraseIdx yn)::D'::[(i10,.cells false [.bool false,.int .i64 yn])]::[(i8,.cells false [.int .i64 r.left,.slice b2 n2 d2])]::own) 0 1 Tryd.func47 Z Z Z Z Z Z (List.Perm.refl _) (fun _=>List.Perm.refl _) (fun G hG hBG=>union2_spec G (it:=id1) (xs:=old) (ys:=row) (m:=g.terms+1) zo (hrow.mono hG) zo zo) (fun w D hw=>?_);obtain⟨rfl,rfl⟩:=hw;rw[holdl];generalize orRow old (padF (g.terms+1) row)=new1 at hst hR1 hnewl ⊢
       refine WT.le (own2:=[(i10,.cells false [.bool false,.int .i64 yn])]::[(i8,.cells false [.int .i64 r.left,.slice b2 n2 d2])]::((io,.cells false s.vs)::v.bs.set yn (id1,.cells false (new1.map cBool.cell)))::own) (OwnLe.flat (perm_lend (perm_set (id1,Blk.cells false (new1.map cBool.cell)) hbs1)).symm) ?_;have hbl:=(gS hbs1).1;have hbs1':(v.bs.set yn (id1,Blk.cells false (new1.map cBool.cell)))[yn]?=some (id1,.cells false (new1.map cBool.cell)):=List.getElem?_set_self hbl;generalize hbs1e:v.bs.set yn (id1,Blk.cells false (new1.map cBool.cell))=bs1 at hR1 hbs1' ⊢
       have hl1:r.left<(v.Fo.set yn new1).length:=by rw[List.length_set,hvI.tab.size];exact hrl
       have hrow1:(v.Fo.set yn new1)[yn]?=some new1:=List.getElem?_set_self hnl;have hrow2:(v.Fo.set yn new1)[r.left]?=some ((v.Fo.set yn new1).getD r.left []):=by rw[List.getD_eq_getElem?_getD,gE hl1];rfl
       have hzsl:((v.Fo.set yn new1).getD r.left []).length=g.terms+1:=by
        rw[getD_setN hnl];split
        ·exact hnewl
        ·exact hvI.row hrl
       have hzsn:r.left=yn→(v.Fo.set yn new1).getD r.left []=new1:=fun e=>by rw[getD_setN hnl,if_pos e]
       generalize hFo1:v.Fo.set yn new1=Fo1 at hst hR1 hrow1 hrow2 hzsl hzsn ⊢;generalize Fo1.getD r.left []=zs at hst hrow2 hzsl hzsn ⊢;obtain⟨id2,cc2,hvs2,hbs2,hcc2⟩:=hR1.at r.left zs hrow2;rw[hzsl] at hvs2;have hvs2':s.vs[0+r.left*1]?=some (.slice (some ⟨id2,0,none⟩) (g.terms+1) cc2):=by rw[Nat.zero_add,Nat.mul_one];exact hvs2
       have hR2:=hR1.set yn new1 (orRow new1 zs) id1 hrow1 (by rw[orRow_len zo]) hbs1';have hself:(id1=id2∧zs=new1)∨(id2,Blk.cells false (zs.map cBool.cell))∈((io,.cells false s.vs)::bs1.eraseIdx yn):=by
        by_cases e:r.left=yn
        ·left;refine⟨?_,hzsn e⟩;rw[e,hvs1] at hvs2;simp only[Option.some.injEq,Value.slice.injEq,Addr.mk.injEq] at hvs2;exact hvs2.1.1
        ·right;exact List.mem_cons_of_mem _ (List.mem_eraseIdx_iff_getElem?.2 ⟨r.left,e,hbs2⟩)
       refine zC4 ?_;refine WT.split 97 Z (fun h7=>?_) (fun h7=>?_)
       ·have h7:new1≠old:=of_decide_eq_true h7;refine zC4 ?_;refine AW.cond Z (fun h5=>?_) (fun h5=>?_)
        ·have h5:emp=true:=h5;refine zC4 ?_;refine WT.idxA (j:=yn) (s:=1) hT Z Z Z Z Z Z Z Z Z hyn ?_;refine WT.loadAt hT 2 Z Z Z Z Z Z me Z Z hvs1' ?_;refine zC4 ?_;refine WT.idxA (j:=r.left) (s:=1) hT Z Z Z Z Z Z Z Z Z hrl ?_;refine WT.loadAt hT 2 Z Z Z Z Z Z me Z Z hvs2' ?_;refine WT.le (own2:=((io,.cells false s.vs)::bs1.eraseIdx yn)::[(id1,.cells false (new1.map cBool.cell))]::[(i10,.cells false [.bool false,.int .i64 yn])]::[(i8,.cells false [.int .i64 r.left,.slice b2 n2 d2])]::own) (OwnLe.flat (perm_lend (perm_pick hbs1'))) ?_
         refine WT.callLend1 (upd:=fun D'=>((io,.cells false s.vs)::bs1.eraseIdx yn)::D'::[(i10,.cells false [.bool false,.int .i64 yn])]::[(i8,.cells false [.int .i64 r.left,.slice b2 n2 d2])]::own) 0 1 Tryd.func47 Z Z Z Z Z Z (List.Perm.refl _) (fun _=>List.Perm.refl _) (fun G hG hBG=>uniAny_spec G (i1:=id1) (i2:=id2) (xs:=new1) (zs:=zs) (m:=g.terms+1) hBG hnewl.symm hzsl zo hself hcc2) (fun w D hw=>?_);obtain⟨rfl,rfl⟩:=hw
         refine WT.le (own2:=[(i10,.cells false [.bool false,.int .i64 yn])]::[(i8,.cells false [.int .i64 r.left,.slice b2 n2 d2])]::((io,.cells false s.vs)::bs1.set yn (id1,.cells false ((orRow new1 zs).map cBool.cell)))::own) (OwnLe.flat (perm_lend (perm_set (id1,Blk.cells false ((orRow new1 zs).map cBool.cell)) hbs1')).symm) ?_;refine zC4 ?_;refine WT.split 112 Z (fun h6=>?_) (fun h6=>?_)
         ·have h6:orRow new1 zs≠new1:=of_decide_eq_true h6;refine zC4 ?_;exact⟨⟨Fo1.set yn (orRow new1 zs),bs1.set yn (id1,.cells false ((orRow new1 zs).map cBool.cell)),true⟩,sM,zow,hR2,hst _ (by rw[if_pos h5]) true (fun _=>rfl) (fun _=>rfl) (fun _ _=>rfl) (fun _=>.inr (.inr ⟨h5,h6⟩))⟩
         ·have h6:orRow new1 zs=new1:=by simpa using h6
          refine zC4 ?_;exact⟨⟨Fo1.set yn (orRow new1 zs),bs1.set yn (id1,.cells false ((orRow new1 zs).map cBool.cell)),true⟩,sM,zow,hR2,hst _ (by rw[if_pos h5]) true (fun _=>rfl) (fun _=>rfl) (fun _ h=>absurd h6 h) (fun _=>.inr (.inl h7))⟩
        ·have h5:emp=false:=h5;refine zC4 ?_;exact⟨⟨Fo1,bs1,true⟩,sM,zow,hR1,hst _ (by rw[if_neg (by rw[h5];simp)]) true (fun _=>rfl) (fun _=>rfl) (fun h=>by rw[h5] at h;cases h) (fun _=>.inr (.inl h7))⟩
       ·have h7:new1=old:=by simpa using h7
        refine zC4 ?_;refine AW.cond Z (fun h5=>?_) (fun h5=>?_)
        ·have h5:emp=true:=h5;refine zC4 ?_;refine WT.idxA (j:=yn) (s:=1) hT Z Z Z Z Z Z Z Z Z hyn ?_;refine WT.loadAt hT 2 Z Z Z Z Z Z me Z Z hvs1' ?_;refine zC4 ?_;refine WT.idxA (j:=r.left) (s:=1) hT Z Z Z Z Z Z Z Z Z hrl ?_;refine WT.loadAt hT 2 Z Z Z Z Z Z me Z Z hvs2' ?_;refine WT.le (own2:=((io,.cells false s.vs)::bs1.eraseIdx yn)::[(id1,.cells false (new1.map cBool.cell))]::[(i10,.cells false [.bool false,.int .i64 yn])]::[(i8,.cells false [.int .i64 r.left,.slice b2 n2 d2])]::own) (OwnLe.flat (perm_lend (perm_pick hbs1'))) ?_
         refine WT.callLend1 (upd:=fun D'=>((io,.cells false s.vs)::bs1.eraseIdx yn)::D'::[(i10,.cells false [.bool false,.int .i64 yn])]::[(i8,.cells false [.int .i64 r.left,.slice b2 n2 d2])]::own) 0 1 Tryd.func47 Z Z Z Z Z Z (List.Perm.refl _) (fun _=>List.Perm.refl _) (fun G hG hBG=>uniAny_spec G (i1:=id1) (i2:=id2) (xs:=new1) (zs:=zs) (m:=g.terms+1) hBG hnewl.symm hzsl zo hself hcc2) (fun w D hw=>?_);obtain⟨rfl,rfl⟩:=hw
         refine WT.le (own2:=[(i10,.cells false [.bool false,.int .i64 yn])]::[(i8,.cells false [.int .i64 r.left,.slice b2 n2 d2])]::((io,.cells false s.vs)::bs1.set yn (id1,.cells false ((orRow new1 zs).map cBool.cell)))::own) (OwnLe.flat (perm_lend (perm_set (id1,Blk.cells false ((orRow new1 zs).map cBool.cell)) hbs1')).symm) ?_;refine zC4 ?_;refine WT.split 112 Z (fun h6=>?_) (fun h6=>?_)
         ·have h6:orRow new1 zs≠new1:=of_decide_eq_true h6;refine zC4 ?_;exact⟨⟨Fo1.set yn (orRow new1 zs),bs1.set yn (id1,.cells false ((orRow new1 zs).map cBool.cell)),true⟩,sM,zow,hR2,hst _ (by rw[if_pos h5]) true (fun _=>rfl) (fun _=>rfl) (fun _ _=>rfl) (fun _=>.inr (.inr ⟨h5,h6⟩))⟩
         ·have h6:orRow new1 zs=new1:=by simpa using h6
          refine zC4 ?_;exact⟨⟨Fo1.set yn (orRow new1 zs),bs1.set yn (id1,.cells false ((orRow new1 zs).map cBool.cell)),v.again⟩,sM,zow,hR2,hst _ (by rw[if_pos h5]) v.again (fun h=>h) (fun h=>absurd h7 h) (fun _ h=>absurd h6 h) (fun h=>.inl h)⟩
        ·have h5:emp=false:=h5;refine zC4 ?_;exact⟨⟨Fo1,bs1,v.again⟩,sM,zow,hR1,hst _ (by rw[if_neg (by rw[h5];simp)]) v.again (fun h=>h) (fun h=>absurd h7 h) (fun h=>by rw[h5] at h;cases h) (fun h=>.inl h)⟩
     ·intro v F4 hF4 hP;obtain⟨hvR,hvI,hvT,hvC⟩:=hP;refine⟨v,sM,zow,hvR,hvI,hvT,fun hag=>?_⟩;obtain⟨q1,q2,q3⟩:=hvC hag;obtain⟨q4,q5⟩:=huC q1;refine⟨by rw[q2,q4],fun r' hr'=>?_⟩;rw[htk] at hr';rcases List.mem_append.1 hr' with h6 | h6
      ·exact q5 r' h6
      ·rw[List.mem_singleton.1 h6];intro _ j;rw[←q4];rcases Nat.lt_or_ge j n2 with h7 | h7
       ·exact q3 j h7
       ·intro n' hn';rw[List.getElem?_eq_none zo] at hn';cases hn'
   ·intro u F3 hF3 hP;obtain⟨huR,huI,huT,huC⟩:=hP;rw[List.take_of_length_le zo] at huC;refine⟨u,?_,sM,zow,huR,huI,fun hag=>?_⟩
    ·have h1:=onesT_le huI.tab;rw[h,if_pos rfl];split
     ·rename_i h4;have:=huT h4;omega
     ·omega
    ·obtain⟨q1,q2⟩:=huC hag;rw[q1];exact q2
  ·refine AW.exit ?_;refine AW.freezeAll 0 Z Z (fun F3 hF3 hB3=>?_);refine zC4 ?_;have hFa:=Abs.Rows.arr (K:=cBool) (R:=tBool) rfl (fun _ _=>rfl) (F:=F3) (o:=io) (c:=if t.Fo.length=0 then 0 else 1) (ro:=false) hR (fun i b hm=>hB3 i b (by simp[hm])) rfl (hB3 io _ (by simp));rw[hI.tab.size,if_neg zo] at hFa;exact AW.ret ⟨_,[],⟨_,_,rfl,rfl,rfl⟩,zsb,rfl,_,_,_,t.Fo,rfl,hFa,.of hI (hC h)⟩
def RowP(g:Gram)(r:Rule)(row:List Bool):Prop:=row.length=g.terms+1∧∀t,row.getD t false=true↔Can g r t
theorem cells_bool{F:Frz}:∀{xs:List Bool} {cs:List Value},Cells tBool F cs xs→cs=xs.map cBool.cell:=by
 intro xs cs h
 induction h with
 | nil=>rfl
 | cons h1 _ ih=>
  rw[List.map_cons,←ih,show _=_ from h1];rfl
theorem boolCells2{F:Frz}:∀K:List Bool,Cells tBool F (K.map cBool.cell) K
 | []=>.nil
 | b::K=>Cells.cons (l:=[.bool b]) rfl (boolCells2 K)
theorem getD_snoc{l:List Bool}{t:Nat}:(l++[false]).getD t false=true↔l.getD t false=true:=by
 rw[List.getD_eq_getElem?_getD,List.getD_eq_getElem?_getD];rcases Nat.lt_trichotomy t l.length with h | h | h
 ·rw[List.getElem?_append_left h]
 ·subst h;rw[List.getElem?_append_right (Nat.le_refl _),Nat.sub_self,List.getElem?_eq_none (l:=l) (Nat.le_refl _)];rfl
 ·rw[List.getElem?_eq_none (by simp;omega),List.getElem?_eq_none zo]
theorem snoc_rows{g:Gram}{P:List (List Bool)}{j:Nat}{r:Rule}{row:List Bool}(hl:P.length=j)(hP:∀i r,i<j→g.rules[i]?=some r→RowP g r (P.getD i []))(hr:g.rules[j]?=some r)(h:RowP g r row) :
  ∀i r',i<j+1→g.rules[i]?=some r'→RowP g r' ((P++[row]).getD i []):=by
 intro i r' hi hr';rw[List.getD_eq_getElem?_getD];by_cases e:i=j
 ·subst e;rw[hr] at hr';obtain rfl:=Option.some.inj hr';rw[List.getElem?_append_right zo,hl,Nat.sub_self];exact h
 ·rw[List.getElem?_append_left zo,←List.getD_eq_getElem?_getD];exact hP i r' zo hr'
structure PdS where
 a:Option Addr
 m:Nat
 c:Nat
 B:List (Nat×Blk)
 P:List (List Bool)
theorem predict_spec(F:Frz)(g:Gram)(hg:Valid g)(ht0:0<g.terms){a:Option Addr}{m c:Nat}(hr:Arr tRule F a m c g.rules) :
  Abs.Spec CC 17 [.agg ⟨gramCells g a m c⟩] F [] fun F' v o=>o=[]∧∃a' n' c' P,v=.tuple ⟨[.slice a' n' c',.int .i64 0]⟩∧Arr (tList tBool) F' a' n' c' P∧P.length=g.rules.length∧
   ∀i r,g.rules[i]?=some r→RowP g r (P.getD i []):=by
 have hml:=hr.len;have hgr:=hg.range.rules;have hgt:=hg.range.terms;have hgn:=hg.range.nons;unfold gramCells;refine Abs.Spec.fn (n:=52) Tryd.func17 rfl rfl fun own=>?_;refine AW.seq (AW.reg ?_);refine WT.boxT Z Z Z Z Z Z (fun i1 hi1=>?_);refine WT.freezeAll 0 Z Z (fun F0 hF0 hB0=>?_);have hi1:=hB0 i1 _ me;have hr:=hr.mono hF0;have hck:=check_spec F0 g hg.range hr;have hmk:=make2_spec F0 g hg hr;rw[hg.no_err] at hck;unfold gramCells at hck hmk;refine zC4 ?_;refine WT.callV Tryd.func32 Z Z Z Z Z Z hck (fun v hv=>?_);subst hv;refine zC4 ?_;refine AW.cond Z (fun h=>(by cases h)) (fun _=>?_)
 refine zC4 ?_;refine WT.callF0 Tryd.func44 Z Z Z Z Z Z hmk (fun F1 v hF1 hv=>?_);obtain⟨is,E,Fi,rfl,hS,hFS⟩:=hv;have hr1:=hr.mono hF1;have hi1:=hF1 _ _ hi1;refine zC4 ?_;refine WT.callF0 Tryd.func45 Z Z Z Z Z Z (follow_spec F1 g hg hS hFS) (fun F2 v hF2 hv=>?_);obtain⟨fa,fn,fc,Fo,rfl,hFo,hFoF⟩:=hv;have hr2:=hr1.mono hF2;have hi1:=hF2 _ _ hi1;obtain⟨ie,io,ce,co,ro,hb0,hE0,hFi0⟩:=hS.blk;have hfl:=hFo.len;have hFsz:=hFoF.tab.size;refine zC4 ?_;refine AW.range (S:=PdS) (fun s=>[(7,.slice s.a s.m s.c)]) (fun s=>s.B::own)
  (fun j s G=>Bld (tList tBool) G s.a s.m s.c s.B s.P∧s.P.length=j∧∀i r,i<j→g.rules[i]?=some r→RowP g r (s.P.getD i [])) m ⟨none,0,0,[],[]⟩ Z Z Z Z Z Z Z Z Z zo rfl rfl (fun _=>rfl) (fun _=>rfl) sM (OwnLe.flat (List.Perm.refl _)) ⟨Bld.nil_ _ _,rfl,fun i r h=>by omega⟩ ?_ ?_
 ·intro j s F3 hF3 hj hP;obtain⟨hb,hPl,hPr⟩:=hP;have hr3:=hr2.mono hF3;have hF23:=hF2.trans hF3;have hblen:=hb.len;refine zC4 ?_;refine WT.idxL hT hr3 Z Z Z Z Z Z Z Z Z zo (fun r hrk b1 off ro1 cs1 lx1 hb1 hp1 hrel=>?_);obtain⟨b2,n2,d2,rfl,hr4⟩:=hrel;obtain⟨hrl,hrr,hrs⟩:=hg.right r (gM hrk);have hr4l:=hr4.len;refine zC4 ?_;refine WT.allocT hT Z Z Z Z Z Z (fun i9 hi9=>?_);refine zC4 ?_;have hlst:=hFS.list (l:=r.right) hrs;refine WT.callN Tryd.func46 Z Z Z Z Z Z (sof_spec F3 (hF23 _ _ hb0) (hE0.mono hF23) (hFi0.mono hF23) hS.row zo hr4 zo hrs) (fun F5 v B5 hF5 hv=>?_);obtain⟨ir,rfl,hrl5,rfl⟩:=hv
  generalize ofRow E Fi (List.replicate g.terms false) r.right=fr at hlst hrl5 ⊢;obtain⟨row,emp⟩:=fr;dsimp only at hlst hrl5;have hbr:Bld tBool F5 (some ⟨ir,0,none⟩) g.terms 1 [(ir,.cells false (row.map cBool.cell))] row:=⟨hrl5.symm,.inr ⟨ir,_,rfl,rfl,rfl,boolCells2 row,by decide⟩⟩;rw[if_neg zo];refine zC4 ?_;refine WT.buildT hT Z Z Z Z Z Z Z Z Z Z Z Z Z Z (fun i36 hi36=>?_);refine WT.appendT (R:=tBool) (ys:=[false]) hT 1 hbr Z (fun _=>rfl) Z Z Z Z Z Z Z Z Z Z Z (fun h0 s0=>news_own hT s0 0 Z Z Z Z) (Cells.single (R:=tBool) rfl) Z (by decide) zom (fun a6 c6 B6 hB6=>?_)
  obtain⟨i6,cs6,rfl,hc6,rfl,hcells6,_⟩:=hB6.at_.resolve_left (fun h=>by simp at h);have hcs6:=cells_bool hcells6;subst hcs6;have hc6:c6=1:=hc6;subst hc6;have hlen6:(row++[false]).length=g.terms+1:=by rw[List.length_append];simp;omega
  have hrow6:∀t,(row++[false]).getD t false=true↔BegL g r.right t:=fun t=>by rw[getD_snoc];exact hlst.1 t
  refine zC4 ?_;refine AW.cond Z (fun he=>?_) (fun he=>?_)
  ·have hnul:=hlst.2.1 he;have hFo5:=(hFo.mono hF3).mono hF5;refine zC4 ?_;refine WT.idxL hT hFo5 Z Z Z Z Z Z Z Z Z zo (fun fo hfo b3 off3 ro3 cs3 lx3 hb3 hp3 hrel3=>?_);obtain⟨b4,n4,d4,rfl,hfo4⟩:=hrel3;have hfol:=hFoF.tab.row fo (gM hfo);have hfl4:=hfo4.len;have hfoD:Fo.getD r.left []=fo:=by rw[List.getD_eq_getElem?_getD,hfo];rfl
   have hfat:∀t,fo.getD t false=true↔Fol g r.left t:=fun t=>by rw[←hfoD];exact hFoF.at_ r.left t
   refine zC4 ?_;refine WT.call1 1 Tryd.func47 Z Z Z Z Z Z Z (fun _=>rfl) (union_spec F5 (it:=i6) (xs:=row++[false]) (m:=g.terms+1) zo hfo4 zo zo) (fun v B hv=>?_);obtain⟨rfl,rfl⟩:=hv;have hnewl:(orRow (row++[false]) fo).length=g.terms+1:=by rw[orRow_len zo];exact hlen6
   have hnew:RowP g r (orRow (row++[false]) fo):=⟨hnewl,fun t=>⟨fun h=>(orRow_get h).elim (fun h=>.inl ((hrow6 t).1 h)) (fun h=>.inr ⟨hnul,(hfat t).1 h⟩),fun h=>orRow_left zo (h.elim (fun h=>.inl ((hrow6 t).2 h)) fun h=>.inr ((hfat t).2 h.2))⟩⟩;refine WT.freezeAll 1 Z Z (fun F6 hF6 hBf=>?_);have hrowA:Arr tBool F6 (some ⟨i6,0,none⟩) (g.terms+1) 1 (orRow (row++[false]) fo):=by
    have:=arr_of_cells (K:=cBool) (R:=tBool) (F:=F6) (id:=i6) (row:=orRow (row++[false]) fo) (c:=1) (ro:=false) rfl (fun _ _=>rfl) (by rw[hnewl];rfl) (hBf i6 _ me);rw[hnewl] at this;exact this
   refine zC4 ?_;refine WT.buildT hT Z Z Z Z Z Z Z Z Z Z Z Z Z Z (fun i48 hi48=>?_);refine WT.appendT (R:=tList tBool) (ys:=[orRow (row++[false]) fo]) hT 4 (hb.mono (hF5.trans hF6)) Z (fun _=>rfl) Z Z Z Z Z Z Z Z Z Z Z (fun h0 s0=>news_own hT s0 0 Z Z Z Z) (Cells.single (R:=tList tBool) ⟨_,_,_,rfl,hrowA⟩) Z (by decide) zom (fun a7 c7 B7 hB7=>?_);refine zC4 ?_;exact⟨⟨a7,s.m+1,c7,B7,s.P++[orRow (row++[false]) fo]⟩,sM,zow,hB7,by simp[hPl],snoc_rows hPl hPr hrk hnew⟩
  ·have hnew:RowP g r (row++[false]):=⟨hlen6,fun t=>⟨fun h=>.inl ((hrow6 t).1 h),fun h=>(hrow6 t).2 (h.resolve_right fun h=>by
    have:=hlst.2.2 h.1;simp at he;rw[he] at this;cases this)⟩⟩
   refine zC4 ?_;refine WT.freezeAll 1 Z Z (fun F6 hF6 hBf=>?_);have hrowA:Arr tBool F6 (some ⟨i6,0,none⟩) (g.terms+1) 1 (row++[false]):=by
    have:=arr_of_cells (K:=cBool) (R:=tBool) (F:=F6) (id:=i6) (row:=row++[false]) (c:=1) (ro:=false) rfl (fun _ _=>rfl) (by rw[hlen6];rfl) (hBf i6 _ me);rw[hlen6] at this;exact this
   refine WT.buildT hT Z Z Z Z Z Z Z Z Z Z Z Z Z Z (fun i48 hi48=>?_);refine WT.appendT (R:=tList tBool) (ys:=[row++[false]]) hT 4 (hb.mono (hF5.trans hF6)) Z (fun _=>rfl) Z Z Z Z Z Z Z Z Z Z Z (fun h0 s0=>news_own hT s0 0 Z Z Z Z) (Cells.single (R:=tList tBool) ⟨_,_,_,rfl,hrowA⟩) Z (by decide) zom (fun a7 c7 B7 hB7=>?_);refine zC4 ?_;exact⟨⟨a7,s.m+1,c7,B7,s.P++[row++[false]]⟩,sM,zow,hB7,by simp[hPl],snoc_rows hPl hPr hrk hnew⟩
 ·intro s F3 hF3 hP;obtain⟨hb,hPl,hPr⟩:=hP;refine AW.freezeAll 0 Z Z (fun F4 hF4 hB4=>?_);refine zC4 ?_;have:=hb.frozen hF4 hB4;exact AW.ret ⟨_,[],⟨_,_,rfl,⟨_,_,rfl,rfl,rfl⟩,rfl⟩,zsb,rfl,_,_,_,_,rfl,this,by omega,fun i r hi=>hPr i r (by have:=(gS hi).1;omega) hi⟩
def candB(g:Gram)(P:List (List Bool))(n t i:Nat):Bool:=(match g.rules[i]? with | some r=>decide (r.left=n) | none=>false)&&(P.getD i []).getD t false
def candsF(g:Gram)(P:List (List Bool))(n t k:Nat):List Nat:=(List.range k).filter (candB g P n t)
def entF(l:List Nat):Int:=match l with
 | []=>-1
 | i::_=>i
theorem candsF_succ(g:Gram)(P:List (List Bool))(n t k:Nat):candsF g P n t (k+1)=candsF g P n t k++(if candB g P n t k=true then [k] else []):=by
 unfold candsF;rw[List.range_succ,List.filter_append];congr 1;rw[List.filter_cons];rfl
def fewC(g:Gram)(P:List (List Bool))(n t:Nat):Prop:=(candsF g P n t g.rules.length).length≤1
def tabP(g:Gram)(P:List (List Bool))(n t:Nat):Option Nat:=if n<g.nons∧t≤g.terms then (candsF g P n t g.rules.length).head? else none
theorem Fol.le{g:Gram}(hg:Valid g){n t:Nat}(h:Fol g n t):t≤g.terms:=by
 induction h with
 | start=>exact Nat.le_refl _
 | beg hr hR e hb=>
  have hs:=(hg.right _ hr).2.2;rw[e] at hs;exact Nat.le_of_lt (hb.lt hg fun s hm=>hs s (List.mem_append_right _ (List.mem_cons_of_mem _ hm)))
 | pass _ _ _ _ _ ih=>exact ih
theorem llok_of{g:Gram}(hg:Valid g){P:List (List Bool)}(hP:∀i r,g.rules[i]?=some r→RowP g r (P.getD i []))(hno:∀n t,n<g.nons→t≤g.terms→fewC g P n t):LLok g (tabP g P):=by
 constructor
 ·intro n t k h;unfold tabP at h;split at h
  ·have hm:=List.mem_of_mem_head? h;unfold candsF at hm;rw[List.mem_filter,List.mem_range] at hm;obtain⟨hk,hc⟩:=hm;unfold candB at hc;have hr:=gE hk;rw[hr] at hc;simp only[Bool.and_eq_true,decide_eq_true_eq] at hc;exact⟨_,hr,hc.1,((hP _ _ hr).2 t).1 hc.2⟩
  ·cases h
 ·intro k t r hr hc;have hrm:=gM hr;have hl:=(hg.right r hrm).1;have ht:t≤g.terms:=hc.elim (fun h=>Nat.le_of_lt (h.lt hg (hg.right r hrm).2.2)) fun h=>h.2.le hg;have hm:k∈candsF g P r.left t g.rules.length:=by
   unfold candsF;rw[List.mem_filter,List.mem_range];refine⟨(gS hr).1,?_⟩;unfold candB;rw[hr];simp only[Bool.and_eq_true,decide_eq_true_eq];exact⟨trivial,((hP _ _ hr).2 t).2 hc⟩
  unfold tabP;rw[if_pos ⟨hl,ht⟩];have hf:=hno r.left t hl ht;unfold fewC at hf
  match hq:candsF g P r.left t g.rules.length with
  | []=>rw[hq] at hm;cases hm
  | [x]=>rw[hq] at hm;rw[List.mem_singleton.1 hm];rfl
  | x::y::l=>rw[hq] at hf;simp at hf
def ROk(g:Gram)(P:List (List Bool))(n k:Nat)(row:List Int):Prop:=row.length=k∧∀t,t<k→row.getD t 0=entF (candsF g P n t g.rules.length)
def tCl:Ty Unit where
 size:=3
 rel:=fun _ l _=>∃n t a m c,l=[.int .i64 n,.int .i64 t,.slice a m c]
 len:=fun _ _ _ ⟨_,_,_,_,_,h⟩=>by rw[h];rfl
 one:=fun _ _ _ ⟨_,_,_,_,_,h⟩=>by rw[h];rfl
 mono:=fun _ _ _ _ _ h=>h
structure OfS where
 ra:Option Addr
 rn:Nat
 rc:Nat
 RB:List (Nat×Blk)
 R:List (List Int)
 ca:Option Addr
 cn:Nat
 cc:Nat
 CB:List (Nat×Blk)
 U:List Unit
structure OfT where
 ca:Option Addr
 cn:Nat
 cc:Nat
 CB:List (Nat×Blk)
 U:List Unit
 wa:Option Addr
 wn:Nat
 wc:Nat
 WB:List (Nat×Blk)
 ws:List Int
structure OfC where
 ca:Option Addr
 cn:Nat
 cc:Nat
 CB:List (Nat×Blk)
 U:List Unit
structure OfL where
 la:Option Addr
 ln:Nat
 lc:Nat
 LB:List (Nat×Blk)
 ls:List Nat
theorem tabs_few{g:Gram}{cn j n:Nat}(h:cn≤j*(g.terms+1)+n)(hj:j≤10)(hn:n≤9)(ht:g.terms≤8):cn≤1000:=by
 have:=Nat.mul_le_mul hj (show g.terms+1≤9 by omega);omega
theorem predictOf_spec(F:Frz)(g:Gram)(hg:Valid g){a:Option Addr}{m c:Nat}(hr:Arr tRule F a m c g.rules) :
  Abs.Spec CC 6 [.agg ⟨gramCells g a m c⟩] F [] fun F' v o=>o=[]∧∃ra rn rc R ca cn cc P,v=.tuple ⟨[.agg ⟨[.slice ra rn rc,.slice ca cn cc]⟩,.int .i64 0]⟩∧Arr (tList tInt) F' ra rn rc R∧
   R.length=g.nons∧(∀n,n<g.nons→ROk g P n (g.terms+1) (R.getD n []))∧
   (cn=0↔∀n t,n<g.nons→t≤g.terms→fewC g P n t)∧cn≤1000∧∀i r,g.rules[i]?=some r→RowP g r (P.getD i []):=by
 have hml:=hr.len;have hgr:=hg.range.rules;have hgt:=hg.range.terms;have hgn:=hg.range.nons;unfold gramCells;refine Abs.Spec.fn (n:=88) Tryd.func6 rfl rfl fun own=>?_;refine AW.seq (AW.reg ?_);refine WT.boxT Z Z Z Z Z Z (fun i1 hi1=>?_);refine WT.freezeAll 0 Z Z (fun F0 hF0 hB0=>?_);have hi1:=hB0 i1 _ me;have hr:=hr.mono hF0;have hpr:=predict_spec F0 g hg zo hr;unfold gramCells at hpr;refine WT.allocT hT Z Z Z Z Z Z (fun i2 hi2=>?_);refine zC4 ?_;refine WT.callF0 Tryd.func17 Z Z Z Z Z Z hpr (fun F1 v hF1 hv=>?_);obtain⟨pa,pn,pc,P,rfl,hPa,hPl,hPr⟩:=hv;have hr1:=hr.mono hF1;have hi1:=hF1 _ _ hi1
 have hpl:=hPa.len;refine zC4 ?_;refine AW.cond Z (fun h=>(by cases h)) (fun _=>?_);refine zC4 ?_;refine WT.allocT hT Z Z Z Z Z Z (fun i6 hi6=>?_);refine zC4 ?_;refine AW.range (S:=OfS) (fun s=>[]) (fun s=>[(i6,.cells false [.slice s.ra s.rn s.rc,.slice s.ca s.cn s.cc])]::s.RB::s.CB::[(i2,.cells false [.slice none 0 0,.slice none 0 0])]::own)
  (fun j s G=>Bld (tList tInt) G s.ra s.rn s.rc s.RB s.R∧s.R.length=j∧(∀n,n<j→ROk g P n (g.terms+1) (s.R.getD n []))∧Bld tCl G s.ca s.cn s.cc s.CB s.U∧s.cn≤j*(g.terms+1)∧(s.cn=0↔∀n t,n<j→t≤g.terms→fewC g P n t)) g.nons ⟨none,0,0,[],[],none,0,0,[],[]⟩
  Z Z Z Z Z Z Z Z Z zo rfl rfl (fun _=>rfl) (fun _=>rfl) sM (OwnLe.flat (List.Perm.refl _)) ⟨Bld.nil_ _ _,rfl,fun n h=>by omega,Bld.nil_ _ _,by simp,by simp⟩ ?_ ?_
 ·intro j s F2 hF2 hj hP;obtain⟨hb,hRl,hR,hcb,hcn,hcl⟩:=hP;have hi1:=hF2 _ _ hi1;have hblen:=hb.len;refine zC4 ?_;refine AW.range (S:=OfT) (fun u=>[(8,.slice u.wa u.wn u.wc)]) (fun u=>[(i6,.cells false [.slice s.ra s.rn s.rc,.slice u.ca u.cn u.cc])]::u.WB::s.RB::u.CB::[(i2,.cells false [.slice none 0 0,.slice none 0 0])]::own)
   (fun t u G=>Bld tInt G u.wa u.wn u.wc u.WB u.ws∧ROk g P j t u.ws∧Bld tCl G u.ca u.cn u.cc u.CB u.U∧u.cn≤j*(g.terms+1)+t∧(u.cn=0↔s.cn=0∧∀t',t'<t→fewC g P j t')) (g.terms+1) ⟨s.ca,s.cn,s.cc,s.CB,s.U,none,0,0,[],[]⟩
   Z Z Z Z Z Z Z Z Z zo rfl rfl (fun _=>rfl) (fun _=>rfl) sM (OwnLe.flat (List.Perm.refl _)) ⟨Bld.nil_ _ _,⟨rfl,fun t h=>by omega⟩,hcb,by simpa using hcn,by simp⟩ ?_ ?_
  ·intro t u F3 hF3 ht hP;obtain⟨hwb,hws,hcb3,hcn3,hcl3⟩:=hP;have hi1:=hF3 _ _ hi1;have hcn4:=tabs_few hcn3 zo zo hgt.2;have hr3:=(hr1.mono hF2).mono hF3;have hPa3:=(hPa.mono hF2).mono hF3;have hwl:=hwb.len;have hwsl:=hws.1;refine zC4 ?_;refine AW.range (S:=OfL) (fun v=>[(10,.slice v.la v.ln v.lc)]) (fun v=>v.LB::[(i6,.cells false [.slice s.ra s.rn s.rc,.slice u.ca u.cn u.cc])]::u.WB::s.RB::u.CB::[(i2,.cells false [.slice none 0 0,.slice none 0 0])]::own)
    (fun i v G=>Bld tInt G v.la v.ln v.lc v.LB (v.ls.map fun x:Nat=>(x:Int))∧v.ls=candsF g P j t i) m ⟨none,0,0,[],[]⟩
    Z Z Z Z Z Z Z Z Z zo rfl rfl (fun _=>rfl) (fun _=>rfl) sM (OwnLe.flat (List.Perm.refl _)) ⟨Bld.nil_ _ _,rfl⟩ ?_ ?_
   ·intro i v F4 hF4 hi hP;obtain⟨hlb,hls⟩:=hP;have hi1:=hF4 _ _ hi1;have hr4:=hr3.mono hF4;have hPa4:=hPa3.mono hF4;have hll:=hlb.len;have hlf:v.ls.length≤i:=by rw[hls];exact Nat.le_trans (List.length_filter_le _ _) (Nat.le_of_eq (List.length_range ..))
    rw[List.length_map] at hll;refine zC4 ?_;refine WT.idxL hT hr4 Z Z Z Z Z Z Z Z Z zo (fun r hrk b1 off ro1 cs1 lx1 hb1 hp1 hrel=>?_);obtain⟨b2,n2,d2,rfl,hr5⟩:=hrel;refine zC4 ?_;refine WT.allocT hT Z Z Z Z Z Z (fun i12 hi12=>?_);refine zC4 ?_;by_cases e:r.left=j
    ·refine WT.know (v':=.bool true) 45 Z (by congr 1;simp;omega) ?_;refine zC4 ?_;refine WT.idxL hT hPa4 Z Z Z Z Z Z Z Z Z zo (fun row hrow b3 off3 ro3 cs3 lx3 hb3 hp3 hrel3=>?_);obtain⟨b4,n4,d4,rfl,hrow4⟩:=hrel3;have hPD:P.getD i []=row:=by rw[List.getD_eq_getElem?_getD,hrow];rfl
     have hrl:=(hPr i r hrk).1;rw[hPD] at hrl;have hrl4:=hrow4.len;refine zC4 ?_;refine WT.idxL hT hrow4 Z Z Z Z Z Z Z Z Z zo (fun x hx b5 off5 ro5 cs5 lx5 hb5 hp5 hrel5=>?_);obtain rfl:lx5=_:=hrel5;have hcand:candB g P j t i=x:=by
      unfold candB;rw[hrk,hPD,List.getD_eq_getElem?_getD,hx];simp[e]
     refine zC4 ?_;refine AW.cond Z (fun he=>?_) (fun he=>?_)
     ·have hx1:x=true:=he;rw[hx1] at hcand;refine zC4 ?_;refine WT.buildT hT Z Z Z Z Z Z Z Z Z Z Z Z Z Z (fun i56 hi56=>?_);refine WT.appendT (R:=tInt) (ys:=[(i:Int)]) hT 2 hlb Z (fun _=>rfl) Z Z Z Z Z Z Z Z Z Z Z (fun h0 s0=>news_own hT s0 0 Z Z Z Z) (Cells.single (R:=tInt) (x:=(i:Int)) rfl) Z (by decide) zom (fun a7 c7 B7 hB7=>?_);refine zC4 ?_;exact⟨⟨a7,v.ln+1,c7,B7,v.ls++[i]⟩,sM,zow,by rw[List.map_append];exact hB7,by rw[candsF_succ,hcand,hls];rfl⟩
     ·have hx0:x=false:=he;rw[hx0] at hcand;refine zC4 ?_;exact⟨v,sM,zow,hlb,by rw[candsF_succ,hcand,hls];simp⟩
    ·refine WT.know (v':=.bool false) 45 Z (by congr 1;simp;omega) ?_;have hcand:candB g P j t i=false:=by
      unfold candB;rw[hrk];simp[e]
     refine zC4 ?_;refine AW.cond Z (fun h=>(by cases h)) (fun _=>?_);refine zC4 ?_;exact⟨v,sM,zow,hlb,by rw[candsF_succ,hcand,hls];simp⟩
   ·intro v F4 hF4 hP;obtain⟨hlb,hls⟩:=hP;rw[hml] at hls;have hll:=hlb.len;rw[List.length_map] at hll;have hlf:v.ls.length≤g.rules.length:=by rw[hls];exact Nat.le_trans (List.length_filter_le _ _) (Nat.le_of_eq (List.length_range ..))
    have hfew:fewC g P j t↔v.ln≤1:=by unfold fewC;rw[←hls,hll]
    refine zC4 ?_;refine AW.jnT (S:=OfC) (fun _=>[]) (fun x=>v.LB::[(i6,.cells false [.slice s.ra s.rn s.rc,.slice x.ca x.cn x.cc])]::u.WB::s.RB::x.CB::[(i2,.cells false [.slice none 0 0,.slice none 0 0])]::own)
     (fun x G=>Bld tCl G x.ca x.cn x.cc x.CB x.U∧x.cn≤j*(g.terms+1)+t+1∧(x.cn=0↔u.cn=0∧fewC g P j t)) ?_ (fun x F5 hF5 hP=>?_)
    ·refine AW.cond Z (fun hgt2=>?_) (fun hle2=>?_)
     ·have hgt2:1<v.ln:=by simp at hgt2;omega
      have hcb4:=hcb3.mono hF4;have hcbl:=hcb3.len;refine zC4 ?_;refine WT.buildT hT Z Z Z Z Z Z Z Z Z Z Z Z Z Z (fun i68 hi68=>?_);refine WT.appendT (R:=tCl) (ys:=[()]) hT 5 hcb4 Z (fun _=>rfl) Z Z Z Z Z Z Z Z Z Z Z (fun h0 s0=>news_own hT s0 0 Z Z Z Z) (Cells.single (R:=tCl) (x:=()) ⟨_,_,_,_,_,rfl⟩) Z (by decide) zom (fun a7 c7 B7 hB7=>?_);refine zC4 ?_;exact⟨⟨a7,u.cn+1,c7,B7,u.U++[()]⟩,sM,zow,hB7,by show u.cn+1≤_;omega,by show u.cn+1=0↔_;rw[hfew];omega⟩
     ·have hle2:v.ln≤1:=by simp at hle2;omega
      refine zC4 ?_;exact⟨⟨u.ca,u.cn,u.cc,u.CB,u.U⟩,sM,zow,hcb3.mono hF4,by show u.cn≤_;omega,by show u.cn=0↔_;rw[hfew];omega⟩
    obtain⟨hcb5,hcn5,hcl5⟩:=hP;have hlb5:=hlb.mono hF5;have hwb5:=(hwb.mono hF4).mono hF5;refine zC4 ?_;refine WT.buildT hT Z Z Z Z Z Z Z Z Z Z Z Z Z Z (fun i73 hi73=>?_);refine WT.appendT (R:=tInt) (ys:=[-1]) hT 1 hlb5 Z (fun _=>rfl) Z Z Z Z Z Z Z Z Z Z Z (fun h0 s0=>news_own hT s0 0 Z Z Z Z) (Cells.single (R:=tInt) (x:=-1) rfl) Z (by decide) zom (fun a7 c7 B7 hB7=>?_);refine WT.freezeAll 1 Z Z (fun F6 hF6 hB6=>?_);have hA7:=hB7.frozen hF6 hB6;refine WT.idxL (j:=0) hT hA7 Z Z Z Z Z Z Z Z Z (by first | omega | simp) (fun x7 hx7 b5 off5 ro5 cs5 lx5 hb5 hp5 hrel5=>?_)
    obtain rfl:lx5=_:=hrel5;have hx7e:x7=entF (candsF g P j t g.rules.length):=by
     rw[←hls];cases hq:v.ls with
     | nil=>rw[hq] at hx7;simp at hx7;rw[←hx7];rfl
     | cons y l=>rw[hq] at hx7;simp at hx7;rw[←hx7];rfl
    refine zC4 ?_;refine WT.buildT hT Z Z Z Z Z Z Z Z Z Z Z Z Z Z (fun i77 hi77=>?_);refine WT.appendT (R:=tInt) (ys:=[x7]) hT 4 (hwb5.mono hF6) Z (fun _=>rfl) Z Z Z Z Z Z Z Z Z Z Z (fun h0 s0=>news_own hT s0 0 Z Z Z Z) (Cells.single (R:=tInt) (x:=x7) rfl) Z (by decide) zom (fun a8 c8 B8 hB8=>?_);refine zC4 ?_;refine⟨⟨x.ca,x.cn,x.cc,x.CB,x.U,a8,u.wn+1,c8,B8,u.ws++[x7]⟩,sM,zow,hB8,⟨by simp[hwsl],fun t' ht'=>?_⟩,hcb5.mono hF6,hcn5,?_⟩
    ·rw[List.getD_eq_getElem?_getD];by_cases e:t'=t
     ·subst e;rw[List.getElem?_append_right zo,hwsl,Nat.sub_self];exact hx7e
     ·rw[List.getElem?_append_left zo,←List.getD_eq_getElem?_getD];exact hws.2 t' zo
    ·show x.cn=0↔_;rw[hcl5,hcl3];constructor
     ·rintro⟨⟨h1,h2⟩,h3⟩;exact⟨h1,fun t' ht'=>if e:t'=t then e▸h3 else h2 t' zo⟩
     ·rintro⟨h1,h2⟩;exact⟨⟨h1,fun t' ht'=>h2 t' zo⟩,h2 t zo⟩
  ·intro u F3 hF3 hP;obtain⟨hwb,hws,hcb3,hcn3,hcl3⟩:=hP;refine zC4 ?_;refine WT.freezeAll 1 Z Z (fun F4 hF4 hB4=>?_);have hA4:=hwb.frozen hF4 hB4;refine WT.buildT hT Z Z Z Z Z Z Z Z Z Z Z Z Z Z (fun i83 hi83=>?_);refine WT.appendT (R:=tList tInt) (ys:=[u.ws]) hT 3 ((hb.mono hF3).mono hF4) Z (fun _=>rfl) Z Z Z Z Z Z Z Z Z Z Z (fun h0 s0=>news_own hT s0 0 Z Z Z Z) (Cells.single (R:=tList tInt) ⟨_,_,_,rfl,hA4⟩) Z (by decide) zom (fun a8 c8 B8 hB8=>?_);refine zC4 ?_;refine⟨⟨a8,s.rn+1,c8,B8,s.R++[u.ws],u.ca,u.cn,u.cc,u.CB,u.U⟩,sM,zow,hB8,by simp[hRl],fun n hn=>?_,hcb3.mono hF4,?_,?_⟩
   ·rw[List.getD_eq_getElem?_getD];by_cases e:n=j
    ·subst e;rw[List.getElem?_append_right zo,hRl,Nat.sub_self];exact hws
    ·rw[List.getElem?_append_left zo,←List.getD_eq_getElem?_getD];exact hR n zo
   ·show u.cn≤_;rw[Nat.succ_mul];exact hcn3
   ·show u.cn=0↔_;rw[hcl3,hcl];constructor
    ·rintro⟨h1,h2⟩ n t hn ht;exact if e:n=j then e▸h2 t zo else h1 n t zo ht
    ·intro h1;exact⟨fun n t hn ht=>h1 n t zo ht,fun t ht=>h1 j t zo zo⟩
 ·intro s F2 hF2 hP;obtain⟨hb,hRl,hR,hcb,hcn,hcl⟩:=hP;refine AW.freezeAll 1 Z Z (fun F3 hF3 hB3=>?_);have hA3:=hb.frozen hF3 hB3;refine zC4 ?_;have hcn4:=tabs_few (n:=0) hcn zo zo hgt.2;exact AW.ret ⟨_,[],⟨_,_,⟨_,rfl,fun G h0 s0=>loadA_cells (s0.has (p:=3) rfl me) (readT_ok hT rfl)⟩,⟨_,_,rfl,rfl,rfl⟩,rfl⟩,zsb,rfl,_,_,_,s.R,_,_,_,P,rfl,hA3,hRl,hR,by rw[hcl],hcn4,hPr⟩
end Go.Proofs.D