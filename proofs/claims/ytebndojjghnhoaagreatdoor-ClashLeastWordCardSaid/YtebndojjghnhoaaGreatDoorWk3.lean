/-
  Walks: what functions of the program do, over the abstract machine.
-/
import Derived.Test.YtebndojjghnhoaaGreatDoorWk2
set_option linter.unusedVariables false
set_option maxRecDepth 20000
set_option maxHeartbeats 0
open Go Go.Abs Go.Proofs Go.Proofs.D
namespace Go.Proofs.D
theorem Strict.nodupL{l:List Lr}(h:Strict l):l.Nodup:=
 List.Pairwise.imp (fun {a b} hab e=>by subst e;rw[ltLr_iff] at hab;omega) h
theorem strict_uniq{l1 l2:List Lr}(h1:Strict l1)(h2:Strict l2)(h:∀z,z∈l1↔z∈l2):l1=l2:=
 List.Perm.eq_of_pairwise (le:=fun x y=>ltLr x y=true) (fun a b _ _ h1 h2=>by rw[ltLr_iff] at h1 h2;omega) h1 h2 ((List.perm_ext_iff_of_nodup h1.nodupL h2.nodupL).2 h)
def allLr(g:Gram):List Lr:=((List.range (g.rules.length+1)).map fun k=>(List.range ((rightL g k).length+1)).map fun d=>(⟨k,d⟩:Lr)).flatten
theorem mem_allLr{g:Gram}{z:Lr}:z∈allLr g↔z.rule≤g.rules.length∧z.dot≤(rightL g z.rule).length:=by
 unfold allLr;rw[List.mem_flatten];constructor
 ·rintro⟨l,hl,hz⟩;obtain⟨k,hk,rfl⟩:=List.mem_map.1 hl;obtain⟨d,hd,rfl⟩:=List.mem_map.1 hz;rw[List.mem_range] at hk hd;exact⟨by dsimp only;omega,by dsimp only;omega⟩
 ·rintro⟨h1,h2⟩;exact⟨_,List.mem_map.2 ⟨z.rule,List.mem_range.2 zo,rfl⟩,List.mem_map.2 ⟨z.dot,List.mem_range.2 zo,rfl⟩⟩
theorem pairwise_range{α:Type}{R:α→α→Prop}{f:Nat→α}:∀{n:Nat},(∀i j,i<j→j<n→R (f i) (f j))→((List.range n).map f).Pairwise R:=by
 intro n h;rw[List.pairwise_map];refine List.Pairwise.imp_of_mem ?_ (List.pairwise_lt_range);intro a b ha hb hab;exact h a b hab (List.mem_range.1 hb)
theorem allLr_strict(g:Gram):Strict (allLr g):=by
 unfold allLr Strict;rw[List.pairwise_flatten];refine⟨fun l hl=>?_,?_⟩
 ·obtain⟨k,_,rfl⟩:=List.mem_map.1 hl;exact pairwise_range fun i j h _=>ltLr_iff.2 (.inr ⟨rfl,h⟩)
 ·refine pairwise_range fun i j h _ x hx y hy=>?_;obtain⟨_,_,rfl⟩:=List.mem_map.1 hx;obtain⟨_,_,rfl⟩:=List.mem_map.1 hy;exact ltLr_iff.2 (.inl h)
noncomputable def closL(g:Gram)(l:List Lr):List Lr:=(allLr g).filter fun z=>@decide (Clos g l z) (Classical.propDecidable _)
theorem closL_strict(g:Gram)(l:List Lr):Strict (closL g l):=List.Pairwise.filter _ (allLr_strict g)
def OkLr(g:Gram)(x:Lr):Prop:=x.rule≤g.rules.length∧x.dot≤(rightL g x.rule).length
theorem Clos.okL{g:Gram}{l:List Lr}(hl:∀x∈l,OkLr g x){x:Lr}(h:Clos g l x):OkLr g x:=by
 induction h with
 | base h=>exact hl _ h
 | more _ _ h _ _=>exact⟨Nat.le_of_lt (gS h).1,Nat.zero_le _⟩
theorem mem_closL{g:Gram}{l:List Lr}(hl:∀x∈l,OkLr g x){z:Lr}:z∈closL g l↔Clos g l z:=by
 unfold closL;rw[List.mem_filter,mem_allLr];constructor
 ·rintro⟨_,h⟩;exact @of_decide_eq_true _ (Classical.propDecidable _) h
 ·intro h;exact⟨h.okL hl,@decide_eq_true _ (Classical.propDecidable _) h⟩
theorem closL_eq{g:Gram}{l zs:List Lr}(hl:∀x∈l,OkLr g x)(h1:Strict zs)(h2:∀z,z∈zs↔Clos g l z):zs=closL g l:=
 strict_uniq h1 (closL_strict g l) fun z=>by rw[h2,mem_closL hl]
section
variable {α:Type}[DecidableEq α]
def addOne(sts:List α):Option α→List α×Int
 | none=>(sts,-1)
 | some s=>if s∈sts then (sts,(sts.idxOf s:Nat)) else (sts++[s],(sts.length:Nat))
def addAll:List α→List (Option α)→List α×List Int
 | sts,[]=>(sts,[])
 | sts,o::os=>((addAll (addOne sts o).1 os).1,(addOne sts o).2::(addAll (addOne sts o).1 os).2)
def numF(most:Nat)(step:α→List (Option α)):Nat→Nat→List α→List (List Int)→Option (List α×List (List Int))
 | 0,_,_,_=>none
 | f+1,i,sts,rows=>match sts[i]? with
  | none=>some (sts,rows)
  | some st=>if (addAll sts (step st)).1.length≤most then numF most step f (i+1) (addAll sts (step st)).1 (rows++[(addAll sts (step st)).2]) else none
structure RowOf(sts:List α)(os:List (Option α))(row:List Int):Prop where
 len:row.length=os.length
 no:∀k:Nat,os[k]?=some none→row[k]?=some (-1)
 yes:∀(k:Nat) (s:α),os[k]?=some (some s)→∃j:Nat,row[k]?=some (j:Int)∧sts[j]?=some s
theorem addOne_ok(sts:List α)(o:Option α):(∃ex,(addOne sts o).1=sts++ex)∧(sts.Nodup→(addOne sts o).1.Nodup)∧(∀s∈(addOne sts o).1,s∈sts∨o=some s)∧
  (o=none→(addOne sts o).2=-1)∧(∀s,o=some s→∃j:Nat,(addOne sts o).2=(j:Int)∧(addOne sts o).1[j]?=some s):=by
 cases o with
 | none=>exact⟨⟨[],(List.append_nil _).symm⟩,fun h=>h,fun s h=>.inl h,fun _=>rfl,fun s h=>by cases h⟩
 | some s=>
  unfold addOne;by_cases h:s∈sts
  ·simp only[if_pos h];refine⟨⟨[],(List.append_nil _).symm⟩,fun h=>h,fun s h=>.inl h,fun h=>(by cases h),fun s' e=>?_⟩;cases e;exact⟨_,rfl,by rw[gE (List.idxOf_lt_length_of_mem h),List.getElem_idxOf]⟩
  ·simp only[if_neg h];refine⟨⟨[s],rfl⟩,fun hn=>?_,fun x hx=>?_,fun h=>(by cases h),fun s' e=>?_⟩
   ·rw[List.nodup_append];exact⟨hn,by simp,fun a ha b hb e=>h (by rw[List.mem_singleton] at hb;subst hb;subst e;exact ha)⟩
   ·rcases List.mem_append.1 hx with hx | hx
    ·exact .inl hx
    ·exact .inr (by rw[List.mem_singleton.1 hx])
   ·cases e;exact⟨_,rfl,by rw[List.getElem?_append_right (Nat.le_refl _),Nat.sub_self];rfl⟩
theorem addAll_ok:∀(os:List (Option α)) (sts:List α),(∃ex,(addAll sts os).1=sts++ex)∧(sts.Nodup→(addAll sts os).1.Nodup)∧(∀s∈(addAll sts os).1,s∈sts∨some s∈os)∧RowOf (addAll sts os).1 os (addAll sts os).2
 | [],sts=>⟨⟨[],(List.append_nil _).symm⟩,fun h=>h,fun s h=>.inl h,⟨rfl,fun k h=>by simp at h,fun k s h=>by simp at h⟩⟩
 | o::os,sts=>by
  obtain⟨⟨e1,h1⟩,h2,h3,h4,h5⟩:=addOne_ok sts o;obtain⟨⟨e2,g1⟩,g2,g3,g4⟩:=addAll_ok os (addOne sts o).1;have e:(addAll sts (o::os))=((addAll (addOne sts o).1 os).1,(addOne sts o).2::(addAll (addOne sts o).1 os).2):=rfl;rw[e];refine⟨⟨e1++e2,?_⟩,fun hn=>g2 (h2 hn),fun s hs=>?_,⟨?_,fun k hk=>?_,fun k s hk=>?_⟩⟩
  ·rw[g1,h1,List.append_assoc]
  ·rcases g3 s hs with hs | hs
   ·rcases h3 s hs with hs | hs
    ·exact .inl hs
    ·exact .inr (by rw[hs];exact List.mem_cons_self ..)
   ·exact .inr (List.mem_cons_of_mem _ hs)
  ·simp only[List.length_cons,g4.len]
  ·cases k with
   | zero=>simp only[List.getElem?_cons_zero] at hk ⊢;rw[h4 (Option.some.inj hk)]
   | succ k=>simp only[List.getElem?_cons_succ] at hk ⊢;exact g4.no k hk
  ·cases k with
   | zero=>
    simp only[List.getElem?_cons_zero] at hk ⊢;obtain⟨j,h6,h7⟩:=h5 s (Option.some.inj hk);refine⟨j,by rw[h6],?_⟩;show (addAll (addOne sts o).1 os).1[j]?=some s;rw[g1,List.getElem?_append_left (gS h7).1];exact h7
   | succ k=>simp only[List.getElem?_cons_succ] at hk ⊢;exact g4.yes k s hk
omit [DecidableEq α] in
theorem RowOf.more{sts ex:List α}{os:List (Option α)}{row:List Int}(h:RowOf sts os row):RowOf (sts++ex) os row:=
 ⟨h.len,h.no,fun k s hk=>let ⟨j,h1,h2⟩:=h.yes k s hk;⟨j,h1,by rw[List.getElem?_append_left (gS h2).1];exact h2⟩⟩
structure NumI(most:Nat)(step:α→List (Option α))(first:α)(i:Nat)(sts:List α)(rows:List (List Int)):Prop where
 first:sts[0]?=some first
 nodup:sts.Nodup
 few:sts.length≤most
 len:rows.length=i
 le:i≤sts.length
 row:∀(k:Nat) (st:α) (row:List Int),sts[k]?=some st→rows[k]?=some row→RowOf sts (step st) row
 from_:∀(j:Nat) (st:α),0<j→sts[j]?=some st→∃(k:Nat) (sk:α),k<j∧k<i∧sts[k]?=some sk∧some st∈step sk
theorem NumI.next{most:Nat}{step:α→List (Option α)}{first:α}{i:Nat}{sts:List α}{rows:List (List Int)}(h:NumI most step first i sts rows){st:α}(hst:sts[i]?=some st)(hm:(addAll sts (step st)).1.length≤most) :
  NumI most step first (i+1) (addAll sts (step st)).1 (rows++[(addAll sts (step st)).2]):=by
 obtain⟨⟨ex,h1⟩,h2,h3,h4⟩:=addAll_ok (step st) sts;have hi:=(gS hst).1;have hleft:∀k,k<sts.length→(addAll sts (step st)).1[k]?=sts[k]?:=fun k hk=>by rw[h1,List.getElem?_append_left hk]
 refine⟨by rw[hleft 0 zo];exact h.first,h2 h.nodup,hm,by rw[List.length_append,h.len];rfl,by rw[h1,List.length_append];omega,fun k sk row hk hr=>?_,fun j sj hj hsj=>?_⟩
 ·by_cases e:k<i
  ·rw[hleft k zo] at hk;rw[List.getElem?_append_left (by rw[h.len];exact e)] at hr;have:=h.row k sk row hk hr;rw[h1];exact this.more
  ·have hk2:k=i:=by
    have:=(gS hr).1;rw[List.length_append,h.len,List.length_singleton] at this;omega
   subst hk2;rw[hleft k hi,hst] at hk;obtain rfl:=Option.some.inj hk;rw[List.getElem?_append_right (by rw[h.len];exact Nat.le_refl _),h.len,Nat.sub_self] at hr;obtain rfl:=Option.some.inj hr;exact h4
 ·by_cases e:j<sts.length
  ·rw[hleft j e] at hsj;obtain⟨k,sk,g1,g2,g3,g4⟩:=h.from_ j sj hj hsj;exact⟨k,sk,g1,by omega,by rw[hleft k zo];exact g3,g4⟩
  ·refine⟨i,st,by omega,by omega,by rw[hleft i hi];exact hst,?_⟩;rcases h3 sj (gM hsj) with h5 | h5
   ·exfalso;obtain⟨k,hk,hk2⟩:=List.getElem_of_mem h5;have hnd:=h2 h.nodup;have e1:(addAll sts (step st)).1[k]?=some sj:=by rw[hleft k hk,gE hk,hk2]
    have e2:=(gS hsj).1;have:=(List.getElem?_inj (by rw[h1,List.length_append];omega) hnd).1 (e1.trans hsj.symm);omega
   ·exact h5
omit [DecidableEq α] in
theorem NumI.begin{most:Nat}(step:α→List (Option α))(first:α)(hm:1≤most):NumI most step first 0 [first] []:=
 ⟨rfl,by simp,hm,rfl,Nat.zero_le _,fun k st row _ h=>by simp at h,fun j st hj h=>by
  have:=(gS h).1;rw[List.length_singleton] at this;omega⟩
theorem numF_ok{most:Nat}{step:α→List (Option α)}{first:α}:∀(f i:Nat) {sts:List α} {rows:List (List Int)},NumI most step first i sts rows→∀{sts' rows'},numF most step f i sts rows=some (sts',rows')→NumI most step first sts'.length sts' rows'
 | 0,_,_,_,_,_,_,h=>by cases h
 | f+1,i,sts,rows,hI,sts',rows',h=>by
  unfold numF at h;split at h
  ·rename_i hn;cases h;have:=List.getElem?_eq_none_iff.1 hn;have hle:=hI.le;have e:i=sts.length:=by omega
   rw[←e];exact hI
  ·rename_i st hst;split at h
   ·rename_i hm;exact numF_ok f (i+1) (hI.next hst hm) h
   ·cases h
omit [DecidableEq α] in
theorem NumI.all{most:Nat}{step:α→List (Option α)}{first:α}{i:Nat}{sts:List α}{rows:List (List Int)}(h:NumI most step first i sts rows){P:α→Prop}(h0:P first)(hs:∀st s,P st→some s∈step st→P s):∀(j:Nat) (st:α),sts[j]?=some st→P st:=by
 intro j
 induction j using Nat.strongRecOn with
 | _ j ih=>
  intro st hst;by_cases e:j=0
  ·subst e;rw[h.first] at hst
   obtain rfl:=Option.some.inj hst;exact h0
  ·obtain⟨k,sk,h1,_,h3,h4⟩:=h.from_ j st zo hst;exact hs sk st (ih k h1 sk h3) h4
end
def kern(g:Gram)(st:List Lr)(y:Sym):List Lr:=st.filterMap fun x=>if afterL g x=some y then some ⟨x.rule,x.dot+1⟩ else none
theorem mem_kern{g:Gram}{st:List Lr}{y:Sym}{z:Lr}:z∈kern g st y↔∃x∈st,afterL g x=some y∧z=⟨x.rule,x.dot+1⟩:=by
 unfold kern;rw[List.mem_filterMap];constructor
 ·rintro⟨x,hx,h⟩;split at h
  ·rename_i ha;exact⟨x,hx,ha,(Option.some.inj h).symm⟩
  ·cases h
 ·rintro⟨x,hx,ha,rfl⟩;exact⟨x,hx,by rw[if_pos ha]⟩
def symsL(g:Gram):List Sym:=((List.range g.terms).map fun t=>(⟨true,t⟩:Sym))++(List.range g.nons).map fun n=>(⟨false,n⟩:Sym)
def idxS(g:Gram)(y:Sym):Nat:=if y.term=true then y.n else y.n+g.terms
def symB(g:Gram)(y:Sym):Bool:=if y.term=true then decide (y.n<g.terms) else decide (y.n<g.nons)
theorem symB_iff{g:Gram}{y:Sym}:symB g y=true↔SymOk g.terms g.nons y:=by
 unfold symB SymOk;split<;>simp
theorem symsL_len(g:Gram):(symsL g).length=g.terms+g.nons:=by unfold symsL;simp
theorem symsL_at{g:Gram}{y:Sym}(h:SymOk g.terms g.nons y):(symsL g)[idxS g y]?=some y:=by
 obtain⟨b,n⟩:=y;unfold symsL idxS;unfold SymOk at h;cases b with
 | true=>
  have h:n<g.terms:=h;rw[if_pos rfl,List.getElem?_append_left (by simpa using h)];simp[h]
 | false=>
  have h:n<g.nons:=h;rw[if_neg (by simp),List.getElem?_append_right (by simp)];simp[h]
theorem Clos.zero{g:Gram}{l:List Lr}{z:Lr}(h:Clos g l z):z∈l∨(z.dot=0∧z.rule<g.rules.length):=by
 cases h with
 | base h=>exact .inl h
 | more _ _ h _=>exact .inr ⟨rfl,(gS h).1⟩
structure AutoC(g:Gram)(I:List (List Lr))(rows:List (List Int)):Prop where
 len:rows.length=I.length
 ok:∀(s:Nat) (st:List Lr),I[s]?=some st→∀x∈st,OkLr g x
 zero:∃st,I[0]?=some st∧∀z,z∈st↔Clos g [⟨g.rules.length,0⟩] z
 from_:∀(s:Nat) (st:List Lr),0<s→I[s]?=some st→∃l:List Lr,(∀x∈l,0<x.dot)∧l≠[]∧∀z,z∈st↔Clos g l z
 row:∀(s:Nat) (st:List Lr) (row:List Int),I[s]?=some st→rows[s]?=some row→row.length=g.terms+g.nons
 no:∀(s k:Nat) (st:List Lr) (row:List Int) (y:Sym),I[s]?=some st→rows[s]?=some row→(symsL g)[k]?=some y→kern g st y=[]→row[k]?=some (-1)
 yes:∀(s k:Nat) (st:List Lr) (row:List Int) (y:Sym),I[s]?=some st→rows[s]?=some row→(symsL g)[k]?=some y→kern g st y≠[]→∃(j:Nat) (st':List Lr),row[k]?=some (j:Int)∧I[j]?=some st'∧∀z,z∈st'↔Clos g (kern g st y) z
def itI(I:List (List Lr))(s:Nat)(x:Lr):Prop:=∃st,I[s]?=some st∧x∈st
def goR(g:Gram)(rows:List (List Int))(s:Nat)(y:Sym):Option Nat:=if symB g y=true then (match rows[s]? with
 | some row=>(match row[idxS g y]? with
  | some j=>if 0≤j then some j.toNat else none
  | none=>none)
 | none=>none) else none
section
variable {g:Gram}{I:List (List Lr)}{rows:List (List Int)}
theorem AutoC.rowAt(h:AutoC g I rows){s:Nat}{st:List Lr}(hs:I[s]?=some st):∃row,rows[s]?=some row:=⟨_,gE (by rw[h.len];exact(gS hs).1)⟩
theorem AutoC.go(hg:Valid g)(h:AutoC g I rows){s:Nat}{st:List Lr}(hs:I[s]?=some st){y:Sym}(hy:SymOk g.terms g.nons y) :
  (kern g st y=[]→goR g rows s y=none)∧(kern g st y≠[]→∃j st',goR g rows s y=some j∧I[j]?=some st'∧∀z,z∈st'↔Clos g (kern g st y) z):=by
 obtain⟨row,hr⟩:=h.rowAt hs;have hk:=symsL_at hy;unfold goR;rw[if_pos (symB_iff.2 hy),hr];dsimp only;refine⟨fun e=>?_,fun e=>?_⟩
 ·rw[h.no s _ st row y hs hr hk e];rfl
 ·obtain⟨j,st',h1,h2,h3⟩:=h.yes s _ st row y hs hr hk e;rw[h1];exact⟨j,st',by simp,h2,h3⟩
theorem AutoC.goes(hg:Valid g)(h:AutoC g I rows){s s':Nat}{y:Sym}(hgo:goR g rows s y=some s'):∃st st',I[s]?=some st∧I[s']?=some st'∧kern g st y≠[]∧∀z,z∈st'↔Clos g (kern g st y) z:=by
 have hy:SymOk g.terms g.nons y:=by
  unfold goR at hgo;split at hgo
  ·rename_i hb;exact symB_iff.1 hb
  ·cases hgo
 obtain⟨st,hs⟩:∃st,I[s]?=some st:=by
  unfold goR at hgo;rw[if_pos (symB_iff.2 hy)] at hgo;split at hgo
  ·rename_i row hr;exact⟨_,gE (by rw[←h.len];exact(gS hr).1)⟩
  ·cases hgo
 obtain⟨h1,h2⟩:=h.go hg hs hy;by_cases e:kern g st y=[]
 ·rw[h1 e] at hgo;cases hgo
 ·obtain⟨j,st',h3,h4,h5⟩:=h2 e;rw[hgo] at h3;obtain rfl:=Option.some.inj h3;exact⟨st,st',hs,h4,e,h5⟩
end
noncomputable def maskOf(P:Nat→Prop):Nat→Nat
 | 0=>0
 | n+1=>maskOf P n+(if @decide (P n) (Classical.propDecidable _)=true then 2 ^ n else 0)
theorem maskOf_lt(P:Nat→Prop):∀n,maskOf P n<2 ^ n
 | 0=>Nat.one_pos
 | n+1=>by
  have:=maskOf_lt P n;unfold maskOf;rw[Nat.pow_succ];split<;>omega
theorem maskOf_bit(P:Nat→Prop):∀(n t:Nat),(maskOf P n).testBit t=true↔t<n∧P t
 | 0,t=>by unfold maskOf;simp
 | n+1,t=>by
  have h1:=maskOf_lt P n;have h2:=maskOf_bit P n t;unfold maskOf;by_cases e:t=n
  ·subst e;have h3:(maskOf P t).testBit t=false:=Nat.testBit_lt_two_pow h1;split
   ·rename_i h;rw[Nat.add_comm,Nat.testBit_two_pow_add_eq,h3];simp only[Bool.not_false,true_iff];exact⟨Nat.lt_succ_self _,@of_decide_eq_true _ (Classical.propDecidable _) h⟩
   ·rename_i h;rw[Nat.add_zero,h3];simp only[Bool.false_eq_true,false_iff,not_and];exact fun _ hp=>h (@decide_eq_true _ (Classical.propDecidable _) hp)
  ·have h4:(t<n+1∧P t)↔(t<n∧P t):=⟨fun ⟨a,b⟩=>⟨by omega,b⟩,fun ⟨a,b⟩=>⟨by omega,b⟩⟩;rw[h4,←h2];split
   ·by_cases e2:t<n
    ·rw[Nat.add_comm,Nat.testBit_two_pow_add_gt zo]
    ·have e3:n<t:=by omega
     have a1:(maskOf P n).testBit t=false:=Nat.testBit_lt_two_pow (Nat.lt_trans h1 (Nat.pow_lt_pow_right (by decide) e3));have a2:(maskOf P n+2 ^ n).testBit t=false:=Nat.testBit_lt_two_pow (by
      have:2 ^ (n+1)≤2 ^ t:=Nat.pow_le_pow_right (by decide) e3;rw[Nat.pow_succ] at this;omega)
     rw[a1,a2]
   ·rw[Nat.add_zero]
theorem mask_uniq{P:Nat→Prop}{n m:Nat}(h1:m<2 ^ n)(h2:∀t,m.testBit t=true↔t<n∧P t):m=maskOf P n:=by
 apply Nat.eq_of_testBit_eq;intro t;have:=maskOf_bit P n t;rw[←h2] at this;cases hm:m.testBit t<;>cases hk:(maskOf P n).testBit t<;>simp[hm,hk] at this ⊢
structure Look where
 item:Lr
 set:Nat
deriving DecidableEq,Inhabited
def itemsK(l:List Look):List Lr:=l.map (·.item)
inductive LAc(g:Gram)(l:List Look):Lr→Nat→Prop
 | base {z:Lr} {m t:Nat}:⟨z,m⟩∈l→m.testBit t=true→t≤g.terms→LAc g l z t
 | beg {x:Lr} {k t:Nat} {r:Rule}:Clos g (itemsK l) x→afterL g x=some ⟨false,r.left⟩→g.rules[k]?=some r→BegL g (restL g x) t→LAc g l ⟨k,0⟩ t
 | pass {x:Lr} {k t:Nat} {r:Rule}:Clos g (itemsK l) x→afterL g x=some ⟨false,r.left⟩→g.rules[k]?=some r→NulL g (restL g x)→LAc g l x t→LAc g l ⟨k,0⟩ t
noncomputable def closeK(g:Gram)(l:List Look):List Look:=(closL g (itemsK l)).map fun z=>⟨z,maskOf (LAc g l z) (g.terms+1)⟩
theorem closeK_items(g:Gram)(l:List Look):itemsK (closeK g l)=closL g (itemsK l):=by
 unfold itemsK closeK;rw[List.map_map];have:(fun x:Look=>x.item) ∘ (fun z=>(⟨z,maskOf (LAc g l z) (g.terms+1)⟩:Look))=id:=rfl;rw[this,List.map_id];rfl
theorem mem_closeK{g:Gram}{l:List Look}(hl:∀x∈itemsK l,OkLr g x){z:Lr}{m:Nat}:⟨z,m⟩∈closeK g l↔Clos g (itemsK l) z∧m=maskOf (LAc g l z) (g.terms+1):=by
 unfold closeK;rw[List.mem_map];constructor
 ·rintro⟨x,hx,e⟩;rw[mem_closL hl] at hx;simp only[Look.mk.injEq] at e;obtain⟨rfl,rfl⟩:=e;exact⟨hx,rfl⟩
 ·rintro⟨hz,rfl⟩;exact⟨z,(mem_closL hl).2 hz,rfl⟩
theorem Beg.lt{g:Gram}(hg:Valid g){n t:Nat}(h:Beg g n t):t<g.terms:=by
 induction h with
 | term hr e _=>
  have:=(hg.right _ hr).2.2 ⟨true,_⟩ (by rw[e];exact List.mem_append_right _ me);exact this
 | non _ _ _ _ ih=>exact ih
theorem BegL.lt{g:Gram}(hg:Valid g){l:List Sym}(hl:∀s∈l,SymOk g.terms g.nons s){t:Nat}(h:BegL g l t):t<g.terms:=by
 obtain⟨pre,s,post,rfl,_,h3⟩:=h;rcases h3 with rfl | ⟨_,h4⟩
 ·exact hl _ (List.mem_append_right _ me)
 ·exact h4.lt hg
theorem rightL_ok{g:Gram}(hg:Valid g)(k:Nat):∀s∈rightL g k,SymOk g.terms g.nons s:=by
 unfold rightL;split
 ·intro s hs;rw[List.mem_singleton.1 hs];exact hg.range.start
 ·cases h:g.rules[k]? with
  | none=>intro s hs;cases hs
  | some r=>exact(hg.right r (gM h)).2.2
theorem rest_lt{g:Gram}(hg:Valid g){x:Lr}{t:Nat}(h:BegL g (restL g x) t):t<g.terms:=
 h.lt hg fun s hs=>rightL_ok hg _ s (List.mem_of_mem_drop hs)
theorem LAc.le{g:Gram}(hg:Valid g){l:List Look}{z:Lr}{t:Nat}(h:LAc g l z t):t≤g.terms:=by
 induction h with
 | base _ _ h=>exact h
 | beg _ _ _ h=>exact Nat.le_of_lt (rest_lt hg h)
 | pass _ _ _ _ _ ih=>exact ih
theorem LAc.clos{g:Gram}{l:List Look}{z:Lr}{t:Nat}(h:LAc g l z t):Clos g (itemsK l) z:=by
 cases h with
 | base h _ _=>exact .base (List.mem_map.2 ⟨_,h,rfl⟩)
 | beg h1 h2 h3 _=>exact .more h1 h2 h3 rfl
 | pass h1 h2 h3 _ _=>exact .more h1 h2 h3 rfl
theorem look_closeK{g:Gram}(hg:Valid g){l:List Look}(hl:∀x∈itemsK l,OkLr g x){z:Lr}{t:Nat}:(∃m,⟨z,m⟩∈closeK g l∧m.testBit t=true)↔LAc g l z t:=by
 constructor
 ·rintro⟨m,hm,ht⟩;obtain⟨_,rfl⟩:=(mem_closeK hl).1 hm;exact((maskOf_bit _ _ _).1 ht).2
 ·intro h;exact⟨_,(mem_closeK hl).2 ⟨h.clos,rfl⟩,(maskOf_bit _ _ _).2 ⟨Nat.lt_succ_of_le (h.le hg),h⟩⟩
noncomputable def stepI(g:Gram)(st:List Lr):List (Option (List Lr)):=(symsL g).map fun y=>if kern g st y=[] then none else some (closL g (kern g st y))
def kernK(g:Gram)(st:List Look)(y:Sym):List Look:=st.filterMap fun x=>if afterL g x.item=some y then some ⟨⟨x.item.rule,x.item.dot+1⟩,x.set⟩ else none
noncomputable def firstI(g:Gram):List Lr:=closL g [⟨g.rules.length,0⟩]
noncomputable def autoI(g:Gram):Option (List (List Lr)×List (List Int)):=numF 400 (stepI g) 401 0 [firstI g] []
theorem kernK_items(g:Gram)(st:List Look)(y:Sym):itemsK (kernK g st y)=kern g (itemsK st) y:=by
 unfold itemsK kernK kern
 induction st with
 | nil=>rfl
 | cons a st ih=>
  rw[List.map_cons,List.filterMap_cons,List.filterMap_cons];by_cases h:afterL g a.item=some y
  ·rw[if_pos h,if_pos h];simp only[List.map_cons,ih]
  ·rw[if_neg h,if_neg h];exact ih
theorem mem_kernK{g:Gram}{st:List Look}{y:Sym}{z:Lr}{m:Nat}:⟨z,m⟩∈kernK g st y↔∃x,⟨x,m⟩∈st∧afterL g x=some y∧z=⟨x.rule,x.dot+1⟩:=by
 unfold kernK;rw[List.mem_filterMap];constructor
 ·rintro⟨⟨x,n⟩,hx,h⟩;split at h
  ·rename_i ha;have:=Option.some.inj h;simp only[Look.mk.injEq] at this;obtain⟨rfl,rfl⟩:=this;exact⟨x,hx,ha,rfl⟩
  ·cases h
 ·rintro⟨x,hx,ha,rfl⟩;exact⟨⟨x,m⟩,hx,by rw[if_pos ha]⟩
theorem kern_ok{g:Gram}{st:List Lr}{y:Sym}:∀z∈kern g st y,OkLr g z∧0<z.dot:=by
 intro z hz;obtain⟨x,_,ha,rfl⟩:=mem_kern.1 hz;rw[afterL_right] at ha;have h2:=(gS ha).1;refine⟨⟨?_,h2⟩,Nat.succ_pos _⟩;show x.rule≤_;rcases Nat.lt_or_ge g.rules.length x.rule with h | h
 ·unfold rightL at h2;rw[if_neg zo,List.getElem?_eq_none zo] at h2;simp at h2
 ·exact h
theorem start_ok{g:Gram}:∀z∈[(⟨g.rules.length,0⟩:Lr)],OkLr g z:=by
 intro z hz;rw[List.mem_singleton.1 hz];exact⟨Nat.le_refl _,Nat.zero_le _⟩
theorem map_at{α β:Type}{f:α→β}{l:List α}{k:Nat}{a:α}(h:l[k]?=some a):(l.map f)[k]?=some (f a):=by rw[List.getElem?_map,h];rfl
theorem closL_ok{g:Gram}{l:List Lr}:∀x∈closL g l,OkLr g x:=fun x hx=>mem_allLr.1 (List.mem_filter.1 hx).1
theorem autoI_ok{g:Gram}{I:List (List Lr)}{rows:List (List Int)}(h:autoI g=some (I,rows)):AutoC g I rows∧NumI 400 (stepI g) (firstI g) I.length I rows:=by
 have hN:=numF_ok 401 0 (NumI.begin (stepI g) (firstI g) (by decide)) h;refine⟨?_,hN⟩;have hstep:∀(st:List Lr) (k:Nat) (y:Sym),(symsL g)[k]?=some y→(stepI g st)[k]?=some (if kern g st y=[] then none else some (closL g (kern g st y))):=fun st k y hk=>map_at hk;exact {
  len:=hN.len
  ok:=hN.all (P:=fun st=>∀x∈st,OkLr g x) closL_ok (fun st s _ hs=>by
   obtain⟨y,_,hy⟩:=List.mem_map.1 hs;split at hy
   ·cases hy
   ·obtain rfl:=Option.some.inj hy;exact closL_ok)
  zero:=⟨_,hN.first,fun z=>mem_closL start_ok⟩
  from_:=fun s st hp hs=>by
   obtain⟨k,sk,_,_,h3,h4⟩:=hN.from_ s st hp hs;obtain⟨y,_,hy⟩:=List.mem_map.1 h4;split at hy
   ·cases hy
   ·rename_i hne;obtain rfl:=Option.some.inj hy;exact⟨_,fun x hx=>(kern_ok x hx).2,hne,fun z=>mem_closL fun x hx=>(kern_ok x hx).1⟩
  row:=fun s st row hs hr=>by
   rw[(hN.row s st row hs hr).len];unfold stepI;rw[List.length_map,symsL_len]
  no:=fun s k st row y hs hr hk he=>(hN.row s st row hs hr).no k (by rw[hstep st k y hk,if_pos he])
  yes:=fun s k st row y hs hr hk he=>by
   obtain⟨j,h1,h2⟩:=(hN.row s st row hs hr).yes k _ (by rw[hstep st k y hk,if_neg he]);exact⟨j,_,h1,h2,fun z=>mem_closL fun x hx=>(kern_ok x hx).1⟩ }
inductive Rch(g:Gram):Nat→Prop
 | start:Rch g g.start
 | more {r:Rule} {m:Nat}:r∈g.rules→Rch g r.left→⟨false,m⟩∈r.right→Rch g m
inductive Fol(g:Gram):Nat→Nat→Prop
 | start:Fol g g.start g.terms
 | beg {r:Rule} {pre post:List Sym} {m t:Nat}:r∈g.rules→Rch g r.left→r.right=pre++⟨false,m⟩::post→BegL g post t→Fol g m t
 | pass {r:Rule} {pre post:List Sym} {m t:Nat}:r∈g.rules→Rch g r.left→r.right=pre++⟨false,m⟩::post→NulL g post→Fol g r.left t→Fol g m t
inductive LalA(g:Gram)(I:List (List Lr))(rows:List (List Int)):Nat→Lr→Nat→Prop
 | start:LalA g I rows 0 ⟨g.rules.length,0⟩ g.terms
 | goto {s s' t:Nat} {x:Lr} {y:Sym}:LalA g I rows s x t→itI I s x→afterL g x=some y→goR g rows s y=some s'→LalA g I rows s' ⟨x.rule,x.dot+1⟩ t
 | beg0 {x:Lr} {k t:Nat} {r:Rule}:itI I 0 x→afterL g x=some ⟨false,r.left⟩→g.rules[k]?=some r→BegL g (restL g x) t→LalA g I rows 0 ⟨k,0⟩ t
 | beg {s s' u t k:Nat} {v x:Lr} {y:Sym} {r:Rule}:LalA g I rows s v u→itI I s v→goR g rows s y=some s'→itI I s' x→afterL g x=some ⟨false,r.left⟩→g.rules[k]?=some r→BegL g (restL g x) t→LalA g I rows s' ⟨k,0⟩ t
 | pass {s t k:Nat} {x:Lr} {r:Rule}:LalA g I rows s x t→itI I s x→afterL g x=some ⟨false,r.left⟩→g.rules[k]?=some r→NulL g (restL g x)→LalA g I rows s ⟨k,0⟩ t
noncomputable def lookS(g:Gram)(I:List (List Lr))(la:Nat→Lr→Nat→Prop):List (List Look):=(List.range I.length).map fun s=>(I.getD s []).map fun x=>⟨x,maskOf (la s x) (g.terms+1)⟩
def laK(S:List (List Look))(s:Nat)(x:Lr)(t:Nat):Prop:=∃st m,S[s]?=some st∧⟨x,m⟩∈st∧m.testBit t=true
theorem lookS_at{g:Gram}{I:List (List Lr)}{la:Nat→Lr→Nat→Prop}{s:Nat}:(lookS g I la)[s]?=(I[s]?).map fun st=>st.map fun x=>⟨x,maskOf (la s x) (g.terms+1)⟩:=by
 unfold lookS;rw[List.getElem?_map];by_cases h:s<I.length
 ·rw[List.getElem?_range h,gE h,Option.map_some,Option.map_some,List.getD_eq_getElem?_getD,gE h];rfl
 ·rw[List.getElem?_eq_none (by simpa using h),List.getElem?_eq_none zo];rfl
theorem LalA.le{g:Gram}(hg:Valid g){I:List (List Lr)}{rows:List (List Int)}{s:Nat}{x:Lr}{t:Nat}(h:LalA g I rows s x t):t≤g.terms:=by
 induction h with
 | start=>exact Nat.le_refl _
 | goto _ _ _ _ ih=>exact ih
 | beg0 _ _ _ h=>exact Nat.le_of_lt (rest_lt hg h)
 | beg _ _ _ _ _ _ h _=>exact Nat.le_of_lt (rest_lt hg h)
 | pass _ _ _ _ _ ih=>exact ih
def bitsL(l:List Look)(x:Lr)(t:Nat):Prop:=∃m,(⟨x,m⟩:Look)∈l∧m.testBit t=true
def mergeL:List Look→List Look→List Look
 | r::rs,x::xs=>⟨r.item,r.set ||| x.set⟩::mergeL rs xs
 | rs,_=>rs
theorem mergeL_items:∀(row l:List Look),itemsK (mergeL row l)=itemsK row
 | [],l=>by cases l<;>rfl
 | r::rs,[]=>rfl
 | r::rs,x::xs=>by
  have:=mergeL_items rs xs;unfold itemsK at this ⊢;show r.item::_=r.item::_;rw[this]
theorem mergeL_bits:∀{row l:List Look},itemsK row=itemsK l→∀x t,bitsL (mergeL row l) x t↔bitsL row x t∨bitsL l x t
 | [],[],_,x,t=>by unfold mergeL;exact⟨.inl,fun h=>h.elim id id⟩
 | [],_::_,h,_,_=>by cases h
 | _::_,[],h,_,_=>by cases h
 | r::rs,y::ys,h,x,t=>by
  unfold itemsK at h;simp only[List.map_cons,List.cons.injEq] at h;obtain⟨h1,h2⟩:=h;have ih:=mergeL_bits (row:=rs) (l:=ys) h2 x t;obtain⟨ri,rm⟩:=r;obtain⟨yi,ym⟩:=y;dsimp only at h1;subst h1;have hc:∀(z:Look) (l:List Look),bitsL (z::l) x t↔(z.item=x∧z.set.testBit t=true)∨bitsL l x t:=fun z l=>by
   obtain⟨zi,zm⟩:=z;constructor
   ·rintro⟨m,hm,ht⟩;rcases List.mem_cons.1 hm with e | e
    ·simp only[Look.mk.injEq] at e;exact .inl ⟨e.1.symm,by rw[←e.2];exact ht⟩
    ·exact .inr ⟨m,e,ht⟩
   ·rintro(⟨h1,h2⟩ | ⟨m,hm,ht⟩)
    ·exact⟨zm,by dsimp only at h1;rw[h1];exact List.mem_cons_self ..,h2⟩
    ·exact⟨m,List.mem_cons_of_mem _ hm,ht⟩
  show bitsL (⟨ri,rm ||| ym⟩::mergeL rs ys) x t↔_
  rw[hc,hc,hc,ih];dsimp only;rw[Nat.testBit_or,Bool.or_eq_true];constructor
  ·rintro(⟨h3,h4 | h4⟩ | h3 | h3)
   ·exact .inl (.inl ⟨h3,h4⟩)
   ·exact .inr (.inl ⟨h3,h4⟩)
   ·exact .inl (.inr h3)
   ·exact .inr (.inr h3)
  ·rintro((⟨h3,h4⟩ | h3) | (⟨h3,h4⟩ | h3))
   ·exact .inl ⟨h3,.inl h4⟩
   ·exact .inr (.inl h3)
   ·exact .inl ⟨h3,.inr h4⟩
   ·exact .inr (.inr h3)
theorem mergeL_small{B:Nat}:∀{row l:List Look},(∀x∈row,x.set<2 ^ B)→(∀x∈l,x.set<2 ^ B)→∀x∈mergeL row l,x.set<2 ^ B
 | [],l,h,_,x,hx=>by cases l<;>exact h x hx
 | r::rs,[],h,_,x,hx=>h x hx
 | r::rs,y::ys,h1,h2,x,hx=>by
  rcases List.mem_cons.1 hx with e | e
  ·rw[e];exact Nat.or_lt_two_pow (h1 r me) (h2 y me)
  ·exact mergeL_small (fun x hx=>h1 x (List.mem_cons_of_mem _ hx)) (fun x hx=>h2 x (List.mem_cons_of_mem _ hx)) x e
theorem laK_iff{S:List (List Look)}{s:Nat}{x:Lr}{t:Nat}:laK S s x t↔∃st,S[s]?=some st∧bitsL st x t:=
 ⟨fun ⟨st,m,h1,h2,h3⟩=>⟨st,h1,m,h2,h3⟩,fun ⟨st,h1,m,h2,h3⟩=>⟨st,m,h1,h2,h3⟩⟩
theorem laK_set{L:List (List Look)}{k:Nat}{row l:List Look}(hk:L[k]?=some row)(hi:itemsK row=itemsK l){s:Nat}{x:Lr}{t:Nat}:laK (L.set k (mergeL row l)) s x t↔laK L s x t∨(s=k∧bitsL l x t):=by
 have hlt:=(gS hk).1;rw[laK_iff,laK_iff];by_cases e:s=k
 ·subst e;rw[List.getElem?_set_self hlt];constructor
  ·rintro⟨st,h1,h2⟩;obtain rfl:=Option.some.inj h1;rcases (mergeL_bits hi x t).1 h2 with h3 | h3
   ·exact .inl ⟨row,hk,h3⟩
   ·exact .inr ⟨rfl,h3⟩
  ·rintro(⟨st,h1,h2⟩ | ⟨_,h2⟩)
   ·rw[hk] at h1;obtain rfl:=Option.some.inj h1;exact⟨_,rfl,(mergeL_bits hi x t).2 (.inl h2)⟩
   ·exact⟨_,rfl,(mergeL_bits hi x t).2 (.inr h2)⟩
 ·rw[List.getElem?_set_ne (fun e2=>e e2.symm)];exact⟨.inl,fun h=>h.resolve_right fun h2=>e h2.1⟩
section
variable {g:Gram}{I:List (List Lr)}{rows:List (List Int)}
structure LaI(g:Gram)(I:List (List Lr))(rows:List (List Int))(L:List (List Look)):Prop where
 items:L.map itemsK=I
 small:∀st∈L,∀x∈st,x.set<2 ^ (g.terms+1)
 snd:∀s x t,laK L s x t→LalA g I rows s x t
 pass:∀s x t k r,laK L s x t→afterL g x=some ⟨false,r.left⟩→g.rules[k]?=some r→NulL g (restL g x)→laK L s ⟨k,0⟩ t
def CloA(g:Gram)(rows:List (List Int))(L:List (List Look))(s:Nat)(y:Sym):Prop:=∀s' st,goR g rows s y=some s'→L[s]?=some st→∀z t,LAc g (kernK g st y) z t→laK L s' z t
def ZeroA(L:List (List Look))(s:Nat):Prop:=∀x t,¬laK L s x t
theorem LaI.it{L:List (List Look)}(h:LaI g I rows L){s:Nat}{x:Lr}{t:Nat}(hl:laK L s x t):itI I s x:=by
 obtain⟨st,m,h1,h2,_⟩:=hl;refine⟨itemsK st,?_,List.mem_map.2 ⟨_,h2,rfl⟩⟩;rw[←h.items,List.getElem?_map,h1];rfl
theorem LaI.put{L:List (List Look)}(h:LaI g I rows L){k:Nat}{row l:List Look}(hk:L[k]?=some row)(hi:itemsK row=itemsK l)(hl:∀x∈l,x.set<2 ^ (g.terms+1))
  (hs:∀x t,bitsL l x t→LalA g I rows k x t) (hp:∀x t j r,bitsL l x t→afterL g x=some ⟨false,r.left⟩→g.rules[j]?=some r→NulL g (restL g x)→bitsL l ⟨j,0⟩ t):LaI g I rows (L.set k (mergeL row l)):=by
 have hlt:=(gS hk).1;refine⟨?_,fun st hst=>?_,fun s x t ht=>?_,fun s x t j r ht h1 h2 h3=>?_⟩
 ·rw[←h.items,List.map_set,mergeL_items];apply List.ext_getElem?;intro i;by_cases e:i=k
  ·subst e;rw[List.getElem?_set_self (by simpa using hlt),List.getElem?_map,hk];rfl
  ·rw[List.getElem?_set_ne (fun e2=>e e2.symm)]
 ·rcases List.mem_or_eq_of_mem_set hst with h1 | h1
  ·exact h.small st h1
  ·rw[h1];exact mergeL_small (h.small row (gM hk)) hl
 ·rcases (laK_set hk hi).1 ht with h1 | ⟨rfl,h1⟩
  ·exact h.snd _ _ _ h1
  ·exact hs _ _ h1
 ·rw[laK_set hk hi] at ht ⊢;rcases ht with h4 | ⟨rfl,h4⟩
  ·exact .inl (h.pass _ _ _ _ _ h4 h1 h2 h3)
  ·exact .inr ⟨rfl,hp _ _ _ _ h4 h1 h2 h3⟩
theorem closeK_bits(hg:Valid g){l:List Look}(hl:∀x∈itemsK l,OkLr g x){z:Lr}{t:Nat}:bitsL (closeK g l) z t↔LAc g l z t:=look_closeK hg hl
theorem closeK_small{l:List Look}:∀x∈closeK g l,x.set<2 ^ (g.terms+1):=fun x hx=>by
 obtain⟨z,_,rfl⟩:=List.mem_map.1 hx;exact maskOf_lt _ _
theorem goto_exact(hg:Valid g)(h:autoI g=some (I,rows)){s s':Nat}{y:Sym}{st:List Lr}(hgo:goR g rows s y=some s')(hs:I[s]?=some st):I[s']?=some (closL g (kern g st y)):=by
 obtain⟨hA,hN⟩:=autoI_ok h;obtain⟨st2,st',h4,h5,_,h6⟩:=hA.goes hg hgo;rw[hs] at h4;obtain rfl:=Option.some.inj h4
 have hst:Strict st':=hN.all (P:=Strict) (closL_strict g _) (fun a b _ hb=>by
  obtain⟨y,_,hy⟩:=List.mem_map.1 hb;split at hy
  ·cases hy
  ·obtain rfl:=Option.some.inj hy;exact closL_strict g _) s' st' h5
 rw[h5,closL_eq (fun x hx=>(kern_ok x hx).1) hst h6]
theorem LaI.goto(hg:Valid g)(hau:autoI g=some (I,rows)){L:List (List Look)}(h:LaI g I rows L){s s':Nat}{y:Sym}(hgo:goR g rows s y=some s'){st row:List Look}(hs:L[s]?=some st)(hk:L[s']?=some row)(hne:¬ZeroA L s) :
  itemsK row=itemsK (closeK g (kernK g st y))∧LaI g I rows (L.set s' (mergeL row (closeK g (kernK g st y)))):=by
 have hIs:I[s]?=some (itemsK st):=by rw[←h.items,List.getElem?_map,hs];rfl
 have hIk:I[s']?=some (itemsK row):=by rw[←h.items,List.getElem?_map,hk];rfl
 have hex:=goto_exact hg hau hgo hIs;rw[hIk] at hex;have hi:itemsK row=itemsK (closeK g (kernK g st y)):=by rw[closeK_items,kernK_items];exact Option.some.inj hex
 have hok:∀x∈itemsK (kernK g st y),OkLr g x:=fun x hx=>by rw[kernK_items] at hx;exact(kern_ok x hx).1
 refine⟨hi,h.put hk hi closeK_small (fun x t ht=>?_) (fun x t j r ht h1 h2 h3=>?_)⟩
 ·rw[closeK_bits hg hok] at ht;have hit:∀{x:Lr},Clos g (itemsK (kernK g st y)) x→itI I s' x:=fun {x} hx=>⟨itemsK row,hIk,by rw[hi,closeK_items];exact(mem_closL hok).2 hx⟩;have hsome:∃v u,laK L s v u:=by
   refine Classical.byContradiction fun hn=>hne fun x t hx=>hn ⟨x,t,hx⟩
  obtain⟨v,u,hvu⟩:=hsome
  induction ht with
  | base h4 h5 _=>
   obtain⟨x0,h6,h7,rfl⟩:=mem_kernK.1 h4;exact .goto (h.snd _ _ _ ⟨st,_,hs,h6,h5⟩) ⟨itemsK st,hIs,List.mem_map.2 ⟨_,h6,rfl⟩⟩ h7 hgo
  | beg h4 h5 h6 h7=>exact .beg (h.snd _ _ _ hvu) (h.it hvu) hgo (hit h4) h5 h6 h7
  | pass h4 h5 h6 h7 _ ih=>exact .pass ih (hit h4) h5 h6 h7
 ·rw[closeK_bits hg hok] at ht ⊢;exact .pass ht.clos h1 h2 h3 ht
theorem LaI.zero(hsm:True):LaI g I rows (I.map fun st=>st.map fun x=>(⟨x,0⟩:Look))∧∀s,ZeroA (I.map fun st=>st.map fun x=>(⟨x,0⟩:Look)) s:=by
 have hz:∀s x t,¬laK (I.map fun st=>st.map fun x=>(⟨x,0⟩:Look)) s x t:=fun s x t ⟨st,m,h1,h2,h3⟩=>by
  rw[List.getElem?_map] at h1;cases hI:I[s]? with
  | none=>rw[hI] at h1;cases h1
  | some st0=>
   rw[hI] at h1;obtain rfl:=Option.some.inj h1;obtain⟨x0,_,e⟩:=List.mem_map.1 h2;simp only[Look.mk.injEq] at e;rw[←e.2] at h3;simp at h3
 refine⟨⟨?_,fun st hst x hx=>?_,fun s x t ht=>absurd ht (hz s x t),fun s x t k r ht=>absurd ht (hz s x t)⟩,hz⟩
 ·rw[List.map_map];have:(itemsK ∘ fun st:List Lr=>st.map fun x=>(⟨x,0⟩:Look))=id:=by
   funext st;show (st.map fun x=>(⟨x,0⟩:Look)).map (·.item)=st;rw[List.map_map];exact List.map_id _
  rw[this,List.map_id]
 ·obtain⟨st0,_,rfl⟩:=List.mem_map.1 hst;obtain⟨x0,_,rfl⟩:=List.mem_map.1 hx;exact Nat.two_pow_pos _
def Started(g:Gram)(L:List (List Look)):Prop:=∀z t,LAc g [⟨⟨g.rules.length,0⟩,2 ^ g.terms⟩] z t→laK L 0 z t
theorem LaI.done(hg:Valid g)(hau:autoI g=some (I,rows)){L:List (List Look)}(h:LaI g I rows L)(hst:Started g L)(hc:∀s,ZeroA L s∨∀y,CloA g rows L s y):L=lookS g I (LalA g I rows):=by
 obtain⟨hA,hN⟩:=autoI_ok hau;obtain⟨st0,hst0,hz⟩:=hA.zero;have hfull:∀{s:Nat} {x:Lr} {t:Nat},LalA g I rows s x t→laK L s x t:=by
  intro s x t hl;have hgo:∀{s s':Nat} {v:Lr} {u:Nat} {y:Sym},laK L s v u→goR g rows s y=some s'→∃st,L[s]?=some st∧I[s]?=some (itemsK st)∧∀z t,LAc g (kernK g st y) z t→laK L s' z t:=fun {s s' v u y} h1 h2=>by
   obtain⟨st,m,h3,_,_⟩:=id h1;exact⟨st,h3,by rw[←h.items,List.getElem?_map,h3];rfl,(hc s).resolve_left (fun hz=>hz _ _ h1) y s' st h2 h3⟩
  induction hl with
  | start=>exact hst _ _ (.base (List.mem_singleton_self _) (by rw[Nat.testBit_two_pow_self]) (Nat.le_refl _))
  | goto h1 h2 h3 h4 ih=>
   obtain⟨st,e1,_,e2⟩:=hgo ih h4;obtain⟨st',m,e3,e4,e5⟩:=id ih;rw[e1] at e3;obtain rfl:=Option.some.inj e3;exact e2 _ _ (.base (mem_kernK.2 ⟨_,e4,h3,rfl⟩) e5 (h1.le hg))
  | beg0 h1 h2 h3 h4=>
   obtain⟨st',e1,e2⟩:=h1;rw[hst0] at e1;obtain rfl:=Option.some.inj e1;exact hst _ _ (.beg ((hz _).1 e2) h2 h3 h4)
  | beg h1 h2 h3 h4 h5 h6 h7 ih=>
   obtain⟨st,e1,e3,e2⟩:=hgo ih h3;obtain⟨st',e4,e5⟩:=h4;have hex:=goto_exact hg hau h3 e3;rw[e4] at hex;obtain rfl:=Option.some.inj hex;refine e2 _ _ (.beg ?_ h5 h6 h7);rw[kernK_items];exact(mem_closL fun x hx=>(kern_ok x hx).1).1 e5
  | pass h1 h2 h3 h4 h5 ih=>exact h.pass _ _ _ _ _ ih h3 h4 h5
 apply List.ext_getElem?;intro s;rw[lookS_at];cases hL:L[s]? with
 | none=>
  have:I[s]?=none:=by rw[←h.items,List.getElem?_map,hL];rfl
  rw[this];rfl
 | some st=>
  have hIs:I[s]?=some (itemsK st):=by rw[←h.items,List.getElem?_map,hL];rfl
  rw[hIs];simp only[Option.map_some,Option.some.injEq]
  have hnd:(itemsK st).Nodup:=(hN.all (P:=Strict) (closL_strict g _) (fun a b _ hb=>by
   obtain⟨y,_,hy⟩:=List.mem_map.1 hb;split at hy
   ·cases hy
   ·obtain rfl:=Option.some.inj hy;exact closL_strict g _) s _ hIs).nodupL
  unfold itemsK at hnd ⊢;rw[List.map_map];have hkey:∀x∈st,x=(⟨x.item,maskOf (LalA g I rows s x.item) (g.terms+1)⟩:Look):=fun x hx=>by
   obtain⟨xi,xm⟩:=x;simp only[Look.mk.injEq,true_and];refine mask_uniq (h.small st (gM hL) _ hx) fun t=>⟨fun ht=>?_,fun ht=>?_⟩
   ·have:=h.snd s xi t ⟨st,xm,hL,hx,ht⟩;exact⟨Nat.lt_succ_of_le (this.le hg),this⟩
   ·obtain⟨st',m,e1,e2,e3⟩:=hfull ht.2;rw[hL] at e1;obtain rfl:=Option.some.inj e1;have:m=xm:=by
     have hpw:=List.pairwise_map.1 hnd;refine Classical.byContradiction fun hne=>?_;obtain⟨p,hp⟩:=List.getElem?_of_mem hx;obtain⟨q,hq⟩:=List.getElem?_of_mem e2;have hp1:=(gS hp).1;have hq1:=(gS hq).1;have hpq:p≠q:=fun e=>by
      subst e;rw[hp] at hq;simp only[Option.some.injEq,Look.mk.injEq,true_and] at hq;exact hne hq.symm
     have ep:st[p]=⟨xi,xm⟩:=(gS hp).2;have eq_:st[q]=⟨xi,m⟩:=(gS hq).2;have hall:=List.pairwise_iff_getElem.1 hpw;rcases Nat.lt_or_ge p q with h6 | h6
     ·exact hall p q hp1 hq1 h6 (by rw[ep,eq_])
     ·exact hall q p hq1 hp1 zo (by rw[ep,eq_])
    rw[←this];exact e3
  have:st.map (fun x=>(⟨x.item,maskOf (LalA g I rows s x.item) (g.terms+1)⟩:Look))=st:=by
   conv=>rhs;rw[←List.map_id st]
   exact List.map_congr_left fun x hx=>(hkey x hx).symm
  exact this.symm
end
structure Tab where
 act:List (List (Nat×Nat))
 go:List (List Int)
 conf:List (Nat×Nat×List (Nat×Nat))
def decA:Nat×Nat→Act
 | (1,j)=>.shift j
 | (2,k)=>.red k
 | (3,_)=>.acc
 | _=>.no
def actT(T:Tab)(s t:Nat):Act:=decA ((T.act.getD s []).getD t (0,0))
def nameF{σ:Type}(key:σ→List UInt8):List σ→List UInt8
 | []=>[]
 | x::l=>key x++59::nameF key l
end Go.Proofs.D
set_option linter.unusedVariables false
set_option maxRecDepth 20000
set_option maxHeartbeats 0
open Go Go.Abs Go.Proofs Go.Proofs.D
namespace Go.Abs
section
variable {C:Ctx}{T:RT}{n:Nat}{k:Kno}{F:Frz}{own:Own}{ops rest:List Oper}{o:Oper}{Q:Kno→Frz→Own→List Rec→Prop}
end
end Go.Abs
namespace Go.Proofs.D
def LrOk(g:Gram)(x:Lr):Prop:=x.rule≤g.rules.length∧x.dot≤(if x.rule=g.rules.length then 1 else ((g.rules[x.rule]?).map (·.right.length)).getD 0)
theorem Clos.ok{g:Gram}{l:List Lr}(hl:∀x∈l,LrOk g x){x:Lr}(h:Clos g l x):LrOk g x:=by
 induction h with
 | base h=>exact hl _ h
 | more _ _ h _ _=>exact⟨Nat.le_of_lt (gS h).1,Nat.zero_le _⟩
structure ISt where
 xs:List Lr
 a:Option Addr
 c:Nat
 B:List (Nat×Blk)
structure SyS where
 a:Option Addr
 m:Nat
 c:Nat
 B:List (Nat×Blk)
structure NxS where
 a:Option Addr
 m:Nat
 c:Nat
 B:List (Nat×Blk)
 l:List Lr
end Go.Proofs.D
set_option linter.unusedVariables false
set_option maxRecDepth 20000
set_option maxHeartbeats 0
open Go Go.Abs Go.Proofs Go.Proofs.D
namespace Go.Abs
section
variable {C:Ctx}{T:RT}{n:Nat}{k:Kno}{F:Frz}{own:Own}{ops rest:List Oper}{o:Oper}{Q:Kno→Frz→Own→List Rec→Prop}{α:Type}{R:Ty α}
end
end Go.Abs
namespace Go.Proofs.D
def idxD{α:Type}[DecidableEq α](s:α)(S:List α):Nat:=S.idxOf s
theorem idxD_old{α:Type}[DecidableEq α]{s:α}{S T:List α}(h:s∈S):idxD s (S++T)=idxD s S:=by
 unfold idxD;rw[List.idxOf_append,if_pos h]
theorem idxD_new{α:Type}[DecidableEq α]{s:α}{S:List α}(h:s∉S):idxD s (S++[s])=S.length:=by
 unfold idxD;rw[List.idxOf_append,if_neg h];simp
def MapOk{σ:Type}[DecidableEq σ](key:σ→List UInt8)(P:List σ→Prop)(es:Ents (List UInt8))(S:List (List σ)):Prop:=∀s,P s→Abs.look es (nameF key s)=if s∈S then some (.int .i64 (idxD s S:Nat)) else none
theorem MapOk.add{σ:Type}[DecidableEq σ]{key:σ→List UInt8}{P:List σ→Prop}{es:Ents (List UInt8)}{S:List (List σ)}(h:MapOk key P es S)(hinj:∀s s',P s→P s'→nameF key s=nameF key s'→s=s'){s:List σ}(hs:P s)(hn:s∉S) :
  MapOk key P (mset es (nameF key s) (.int .i64 (S.length:Nat))) (S++[s]):=by
 intro s' hs';rw[look_mset];by_cases e:s'=s
 ·subst e;rw[if_pos rfl,if_pos (List.mem_append_right _ (List.mem_singleton_self _))];rw[idxD_new hn]
 ·rw[if_neg (fun e2=>e (hinj s' s hs' hs e2)),h s' hs'];by_cases hm:s'∈S
  ·rw[if_pos hm,if_pos (List.mem_append_left _ hm)];rw[idxD_old hm]
  ·rw[if_neg hm,if_neg];intro h2;rcases List.mem_append.1 h2 with h2 | h2
   ·exact hm h2
   ·exact e (List.mem_singleton.1 h2)
theorem MapOk.one{σ:Type}[DecidableEq σ]{key:σ→List UInt8}{P:List σ→Prop}(hinj:∀s s',P s→P s'→nameF key s=nameF key s'→s=s'){s:List σ}(hs:P s):MapOk key P (mset [] (nameF key s) (.int .i64 0)) [s]:=
 MapOk.add (S:=[]) (es:=[]) (fun s' _=>by simp[Abs.look]) hinj hs (by simp)
structure NmOI where
 i:Nat
 sts:List (List Lr)
 rows:List (List Int)
 sa:Option Addr
 sn:Nat
 sc:Nat
 SB:List (Nat×Blk)
 ta:Option Addr
 tn:Nat
 tc:Nat
 TB:List (Nat×Blk)
 es:Ents (List UInt8)
structure NmRI where
 sts:List (List Lr)
 row:List Int
 sa:Option Addr
 sn:Nat
 sc:Nat
 SB:List (Nat×Blk)
 ra:Option Addr
 rn:Nat
 rc:Nat
 RB:List (Nat×Blk)
 es:Ents (List UInt8)
def lkV(x:Look):List Value:=[.int .i64 x.item.rule,.int .i64 x.item.dot,.int .u32 x.set]
def FSnd(g:Gram)(E:List Bool)(Fi:List (List Bool)):Prop:=(∀n,E.getD n false=true→Nul g n)∧∀n t,(Fi.getD n []).getD t false=true→Beg g n t
theorem orRow_get:∀{xs ys:List Bool} {t:Nat},(orRow xs ys).getD t false=true→xs.getD t false=true∨ys.getD t false=true
 | [],_,_,h=>by simp[orRow] at h
 | _::_,[],_,h=>by simp[orRow] at h
 | x::xs,y::ys,0,h=>by simp only[orRow,List.zipWith_cons_cons,List.getD_cons_zero] at h;simpa using h
 | x::xs,y::ys,t+1,h=>by
  simp only[orRow,List.zipWith_cons_cons,List.getD_cons_succ] at h;exact orRow_get (xs:=xs) (ys:=ys) h
theorem orRow_left:∀{xs ys:List Bool} {t:Nat},xs.length=ys.length→(xs.getD t false=true∨ys.getD t false=true)→(orRow xs ys).getD t false=true
 | [],[],_,_,h=>by simp at h
 | [],_::_,_,hl,_=>by simp at hl
 | _::_,[],_,hl,_=>by simp at hl
 | x::xs,y::ys,0,_,h=>by simp only[orRow,List.zipWith_cons_cons,List.getD_cons_zero] at h ⊢;simpa using h
 | x::xs,y::ys,t+1,hl,h=>by
  simp only[orRow,List.zipWith_cons_cons,List.getD_cons_succ] at h ⊢;exact orRow_left (xs:=xs) (ys:=ys) (by simpa using hl) h
theorem set_get{l:List Bool}{n t:Nat}(h:(l.set n true).getD t false=true):t=n∨l.getD t false=true:=by
 by_cases e:t=n
 ·exact .inl e
 ·right;rw[List.getD_eq_getElem?_getD,List.getElem?_set_ne (fun e2=>e e2.symm)] at h;rw[List.getD_eq_getElem?_getD];exact h
theorem ofRow_sound{g:Gram}{E:List Bool}{Fi:List (List Bool)}(h:FSnd g E Fi):∀(l:List Sym) (out:List Bool),(∀t,(ofRow E Fi out l).1.getD t false=true→out.getD t false=true∨BegL g l t)∧((ofRow E Fi out l).2=true→NulL g l)
 | [],out=>⟨fun t ht=>.inl ht,fun _=>NulL.nil⟩
 | s::l,out=>by
  obtain⟨b,n⟩:=s;unfold ofRow;cases b with
  | true=>
   rw[if_pos rfl];refine⟨fun t ht=>?_,fun h=>(by cases h)⟩;rcases set_get ht with rfl | h2
   ·exact .inr (BegL.head (.inl rfl))
   ·exact .inl h2
  | false=>
   rw[if_neg (by simp)];have hrow:∀t,(orRow out (Fi.getD n [])).getD t false=true→out.getD t false=true∨BegL g (⟨false,n⟩::l) t:=fun t ht=>by
    rcases orRow_get ht with h2 | h2
    ·exact .inl h2
    ·exact .inr (BegL.head (.inr ⟨rfl,h.2 n t h2⟩))
   split
   ·rename_i hE;obtain⟨h1,h2⟩:=ofRow_sound h l (orRow out (Fi.getD n []));refine⟨fun t ht=>?_,fun ht=>NulL.cons rfl (h.1 n hE) (h2 ht)⟩;rcases h1 t ht with h3 | h3
    ·exact hrow t h3
    ·exact .inr (BegL.cons rfl (h.1 n hE) h3)
   ·exact⟨fun t ht=>hrow t ht,fun h=>(by cases h)⟩
theorem zeros_get{n t:Nat}:¬(List.replicate n false).getD t false=true:=by
 rw[List.getD_eq_getElem?_getD,List.getElem?_replicate];split<;>simp
theorem FSnd.zero{g:Gram}:FSnd g (List.replicate g.nons false) (List.replicate g.nons (List.replicate g.terms false)):=by
 refine⟨fun n h=>absurd h zeros_get,fun n t h=>?_⟩;rw[List.getD_eq_getElem?_getD,List.getD_eq_getElem?_getD,List.getElem?_replicate] at h;split at h
 ·rw[←List.getD_eq_getElem?_getD] at h;exact absurd h zeros_get
 ·simp at h
theorem FSnd.step{g:Gram}{E:List Bool}{Fi:List (List Bool)}{r:Rule}(hr:r∈g.rules)(h:FSnd g E Fi){E':List Bool}(hE':E'=E∨(E'=E.set r.left true∧(ofRow E Fi (List.replicate g.terms false) r.right).2=true)) :
  FSnd g E' (Fi.set r.left (orRow (Fi.getD r.left []) (ofRow E Fi (List.replicate g.terms false) r.right).1)):=by
 obtain⟨h1,h2⟩:=ofRow_sound h r.right (List.replicate g.terms false);refine⟨fun n hn=>?_,fun n t hn=>?_⟩
 ·rcases hE' with rfl | ⟨rfl,he⟩
  ·exact h.1 n hn
  ·rcases set_get hn with rfl | h3
   ·exact .of hr (h2 he)
   ·exact h.1 n h3
 ·by_cases e:n=r.left
  ·subst e;rw[List.getD_eq_getElem?_getD (l:=Fi.set _ _),List.getElem?_set] at hn;rw[if_pos rfl] at hn;split at hn
   ·rw[Option.getD_some] at hn;rcases orRow_get hn with h3 | h3
    ·exact h.2 _ _ h3
    ·rcases h1 t h3 with h4 | h4
     ·exact absurd h4 zeros_get
     ·exact .of hr h4
   ·simp at hn
  ·rw[List.getD_eq_getElem?_getD (l:=Fi.set _ _),List.getElem?_set_ne (fun e2=>e e2.symm),←List.getD_eq_getElem?_getD] at hn;exact h.2 n t hn
section
variable {g:Gram}{E:List Bool}{Fi:List (List Bool)}
theorem ofRow_keep(hrow:∀n,n<g.nons→(Fi.getD n []).length=g.terms){t:Nat}:∀(l:List Sym) (out:List Bool),(∀s∈l,SymOk g.terms g.nons s)→out.length=g.terms→out.getD t false=true→(ofRow E Fi out l).1.getD t false=true
 | [],out,_,_,h=>h
 | s::l,out,hs,hl,h=>by
  unfold ofRow;split
  ·rw[List.getD_eq_getElem?_getD,List.getElem?_set];split
   ·split
    ·rfl
    ·rename_i h1 h2;subst h1;rw[List.getD_eq_getElem?_getD,List.getElem?_eq_none zo] at h;simp at h
   ·rw[←List.getD_eq_getElem?_getD];exact h
  ·rename_i ht;have hn:s.n<g.nons:=by have:=hs s me;unfold SymOk at this;rw[if_neg ht] at this;exact this
   have h2:(orRow out (Fi.getD s.n [])).length=g.terms:=by rw[orRow_len (by rw[hl,hrow _ hn])];exact hl
   have h3:(orRow out (Fi.getD s.n [])).getD t false=true:=orRow_left (by rw[hl,hrow _ hn]) (.inl h);split
   ·exact ofRow_keep hrow l _ (fun x hx=>hs x (List.mem_cons_of_mem _ hx)) h2 h3
   ·exact h3
theorem ofRow_null:∀(l:List Sym) (out:List Bool),(∀s∈l,s.term=false∧E.getD s.n false=true)→(ofRow E Fi out l).2=true
 | [],_,_=>rfl
 | s::l,out,h=>by
  obtain⟨h1,h2⟩:=h s me;unfold ofRow;rw[if_neg (by rw[h1];simp),if_pos h2];exact ofRow_null l _ fun x hx=>h x (List.mem_cons_of_mem _ hx)
theorem ofRow_beg(hrow:∀n,n<g.nons→(Fi.getD n []).length=g.terms){t:Nat}{s:Sym}{post:List Sym}(hs:(s=⟨true,t⟩)∨(s.term=false∧(Fi.getD s.n []).getD t false=true)) :
  ∀(pre:List Sym) (out:List Bool),(∀x∈pre++s::post,SymOk g.terms g.nons x)→out.length=g.terms→(∀x∈pre,x.term=false∧E.getD x.n false=true)→(ofRow E Fi out (pre++s::post)).1.getD t false=true
 | [],out,hok,hl,_=>by
  have hso:=hok s (List.mem_append_right _ me);rcases hs with rfl | ⟨h1,h2⟩
  ·show (ofRow E Fi out (⟨true,t⟩::post)).1.getD t false=true;unfold ofRow;rw[if_pos rfl];have ht:t<g.terms:=hso;show (out.set t true).getD t false=true;rw[List.getD_eq_getElem?_getD,List.getElem?_set_self zo];rfl
  ·have hn:s.n<g.nons:=by unfold SymOk at hso;rw[if_neg (by rw[h1];simp)] at hso;exact hso
   show (ofRow E Fi out (s::post)).1.getD t false=true;unfold ofRow;rw[if_neg (by rw[h1];simp)];have h3:(orRow out (Fi.getD s.n [])).length=g.terms:=by rw[orRow_len (by rw[hl,hrow _ hn])];exact hl
   have h4:(orRow out (Fi.getD s.n [])).getD t false=true:=orRow_left (by rw[hl,hrow _ hn]) (.inr h2);split
   ·exact ofRow_keep hrow post _ (fun x hx=>hok x (List.mem_append_right _ (List.mem_cons_of_mem _ hx))) h3 h4
   ·exact h4
 | x::pre,out,hok,hl,hp=>by
  obtain⟨h1,h2⟩:=hp x me;have hxo:=hok x me;have hn:x.n<g.nons:=by unfold SymOk at hxo;rw[if_neg (by rw[h1];simp)] at hxo;exact hxo
  show (ofRow E Fi out (x::(pre++s::post))).1.getD t false=true;unfold ofRow;rw[if_neg (by rw[h1];simp),if_pos h2];exact ofRow_beg hrow hs pre _ (fun y hy=>hok y (List.mem_cons_of_mem _ hy)) (by rw[orRow_len (by rw[hl,hrow _ hn])];exact hl) fun y hy=>hp y (List.mem_cons_of_mem _ hy)
structure FSet(g:Gram)(E:List Bool)(Fi:List (List Bool)):Prop where
 elen:E.length=g.nons
 flen:Fi.length=g.nons
 row:∀r∈Fi,r.length=g.terms
 nul:∀n,E.getD n false=true↔Nul g n
 beg:∀n t,(Fi.getD n []).getD t false=true↔Beg g n t
theorem FSet.rows(h:FSet g E Fi):∀n,n<g.nons→(Fi.getD n []).length=g.terms:=fun n hn=>by
 have:=gE (show n<Fi.length by rw[h.flen];exact hn);rw[List.getD_eq_getElem?_getD,this];exact h.row _ (List.getElem_mem _)
theorem FSet.list(h:FSet g E Fi){l:List Sym}(hl:∀s∈l,SymOk g.terms g.nons s):(∀t,(ofRow E Fi (List.replicate g.terms false) l).1.getD t false=true↔BegL g l t)∧((ofRow E Fi (List.replicate g.terms false) l).2=true↔NulL g l):=by
 obtain⟨h1,h2⟩:=ofRow_sound (E:=E) (Fi:=Fi) ⟨fun n hn=>(h.nul n).1 hn,fun n t ht=>(h.beg n t).1 ht⟩ l (List.replicate g.terms false);refine⟨fun t=>⟨fun ht=>(h1 t ht).resolve_left zeros_get,fun ht=>?_⟩,h2,fun hn=>ofRow_null _ _ fun s hs=>⟨(hn s hs).1,(h.nul _).2 (hn s hs).2⟩⟩;obtain⟨pre,s,post,rfl,hn,h3⟩:=ht;exact ofRow_beg h.rows (h3.imp id fun h4=>⟨h4.1,(h.beg _ _).2 h4.2⟩) pre _ hl (by simp) fun x hx=>⟨(hn x hx).1,(h.nul _).2 (hn x hx).2⟩
end
end Go.Proofs.D
set_option linter.unusedVariables false
set_option maxRecDepth 20000
set_option maxHeartbeats 0
open Go Go.Abs Go.Proofs Go.Proofs.D
namespace Go.Abs
section
variable {C:Ctx}{T:RT}{t:TypeId}{κ:Type}[DecidableEq κ](K:KeyTy C t κ)
variable {n:Nat}{k:Kno}{F:Frz}{own:Own}{ops rest:List Oper}{o:Oper}{Q:Kno→Frz→Own→List Rec→Prop}
end
end Go.Abs
namespace Go.Proofs.D
theorem lr_eqB(p q:Lr):(((p.rule:Int)==(q.rule:Int))&&(((p.dot:Int)==(q.dot:Int))&&true))=decide (p=q):=by
 rw[Bool.eq_iff_iff];obtain⟨a,b⟩:=p;obtain⟨a',b'⟩:=q;simp only[Bool.and_eq_true,beq_iff_eq,decide_eq_true_eq,Lr.mk.injEq,and_true];omega
noncomputable def keyLr:KeyTy CC 156 Lr where
 key:=fun x=>.agg ⟨[.int .i64 x.rule,.int .i64 x.dot]⟩
 ok:=fun p=>keyT_ok hT 8 _ _ rfl
 eq:=fun p q=>by
  have h:eqA CC 8 156 (.agg ⟨[.int .i64 p.rule,.int .i64 p.dot]⟩) (.agg ⟨[.int .i64 q.rule,.int .i64 q.dot]⟩)=some (decide (p=q)):=by
   rw[←lr_eqB];exact eqT_ok hT 8 _ _ _ _ rfl
  by_cases e:p=q
  ·exact .inl ⟨e,by rw[h];simp[e]⟩
  ·exact .inr ⟨e,by rw[h];simp[e]⟩
def bOf(es:Ents Lr)(x:Lr):Value:=(Abs.look es x).getD (.int .u32 0)
def eOf(es:Ents Lr)(x:Lr):Value:=(Abs.look es x).getD (.bool false)
noncomputable def bM(g:Gram)(x:Lr):Nat:=maskOf (BegL g (restL g x)) g.terms
noncomputable def eM(g:Gram)(x:Lr):Bool:=@decide (NulL g (restL g x)) (Classical.propDecidable _)
structure MakerF(F:Frz)(im:Nat)(g:Gram)(ra:Option Addr)(rm rc:Nat)(E:List Bool)(Fi:List (List Bool))(is:Nat)(eb ee:Ents Lr):Prop where
 blk:∃ib ie ro,F im=some (.cells ro [.int .i64 g.terms,.int .i64 g.nons,.int .i64 g.start,.slice ra rm rc,.pointer (some ⟨is,0,none⟩),.map (some ib),.map (some ie)])∧F ib=some (.map (entsV keyLr eb))∧F ie=some (.map (entsV keyLr ee))
 sets:SetsF F is g ra rm rc E Fi
 fset:FSet g E Fi
 beg:∀x y,afterL g x=some y→bOf eb x=.int .u32 (bM g x:Nat)
 nul:∀x y,afterL g x=some y→eOf ee x=.bool (eM g x)
structure MkS where
 eb:Ents Lr
 ee:Ents Lr
theorem bOf_mset(es:Ents Lr)(k x:Lr)(v:Value):bOf (mset es k v) x=if x=k then v else bOf es x:=by
 unfold bOf;rw[look_mset];split<;>rfl
theorem SetsF.mono{F G:Frz}{is:Nat}{g:Gram}{ra:Option Addr}{rm rc:Nat}{E:List Bool}{Fi:List (List Bool)}(h:SetsF F is g ra rm rc E Fi)(hF:Frz.le F G):SetsF G is g ra rm rc E Fi:=by
 obtain⟨ie,io,ce,co,ro,h1,h2,h3⟩:=h.blk;exact⟨⟨ie,io,ce,co,ro,hF _ _ h1,h2.mono hF,h3.mono hF⟩,h.row,h.rules.mono hF,h.closed⟩
def SetR(g:Gram)(es:Ents Lr)(S:Lr→Nat):Prop:=∀z,bOf es z=.int .u32 (S z:Nat)∧S z<2 ^ (g.terms+1)
def updS(S:Lr→Nat)(x:Lr)(v:Nat):Lr→Nat:=fun z=>if z=x then v else S z
theorem SetR.put{g:Gram}{es:Ents Lr}{S:Lr→Nat}(h:SetR g es S)(x:Lr){v:Nat}(hv:v<2 ^ (g.terms+1)):SetR g (mset es x (.int .u32 (v:Nat))) (updS S x v):=fun z=>by
 rw[bOf_mset];unfold updS;split
 ·exact⟨rfl,hv⟩
 ·exact h z
structure ClS where
 a:Option Addr
 m:Nat
 c:Nat
 B:List (Nat×Blk)
 es:Ents Lr
theorem MakerF.mono{F G:Frz}{im is:Nat}{g:Gram}{a:Option Addr}{m c:Nat}{E:List Bool}{Fi:List (List Bool)}{eb ee:Ents Lr}(h:MakerF F im g a m c E Fi is eb ee)(hF:Frz.le F G):MakerF G im g a m c E Fi is eb ee:=by
 obtain⟨ib,ie,ro,h1,h2,h3⟩:=h.blk;exact⟨⟨ib,ie,ro,hF _ _ h1,hF _ _ h2,hF _ _ h3⟩,h.sets.mono hF,h.fset,h.beg,h.nul⟩
structure CfS where
 es:Ents Lr
 S:Lr→Nat
 again:Bool
def SndS(g:Gram)(l:List Look)(S:Lr→Nat):Prop:=∀z t,(S z).testBit t=true→LAc g l z t
theorem SndS.put{g:Gram}{l:List Look}{S:Lr→Nat}(h:SndS g l S){x:Lr}{v:Nat}(hv:∀t,v.testBit t=true→LAc g l x t):SndS g l (updS S x (S x ||| v)):=fun z t ht=>by
 unfold updS at ht;split at ht
 ·rename_i e;subst e;rw[Nat.testBit_or,Bool.or_eq_true] at ht;exact ht.elim (h _ t) (hv t)
 ·exact h z t ht
structure AfS where
 a:Option Addr
 m:Nat
 c:Nat
 B:List (Nat×Blk)
 l:List Look
def lkRow(l:List Look):List Value:=(l.map lkV).flatten
structure LT(vs:List Value)(bs:List (Nat×Blk))(L:List (List Look)):Prop where
 vlen:vs.length=L.length
 blen:bs.length=L.length
 at_:∀k l,L[k]?=some l→∃id,vs[0+k*1]?=some (.slice (some ⟨id,0,none⟩) l.length 3)∧bs[k]?=some (id,.cells false (lkRow l))
structure MgS where
 cur:List Look
 ch:Bool
def padF(n:Nat)(ys:List Bool):List Bool:=ys++List.replicate (n-ys.length) false
theorem padF_len{n:Nat}{ys:List Bool}(h:ys.length≤n):(padF n ys).length=n:=by unfold padF;simp;omega
theorem padF_get{n:Nat}{ys:List Bool}{t:Nat}:(padF n ys).getD t false=ys.getD t false:=by
 unfold padF;rw[List.getD_eq_getElem?_getD,List.getD_eq_getElem?_getD,List.getElem?_append];split
 ·rfl
 ·rename_i h;rw[List.getElem?_eq_none (l:=ys) zo,List.getElem?_replicate];split<;>rfl
structure RcS where
 O:List Bool
 again:Bool
structure ReachF(g:Gram)(O:List Bool):Prop where
 len:O.length=g.nons
 at_:∀n,O.getD n false=true↔Rch g n
end Go.Proofs.D