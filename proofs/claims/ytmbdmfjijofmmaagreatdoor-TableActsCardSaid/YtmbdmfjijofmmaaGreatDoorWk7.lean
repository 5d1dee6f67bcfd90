/-
  Walks: what functions of the program do, over the abstract machine.
-/
import Derived.Test.YtmbdmfjijofmmaaGreatDoorWk6
set_option linter.unusedVariables false
set_option maxRecDepth 20000
set_option maxHeartbeats 0
open Go Go.Abs Go.Proofs Go.Proofs.D
set_option linter.unusedVariables false
set_option maxRecDepth 20000
set_option maxHeartbeats 0
open Go Go.Abs Go.Proofs Go.Proofs.D
namespace Go.Abs
def eqElemsT(T:RT)(eq:Value→Value→Option Bool)(e s:Nat)(xs ys:List Value):List Nat→Option Bool
 | []=>some true
 | i::is=>match readT T xs e (i*s),readT T ys e (i*s) with
  | some a,some b=>match eq a b,eqElemsT T eq e s xs ys is with
   | some p,some q=>some (p&&q)
   | _,_=>none
  | _,_=>none
def eqT2(C:Ctx)(T:RT):Nat→TypeId→Value→Value→Option Bool
 | 0,_,_,_=>none
 | n+1,t,x,y=>
  match rowOf T t with
  | some r=>match r.d,x,y with
   | .struct fs,.agg ⟨xs⟩,.agg ⟨ys⟩=>bif C.flat t then eqFieldsT T (eqT2 C T n) fs xs ys else none
   | .array len e,.agg ⟨xs⟩,.agg ⟨ys⟩=>match sizeT T e with
    | some s=>eqElemsT T (eqT2 C T n e) e s xs ys (List.range len)
    | none=>none
   | .int _,.int k a,.int k' b=>if k=k' then some (a==b) else none
   | .pointer _,.pointer none,.pointer none=>some true
   | _,_,_=>none
  | none=>none
def keyElemsT(T:RT)(ok:Value→Bool)(e s:Nat)(xs:List Value):List Nat→Bool
 | []=>true
 | i::is=>(match readT T xs e (i*s) with
  | some a=>ok a
  | none=>false)&&keyElemsT T ok e s xs is
def keyT2(T:RT):Nat→TypeId→Value→Bool
 | 0,_,_=>false
 | n+1,t,v=>
  match rowOf T t with
  | some r=>match r.d,v with
   | .struct fs,.agg ⟨cs⟩=>keyFieldsT T (keyT2 T n) fs cs
   | .array len e,.agg ⟨xs⟩=>match sizeT T e with
    | some s=>keyElemsT T (keyT2 T n e) e s xs (List.range len)
    | none=>false
   | .int _,v=>!isTomb v
   | .pointer _,v=>!isTomb v
   | _,_=>false
  | none=>false
section
variable {C:Ctx}{T:RT}(hT:rowsOk C T=true)
include hT
theorem eqElemsT_ok{eqt eqa:Value→Value→Option Bool}(he:∀x y b,eqt x y=some b→eqa x y=some b)(e s:Nat)(xs ys:List Value):∀(is:List Nat) (b:Bool),eqElemsT T eqt e s xs ys is=some b→eqElems C eqa e s xs ys is=some b
 | [],b,q=>q
 | i::is,b,q=>by
  simp only[eqElemsT] at q;split at q
  ·rename_i u v hu hv;split at q
   ·rename_i p r hp hr;cases q;unfold eqElems;rw[readT_ok hT hu,readT_ok hT hv];simp only[he _ _ _ hp];cases p with
    | true=>simpa using eqElemsT_ok he e s xs ys is r hr
    | false=>rfl
   ·cases q
  ·cases q
theorem eqT2_ok:∀(n:Nat) (t:TypeId) (x y:Value) (b:Bool),eqT2 C T n t x y=some b→eqA C n t x y=some b
 | 0,_,_,_,_,q=>by cases q
 | n+1,t,x,y,b,q=>by
  unfold eqT2 at q;split at q
  ·rename_i r hr;split at q
   ·rename_i fs xs ys hd;obtain⟨fs',hu,hfs⟩:=und_struct hT hr hd;cases hf:C.flat t with
    | false=>rw[hf] at q;cases q
    | true=>
     rw[hf] at q;simp only[cond_true] at q;unfold eqA;simp only[hu,hf,cond_true];rw[hfs] at q;exact eqFieldsT_ok hT (eqT2_ok n) _ _ _ _ q
   ·rename_i len e xs ys hd;have hu:=und_array hT hr hd;split at q
    ·rename_i s hs;unfold eqA;simp only[hu,sizeT_ok hT hs];exact eqElemsT_ok hT (fun x y b=>eqT2_ok n e x y b) e s _ _ _ _ q
    ·cases q
   ·rename_i kd k a k' b' hd;have hu:=und_int hT hr hd;unfold eqA;simp only[hu,eqBasic];exact q
   ·rename_i hd;have hu:=und_pointer hT hr hd;cases q;unfold eqA;simp only[hu,eqBasic]
   ·cases q
  ·cases q
theorem keyElemsT_ok{ok1 ok2:Value→Bool}(he:∀v,ok1 v=true→ok2 v=true)(e s:Nat)(xs:List Value):∀(is:List Nat),keyElemsT T ok1 e s xs is=true→keyElems C ok2 e s xs is=true
 | [],_=>rfl
 | i::is,q=>by
  simp only[keyElemsT,Bool.and_eq_true] at q;obtain⟨q1,q2⟩:=q;unfold keyElems;rw[keyElemsT_ok he e s xs is q2,Bool.and_true];split at q1
  ·rename_i a ha;rw[readT_ok hT ha];exact he _ q1
  ·cases q1
theorem keyT2_ok:∀(n:Nat) (t:TypeId) (v:Value),keyT2 T n t v=true→keyOk C n t v=true
 | 0,_,_,q=>by cases q
 | n+1,t,v,q=>by
  unfold keyT2 at q;split at q
  ·rename_i r hr;split at q
   ·rename_i fs cs hd;obtain⟨fs',hu,hfs⟩:=und_struct hT hr hd;unfold keyOk;simp only[hu];rw[hfs] at q;exact keyFieldsT_ok hT (keyT2_ok n) _ _ q
   ·rename_i len e xs hd;split at q
    ·rename_i s hs;unfold keyOk;simp only[und_array hT hr hd,sizeT_ok hT hs];exact keyElemsT_ok hT (fun v=>keyT2_ok n e v) e s _ _ q
    ·cases q
   ·rename_i k hd;unfold keyOk;rw[und_int hT hr hd];simpa [basicD] using q
   ·rename_i k hd;unfold keyOk;rw[und_pointer hT hr hd];simpa [basicD] using q
   ·cases q
  ·cases q
end
end Go.Abs
namespace Go.Proofs.D
theorem cand_eqB(p q:Cand):(((p.node:Int)==(q.node:Int))&&(((p.pack:Int)==(q.pack:Int))&&((((p.r0:Int)==(q.r0:Int))&&(((p.r1:Int)==(q.r1:Int))&&(((p.r2:Int)==(q.r2:Int))&&(((p.r3:Int)==(q.r3:Int))&&true))))&&(true&&true))))=decide (p=q):=by
 rw[Bool.eq_iff_iff];obtain⟨a,b,c,d,e,f⟩:=p;obtain⟨a',b',c',d',e',f'⟩:=q;simp only[Bool.and_eq_true,beq_iff_eq,decide_eq_true_eq,Cand.mk.injEq,and_true];omega
def keyC:KeyTy CC 314 Cand where
 key:=fun p=>.agg ⟨candV p (.pointer none)⟩
 ok:=fun p=>keyT2_ok hT 8 _ _ rfl
 eq:=fun p q=>by
  have h:eqA CC 8 314 (.agg ⟨candV p (.pointer none)⟩) (.agg ⟨candV q (.pointer none)⟩)=some (decide (p=q)):=by
   rw[←cand_eqB];exact eqT2_ok hT 8 _ _ _ _ rfl
  by_cases e:p=q
  ·exact .inl ⟨e,by rw[h];simp[e]⟩
  ·exact .inr ⟨e,by rw[h];simp[e]⟩
def keyW:KeyTy CC 361 (Nat×Nat) where
 key:=fun p=>.agg ⟨[.int .i64 p.1,.int .i64 p.2]⟩
 ok:=fun p=>keyT2_ok hT 8 _ _ rfl
 eq:=fun p q=>by
  have h:eqA CC 8 361 (.agg ⟨[.int .i64 p.1,.int .i64 p.2]⟩) (.agg ⟨[.int .i64 q.1,.int .i64 q.2]⟩)=some (decide (p=q)):=by
   rw[←key_eq];exact eqT2_ok hT 8 _ _ _ _ rfl
  by_cases e:p=q
  ·exact .inl ⟨e,by rw[h];simp[e]⟩
  ·exact .inr ⟨e,by rw[h];simp[e]⟩
inductive RowsP(F:Frz):List Value→List (Nat×Blk)→List (List Nat)→Prop
 | nil:RowsP F [] [] []
 | cons {a:Option Addr} {n c:Nat} {B bs:List (Nat×Blk)} {ps:List Nat} {vs:List Value} {pss:List (List Nat)}:Bld tPtr F a n c B ps→RowsP F vs bs pss→RowsP F (.slice a n c::vs) (B++bs) (ps::pss)
theorem cellsP{F G:Frz}{cs:List Value}{ps:List Nat}(h:Cells tPtr F cs ps):Cells tPtr G cs ps:=by
 induction h with
 | nil=>exact .nil
 | cons h _ ih=>exact .cons h ih
theorem bldP{F G:Frz}{a:Option Addr}{n c:Nat}{B:List (Nat×Blk)}{ps:List Nat}(h:Bld tPtr F a n c B ps):Bld tPtr G a n c B ps:=
 ⟨h.len,h.at_.imp id fun ⟨i,cs,h1,h2,h3,h4,h5⟩=>⟨i,cs,h1,h2,h3,cellsP h4,h5⟩⟩
theorem RowsP.any{F G:Frz}{vs:List Value}{bs:List (Nat×Blk)}{pss:List (List Nat)}(h:RowsP F vs bs pss):RowsP G vs bs pss:=by
 induction h with
 | nil=>exact .nil
 | cons h _ ih=>exact .cons (bldP h) ih
def tCN:Ty Cand where
 size:=7
 rel:=fun _ l c=>l=candV c (.pointer none)
 len:=fun _ _ _ h=>by rw[h];rfl
 one:=fun _ _ _ h=>by rw[h];rfl
 mono:=fun _ _ _ _ _ h=>h
theorem cellsN{F G:Frz}{cs:List Value}{ps:List Cand}(h:Cells tCN F cs ps):Cells tCN G cs ps:=by
 induction h with
 | nil=>exact .nil
 | cons h _ ih=>exact .cons h ih
theorem bldC{F G:Frz}{a:Option Addr}{n c:Nat}{B:List (Nat×Blk)}{ps:List Cand}(h:Bld tCN F a n c B ps):Bld tCN G a n c B ps:=
 ⟨h.len,h.at_.imp id fun ⟨i,cs,h1,h2,h3,h4,h5⟩=>⟨i,cs,h1,h2,h3,cellsN h4,h5⟩⟩
inductive WaitsP(F:Frz):Ents (Nat×Nat)→List (Nat×Blk)→List ((Nat×Nat)×List Cand)→Prop
 | nil:WaitsP F [] [] []
 | cons {k:Nat×Nat} {a:Option Addr} {n c:Nat} {B bs:List (Nat×Blk)} {cs:List Cand} {m:Ents (Nat×Nat)} {ws:List ((Nat×Nat)×List Cand)}:Bld tCN F a n c B cs→WaitsP F m bs ws→WaitsP F ((k,.slice a n c)::m) (B++bs) ((k,cs)::ws)
theorem WaitsP.any{F G:Frz}{m:Ents (Nat×Nat)}{bs:List (Nat×Blk)}{ws:List ((Nat×Nat)×List Cand)}(h:WaitsP F m bs ws):WaitsP G m bs ws:=by
 induction h with
 | nil=>exact .nil
 | cons h _ ih=>exact .cons (bldC h) ih
def getW:List ((Nat×Nat)×List Cand)→Nat×Nat→List Cand
 | [],_=>[]
 | (k,cs)::ws,w=>if w=k then cs else getW ws w
def foOf(Ns:List Node):Fo where
 n:=Ns.length
 leaf:=fun v=>match Ns[v]? with
  | some x=>if x.key.sym.term=true then some x.key.sym.n else none
  | none=>none
 packs:=fun v=>match Ns[v]? with
  | some x=>x.packs
  | none=>[]
structure LP where
 li:Nat
 na:Option Addr
 nn:Nat
 nc:Nat
 root:Nat
 most:Nat
 lo:Nat
 lc:Nat
 is:Nat
 iw:Nat
structure LR where
 qa:Option Addr
 qn:Nat
 qc:Nat
 qB:List (Nat×Blk)
 Q:List (Cand×Tree)
 vs:List Value
 bs:List (Nat×Blk)
 pss:List (List Nat)
 se:List (Value×Value)
 sm:Ents Cand
 we:List (Value×Value)
 wm:Ents (Nat×Nat)
 wbs:List (Nat×Blk)
 ws:List ((Nat×Nat)×List Cand)
structure LOk(p:LP)(Ns:List Node)(F:Frz)(r:LR)(s:Lst):Prop where
 nodes:Arr tNode F p.na p.nn p.nc Ns
 q:GB tCQ F r.qa r.qn r.qc r.qB r.Q
 qp:r.Q.Perm s.q
 qh:HeapN r.Q r.Q.length
 rows:RowsP F r.vs r.bs r.pss
 rlen:r.pss.length=p.nn
 trees:∀(v:Nat) (ps:List Nat),r.pss[v]?=some ps→ShL F ps (s.lists v)
 se:alive r.se=entsV keyC r.sm
 sl:∀c,Abs.look r.sm c=if c∈s.seen then some (.bool true) else none
 we:alive r.we=entsV keyW r.wm
 wn:(r.wm.map (·.1)).Nodup
 ws:WaitsP F r.wm r.wbs r.ws
 wg:∀w,s.waits w=getW r.ws w
theorem LOk.mono{p:LP}{Ns:List Node}{F G:Frz}{r:LR}{s:Lst}(h:LOk p Ns F r s)(hF:Frz.le F G):LOk p Ns G r s:=
 ⟨h.nodes.mono hF,h.q.mono hF,h.qp,h.qh,h.rows.any,h.rlen,fun v ps hv=>(h.trees v ps hv).mono hF,h.se,h.sl,h.we,h.wn,h.ws.any,h.wg⟩
structure TrS where
 ka:Option Addr
 kc:Nat
 KB:List (Nat×Blk)
 ps:List Nat
 ts:List Tree
structure TakeS where
 r:LR
 s:Lst
def tTC:Ty (List Value) where
 size:=3
 rel:=fun _ l x=>l=x∧x.length=3∧x.all Go.Abs.one=true
 len:=fun _ _ _ h=>by rw[h.1];exact h.2.1
 one:=fun _ _ _ h=>by rw[h.1];exact h.2.2
 mono:=fun _ _ _ _ _ h=>h
def E0:Frz:=fun _=>none
mutual
inductive TOwn:List Value→List (Nat×Blk)→Tree→Prop
 | mk {r:Int} {t:Nat} {ks:List Tree} {a:Option Addr} {n c:Nat} {B bs:List (Nat×Blk)} {css:List (List Value)}:Bld tTC E0 a n c B css→TOwnL css bs ks→ks.length≤1000000→TOwn [.int .i64 r,.int .i64 t,.slice a n c] (B++bs) (.mk r t ks)
inductive TOwnL:List (List Value)→List (Nat×Blk)→List Tree→Prop
 | nil:TOwnL [] [] []
 | cons {cs:List Value} {B:List (Nat×Blk)} {t:Tree} {css:List (List Value)} {bs:List (Nat×Blk)} {ts:List Tree}:TOwn cs B t→TOwnL css bs ts→TOwnL (cs::css) (B++bs) (t::ts)
end
theorem TOwnL.len:∀{css:List (List Value)} {bs:List (Nat×Blk)} {ts:List Tree},TOwnL css bs ts→css.length=ts.length
 | _,_,_,.nil=>rfl
 | _,_,_,.cons _ h=>by simp[TOwnL.len h]
mutual
theorem TOwn.frozen{G:Frz}:∀{t:Tree} {cs:List Value} {B:List (Nat×Blk)},TOwn cs B t→(∀i b,(i,b)∈B→G i=some b)→tTree.rel G cs t
 | .mk _ _ ks,_,_,.mk hb hL hk,hB=>tTree_mk (TOwnL.frozen hb hL (fun i b hm=>hB i b (List.mem_append_left _ hm)) (fun i b hm=>hB i b (List.mem_append_right _ hm))) hk
theorem TOwnL.cells{G:Frz}:∀{ts:List Tree} {css:List (List Value)} {bs:List (Nat×Blk)} {cs:List Value},Cells tTC E0 cs css→TOwnL css bs ts→(∀i b,(i,b)∈bs→G i=some b)→Cells tTree G cs ts
 | [],_,_,_,hc,.nil,_=>by cases hc;exact .nil
 | t::ts,_,_,_,hc,.cons h1 h2,hB=>by
  cases hc with
  | cons g1 g2=>
   obtain⟨rfl,_⟩:=g1;exact .cons (TOwn.frozen h1 fun i b hm=>hB i b (List.mem_append_left _ hm)) (TOwnL.cells g2 h2 fun i b hm=>hB i b (List.mem_append_right _ hm))
theorem TOwnL.frozen{G:Frz}:∀{ts:List Tree} {css:List (List Value)} {bs:List (Nat×Blk)} {a:Option Addr} {n c:Nat} {B:List (Nat×Blk)},Bld tTC E0 a n c B css→TOwnL css bs ts→(∀i b,(i,b)∈B→G i=some b)→(∀i b,(i,b)∈bs→G i=some b)→Arr tTree G a n c ts
 | ts,css,bs,a,n,c,B,hb,hL,hB,hB2=>by
  have hl:=hb.len;have hl2:=hL.len;have:Bld tTree G a n c B ts:=⟨by omega,hb.at_.imp (fun ⟨h1,h2,h3,h4⟩=>⟨List.eq_nil_of_length_eq_zero (by rw[←hl2,h1];rfl),h2,h3,h4⟩) fun ⟨i,cs,h1,h2,h3,h4,h5⟩=>⟨i,cs,h1,h2,h3,TOwnL.cells h4 hL hB2,by decide⟩⟩;exact this.frozen (Frz.le.refl G) hB
end
inductive Plain:Tree→Prop
 | leaf {t:Nat}:Plain (.mk (-1) t [])
 | node {r:Nat} {ks:List Tree}:(∀k∈ks,Plain k)→Plain (.mk r 0 ks)
mutual
theorem NT.plain{f:Fo}:∀{T:Tree} {v:Nat},NT f v T→Plain T
 | .mk _ _ _,_,.leaf _ _=>.leaf
 | .mk _ _ _,_,.node _ _ _ h=>.node (NTs.plain h)
theorem NTs.plain{f:Fo}:∀{ts:List Tree} {ks:List Nat},NTs f ks ts→∀t∈ts,Plain t
 | [],_,_,t,h=>by cases h
 | t0::ts,_,.cons h1 h2,t,h=>by
  rcases List.mem_cons.1 h with e | h
  ·rw[e];exact NT.plain h1
  ·exact NTs.plain h2 t h
end
structure PlS where
 a:Option Addr
 c:Nat
 B:List (Nat×Blk)
 css:List (List Value)
 bs:List (Nat×Blk)
def ResOk(g:Gram)(w:List Nat)(F:Frz)(s:Sym)(i:Nat)(v:Value):Prop:=
 v=.agg ⟨[.pointer none,.int .i64 (-1)]⟩∨∃b ro cs t j,v=.agg ⟨[.pointer (some ⟨b,0,none⟩),.int .i64 (j:Nat)]⟩∧F b=some (.cells ro cs)∧tTree.rel F cs t∧TreeOf g w s t i j
theorem ResOk.mono{g:Gram}{w:List Nat}{F G:Frz}{s:Sym}{i:Nat}{v:Value}(h:ResOk g w F s i v)(hF:Frz.le F G):ResOk g w G s i v:=by
 rcases h with h | ⟨b,ro,cs,t,j,h1,h2,h3,h4⟩
 ·exact .inl h
 ·exact .inr ⟨b,ro,cs,t,j,h1,hF _ _ h2,tTree.mono _ _ _ _ hF h3,h4⟩
def MemoOk(g:Gram)(w:List Nat)(F:Frz)(es:Ents (Nat×Nat)):Prop:=∀n i v,Abs.look es (n,i)=some v→ResOk g w F ⟨false,n⟩ i v
theorem MemoOk.mono{g:Gram}{w:List Nat}{F G:Frz}{es:Ents (Nat×Nat)}(h:MemoOk g w F es)(hF:Frz.le F G):MemoOk g w G es:=fun n i v q=>(h n i v q).mono hF
structure PA where
 p:Nat
 im:Nat
 a:Option Addr
 m:Nat
 c:Nat
 b:Option Addr
 k:Nat
 d:Nat
structure ParserAt(F:Frz)(x:PA)(g:Gram)(w:List Nat):Prop where
 blk:∃ro,F x.p=some (.cells ro [.int .i64 g.terms,.int .i64 g.nons,.int .i64 g.start,.slice x.a x.m x.c,.slice x.b x.k x.d,.map (some x.im)])
 rules:Arr tRule F x.a x.m x.c g.rules
 word:Arr tNat F x.b x.k x.d w
theorem ParserAt.mono{F G:Frz}{x:PA}{g:Gram}{w:List Nat}(h:ParserAt F x g w)(hF:Frz.le F G):ParserAt G x g w:=
 ⟨let ⟨ro,q⟩:=h.blk;⟨ro,hF _ _ q⟩,h.rules.mono hF,h.word.mono hF⟩
structure PkI where
 ks:List Tree
 a:Option Addr
 c:Nat
 Bk:List (Nat×Blk)
 B:List (Nat×Blk)
 e:Int
 l:Nat
structure PO where
 q:Option Addr
 e:Int
 B:List (Nat×Blk)
structure TRes(Ns:List Node)(root most:Nat)(L:List Tree)(c:Int):Prop where
 firsts:Firsts (foOf Ns) root most L
 count:CountVal (fun d=>nodeT Ns d root) c
structure PlT where
 a:Option Addr
 n:Nat
 c:Nat
 B:List (Nat×Blk)
 css:List (List Value)
 bs:List (Nat×Blk)
structure LsS where
 r:LR
 s:Lst
 done:List Cand
mutual
theorem TreeOf.end_uniq{g:Gram}{w:List Nat}:∀{t:Tree} {s:Sym} {i j j':Nat},TreeOf g w s t i j→TreeOf g w s t i j'→j=j'
 | .mk _ _ _,_,_,_,_,.leaf _,h=>by cases h with
  | leaf _=>rfl
 | .mk _ _ ks,_,_,_,_,.node h h2,h'=>by
  generalize hs:(⟨false,_⟩:Sym)=s at h';cases h' with
  | node g1 g2=>
   rw[h] at g1;cases g1;exact TreesOf.end_uniq h2 g2
theorem TreesOf.end_uniq{g:Gram}{w:List Nat}:∀{ts:List Tree} {l:List Sym} {i j j':Nat},TreesOf g w l ts i j→TreesOf g w l ts i j'→j=j'
 | [],_,_,_,_,.nil,h=>by cases h;rfl
 | _::_,_,_,_,_,.cons h1 h2,h=>by
  cases h with
  | cons g1 g2=>
   obtain rfl:=TreeOf.end_uniq h1 g1;exact TreesOf.end_uniq h2 g2
end
mutual
theorem TreeOf.dec{g:Gram}{w:List Nat}:∀{t u:Tree} {s:Sym} {i j i' j':Nat} {x y:List Int},TreeOf g w s t i j→TreeOf g w s u i' j'→t.pre++x=u.pre++y→t=u∧x=y
 | .mk _ _ _,u,_,_,_,_,_,x,y,.leaf _,h,e=>by
  cases h with
  | leaf _=>
   have e:(-1:Int)::([]++x)=-1::([]++y):=e;exact⟨rfl,by simpa using e⟩
 | .mk _ _ ks,u,_,_,_,_,_,x,y,.node h h2,h',e=>by
  generalize hs:(⟨false,_⟩:Sym)=s at h';cases h' with
  | leaf _=>cases hs
  | @node k' r' kids' _ _ g1 g2=>
   have e:((_:Nat):Int)::(preL ks++x)=(k':Int)::(preL kids'++y):=e;injection e with e1 e2;have e1:=Int.ofNat_inj.1 e1;subst e1;rw[h] at g1;cases g1;obtain⟨rfl,rfl⟩:=TreesOf.dec h2 g2 e2;exact⟨rfl,rfl⟩
theorem TreesOf.dec{g:Gram}{w:List Nat}:∀{ts us:List Tree} {l:List Sym} {i j i' j':Nat} {x y:List Int},TreesOf g w l ts i j→TreesOf g w l us i' j'→preL ts++x=preL us++y→ts=us∧x=y
 | [],us,_,_,_,_,_,x,y,.nil,h,e=>by
  cases h;exact⟨rfl,by simpa [preL] using e⟩
 | t::ts,us,_,_,_,_,_,x,y,.cons h1 h2,h,e=>by
  cases h with
  | @cons _ _ u us _ _ _ g1 g2=>
   have e:(t.pre++preL ts)++x=(u.pre++preL us)++y:=e;rw[List.append_assoc,List.append_assoc] at e;obtain⟨rfl,e2⟩:=TreeOf.dec h1 g1 e;obtain⟨rfl,rfl⟩:=TreesOf.dec h2 g2 e2;exact⟨rfl,rfl⟩
end
section
variable {g:Gram}{w:List Nat}{E:List (List Nat)}{root:Key}{S:List Key}
theorem foOf_at{v:Nat}{k:Key}(hk:S[v]?=some k):(foOf (S.map (mkNode g w E S))).leaf v=(if k.sym.term=true then some k.sym.n else none)∧(foOf (S.map (mkNode g w E S))).packs v=(packsOf g w E k).map (numPack S):=by
 unfold foOf;simp only[List.getElem?_map,hk];exact⟨rfl,rfl⟩
end
section
variable {g:Gram}{w:List Nat}{most:Nat}{L:List Tree}{c:Int}
end
section
variable {C:Ctx}{T:RT}{n:Nat}{k:Kno}{F:Frz}{own:Own}{ops rest:List Oper}{o:Oper}{Q:Kno→Frz→Own→List Rec→Prop}
end
structure AmbC(F:Frz)(i2 i8:Nat)(g:Gram)(a:Option Addr)(m c:Nat):Prop where
 hg:F i2=some (.cells false [.int .i64 g.terms,.int .i64 g.nons,.int .i64 g.start,.slice a m c])
 self:F i8=some (.cells false [.func (.func 86) ⟨[]⟩ ⟨[.pointer (some ⟨i2,0,none⟩),.pointer (some ⟨i8,0,none⟩)]⟩])
theorem AmbC.mono{F G:Frz}{i2 i8:Nat}{g:Gram}{a:Option Addr}{m c:Nat}(h:AmbC F i2 i8 g a m c)(hF:Frz.le F G):AmbC G i2 i8 g a m c:=⟨hF _ _ h.hg,hF _ _ h.self⟩
section
variable {C:Ctx}{T:RT}{n:Nat}{k:Kno}{F:Frz}{own:Own}{ops rest:List Oper}{o:Oper}{Q:Kno→Frz→Own→List Rec→Prop}
end
structure GSn where
 b:Nat
 xs:List Nat
 B:List (Nat×Blk)
structure GNt where
 b:Nat
 xs:List Nat
 B:List (Nat×Blk)
structure WaysC(F:Frz)(i9 i10 iw ik N:Nat):Prop where
 hw:F i9=some (.cells false [.slice (some ⟨iw,0,none⟩) N 1])
 hk:F i10=some (.cells false [.slice (some ⟨ik,0,none⟩) N 1])
theorem WaysC.mono{F G:Frz}{i9 i10 iw ik N:Nat}(h:WaysC F i9 i10 iw ik N)(hF:Frz.le F G):WaysC G i9 i10 iw ik N:=⟨hF _ _ h.hw,hF _ _ h.hk⟩
section
variable {C:Ctx}{cal:Cal}
end
structure WayOk(N:Nat)(W:List (List Nat))(K:List Bool):Prop where
 wlen:W.length=N
 klen:K.length=N
 short:∀u∈W,u.length≤2000
structure TabWay(g:Gram)(T:Tab)(N:Nat):Prop where
 pos:0<N
 big:N≤1000000
 alen:T.act.length=N
 glen:T.go.length=N
 arow:∀row∈T.act,row.length=g.terms+1
 atgt:∀row∈T.act,∀a∈row,a.1=1→a.2<N
 grow:∀row∈T.go,row.length≤g.nons
 gtgt:∀row∈T.go,∀z∈row,z<(N:Int)
structure WzS where
 cs:List Value
 W:List (List Nat)
 K:List Bool
structure WaS where
 cs:List Value
 W:List (List Nat)
 K:List Bool
 D:List Bool
structure ExS where
 a:Option Addr
 m:Nat
 c:Nat
 B:List (Nat×Blk)
section
variable {g:Gram}{w:List Nat}{E:List (List Nat)}{root:Key}{S:List Key}
mutual
theorem TreeOf.drv:∀{t:Tree} {s:Sym} {i j:Nat},TreeOf g w s t i j→Der g w s i j
 | _,_,_,_,.leaf h=>.term h
 | _,_,_,_,.node h h2=>.non (gM h) (TreesOf.drvs h2)
theorem TreesOf.drvs:∀{ts:List Tree} {l:List Sym} {i j:Nat},TreesOf g w l ts i j→Ders g w l i j
 | [],_,_,_,.nil=>.nil
 | _::_,_,_,_,.cons h h2=>.cons (TreeOf.drv h) (TreesOf.drvs h2)
end
mutual
theorem TreeOf.fin:∀{t:Tree} {s:Sym} {i j:Nat},TreeOf g w s t i j→i≤w.length→j≤w.length
 | _,_,_,_,.leaf h,_=>(gS h).1
 | _,_,_,_,.node _ h2,hi=>TreesOf.fins h2 hi
theorem TreesOf.fins:∀{ts:List Tree} {l:List Sym} {i j:Nat},TreesOf g w l ts i j→i≤w.length→j≤w.length
 | [],_,_,_,.nil,hi=>hi
 | _::_,_,_,_,.cons h h2,hi=>TreesOf.fins h2 (TreeOf.fin h hi)
end
mutual
theorem TreeOf.nt(hE:EndsOf g w E)(hK:Keys g w E root S):∀{T:Tree} {s:Sym} {i j:Nat},TreeOf g w s T i j→j≤w.length→(⟨s,i,j⟩:Key)∈S→NT (foOf (S.map (mkNode g w E S))) (place S ⟨s,i,j⟩) T
 | _,_,_,_,.leaf h,hj,hk=>by
  have hat:=place_at hk;obtain⟨hl,hp⟩:=foOf_at (g:=g) (w:=w) (E:=E) hat;refine .leaf ?_ ?_
  ·show _<(S.map _).length;rw[List.length_map];exact(gS hat).1
  ·rw[hl,if_pos rfl]
 | _,_,_,_,.node (k:=k) (r:=r) hr hts,hj,hk=>by
  have hat:=place_at hk;obtain⟨hl,hp⟩:=foOf_at (g:=g) (w:=w) (E:=E) hat;obtain⟨ks,h1,h2⟩:=TreesOf.nts hE hK hts hj;have hpk:(⟨k,ks⟩:KPack)∈packsOf g w E ⟨⟨false,r.left⟩,_,_⟩:=mem_packsOf.2 ⟨r,hr,rfl,rfl,h1⟩;refine NT.node (p:=numPack S ⟨k,ks⟩) ?_ (by rw[hl];rfl) ?_ (h2 fun q hq=>hK.closed _ hk _ hpk q hq)
  ·show _<(S.map _).length;rw[List.length_map];exact(gS hat).1
  ·rw[hp];exact List.mem_map_of_mem hpk
theorem TreesOf.nts(hE:EndsOf g w E)(hK:Keys g w E root S):∀{ts:List Tree} {l:List Sym} {i j:Nat},TreesOf g w l ts i j→j≤w.length→∃ks,ks∈splits w E j l i∧((∀q∈ks,q∈S)→NTs (foOf (S.map (mkNode g w E S))) (ks.map (place S)) ts)
 | _,_,i,_,.nil,_=>⟨[],by unfold splits;rw[if_pos rfl];exact List.mem_singleton.2 rfl,fun _=>.nil⟩
 | _,_,i,j,.cons (s:=s) (m:=m) h h2,hj=>by
  have hm:=h2.le;have hi:=h.le;obtain⟨ks,g1,g2⟩:=TreesOf.nts hE hK h2 hj;refine⟨⟨s,i,m⟩::ks,?_,fun hq=>.cons (TreeOf.nt hE hK h zo (hq _ me)) (g2 fun q hm=>hq q (List.mem_cons_of_mem _ hm))⟩;unfold splits;refine List.mem_flatMap.2 ⟨m,List.mem_range.2 zo,?_⟩;rw[if_pos ((step_der hE zo).2 h.drv)];exact List.mem_map_of_mem g1
end
end
def dubG:Gram:=⟨1,1,0,[⟨0,[⟨false,0⟩,⟨false,0⟩]⟩,⟨0,[⟨true,0⟩]⟩]⟩
theorem dub_small:Small dubG where
 terms:=by decide
 nons:=by decide
 start:=by decide
 rules:=by decide
 nodup:=by decide
 ok:=by
  intro r hr;simp only[dubG,List.mem_cons,List.not_mem_nil,or_false] at hr;rcases hr with rfl | rfl
  ·refine⟨by decide,by decide,fun y hy=>?_⟩;simp only[List.mem_cons,List.not_mem_nil,or_false] at hy;rcases hy with rfl | rfl<;>simp[SymOk,dubG]
  ·refine⟨by decide,by decide,fun y hy=>?_⟩;simp only[List.mem_cons,List.not_mem_nil,or_false] at hy;subst hy;simp[SymOk,dubG]
theorem double_spec(F:Frz):Abs.Spec CC 46 [] F [] fun F' v o=>o=[]∧∃a c,v=.agg ⟨gramCells dubG a 2 c⟩∧Arr tRule F' a 2 c dubG.rules:=by
 refine Abs.Spec.fn (n:=10) Tryz.func46 rfl rfl fun own=>?_;refine AW.seq (AW.reg ?_);refine WT.allocT hT Z Z Z Z Z Z (fun i0 hi0=>?_);refine zB7 ?_;refine WT.buildT hT Z Z Z Z Z Z Z Z Z Z Z Z Z Z (fun i5 hi5=>?_);refine zB7 ?_;refine WT.buildT hT Z Z Z Z Z Z Z Z Z Z Z Z Z Z (fun i8 hi8=>?_);refine zB7 ?_;refine WT.buildT hT Z Z Z Z Z Z Z Z Z Z Z Z Z Z (fun i10 hi10=>?_);refine WT.freezeAll 2 Z Z (fun F1 hF1 hB1=>?_);refine WT.freezeAll 1 Z Z (fun F2 hF2 hB2=>?_);refine WT.freezeAll 0 Z Z (fun F3 hF3 hB3=>?_)
 have h5:Arr tSym F3 (some ⟨i5,0,none⟩) 2 2 [⟨false,0⟩,⟨false,0⟩]:=(Bld.frozen (F:=F) (B:=[(i5,.cells false [.bool false,.int .i64 0,.bool false,.int .i64 0])]) ⟨rfl,.inr ⟨i5,_,rfl,rfl,rfl,Cells.cons (R:=tSym) (x:=⟨false,0⟩) (l:=[_,_]) rfl (Cells.single (R:=tSym) (x:=⟨false,0⟩) rfl),by decide⟩⟩ hF1 hB1).mono (hF2.trans hF3);have h8:Arr tSym F3 (some ⟨i8,0,none⟩) 1 2 [⟨true,0⟩]:=(Bld.frozen (F:=F1) (B:=[(i8,.cells false [.bool true,.int .i64 0])]) ⟨rfl,.inr ⟨i8,_,rfl,rfl,rfl,Cells.single (R:=tSym) (x:=⟨true,0⟩) rfl,by decide⟩⟩ hF2 hB2).mono hF3
 have h10:Arr tRule F3 (some ⟨i10,0,none⟩) 2 2 dubG.rules:=Bld.frozen (F:=F3) (B:=[(i10,.cells false [.int .i64 0,.slice (some ⟨i5,0,none⟩) 2 2,.int .i64 0,.slice (some ⟨i8,0,none⟩) 1 2])]) ⟨rfl,.inr ⟨i10,_,rfl,rfl,rfl,Cells.cons (R:=tRule) (x:=⟨0,[⟨false,0⟩,⟨false,0⟩]⟩) (l:=[_,_]) ⟨_,_,_,rfl,h5⟩ (Cells.single (R:=tRule) (x:=⟨0,[⟨true,0⟩]⟩) ⟨_,_,_,rfl,h8⟩),by decide⟩⟩ (Frz.le.refl _) hB3;refine zB7 ?_;exact AW.ret ⟨_,[],⟨_,_,⟨_,rfl,fun G h0 s0=>loadA_cells (s0.has (p:=3) rfl me) (readT_ok hT rfl)⟩,rfl,rfl⟩,zsb,rfl,_,_,rfl,h10⟩
def dubSc(I:List (List Lr)):List (List Look):=I.map fun st=>st.map fun x=>⟨x,if x.rule<2 then 3 else 2⟩
theorem mask_two{P:Nat→Prop}(h1:P 1):(P 0→maskOf P 2=3)∧(¬P 0→maskOf P 2=2):=by
 constructor
 ·intro h0;simp[maskOf,h0,h1]
 ·intro h0;simp[maskOf,h0,h1]
def dubI:List (List Lr):=[[⟨0,0⟩,⟨1,0⟩,⟨2,0⟩],[⟨1,1⟩],[⟨0,0⟩,⟨0,1⟩,⟨1,0⟩,⟨2,1⟩],[⟨0,0⟩,⟨0,1⟩,⟨0,2⟩,⟨1,0⟩]]
def dubR:List (List Int):=[[1,2],[-1,-1],[1,3],[1,3]]
theorem dub_auto:autoC dubG=some (dubI,dubR):=by decide +kernel
theorem dub_valid:Valid dubG:=dub_small.valid
theorem dub_lal{s:Nat}{st:List Lr}{x:Lr}{t:Nat}(hs:dubI[s]?=some st)(hx:x∈st)(ht:t<2)(h:x.rule<2∨t=1):LalA dubG dubI dubR s x t:=by
 have it:∀{s:Nat} {x:Lr} (st:List Lr),dubI[s]?=some st→x∈st→itI dubI s x:=fun st h1 h2=>⟨st,h1,h2⟩;have nil:NulL dubG []:=fun s h=>by cases h
 have r0:dubG.rules[0]?=some ⟨0,[⟨false,0⟩,⟨false,0⟩]⟩:=rfl;have r1:dubG.rules[1]?=some ⟨0,[⟨true,0⟩]⟩:=rfl;have bg:BegL dubG (restL dubG ⟨0,0⟩) 0:=⟨[],⟨false,0⟩,[],rfl,nil,.inr ⟨rfl,.term (r:=⟨0,[⟨true,0⟩]⟩) (pre:=[]) (post:=[]) (by simp[dubG]) rfl nil⟩⟩;have i00:itI dubI 0 ⟨0,0⟩:=it _ rfl (by decide);have i01:itI dubI 0 ⟨1,0⟩:=it _ rfl (by decide);have i02:itI dubI 0 ⟨2,0⟩:=it _ rfl (by decide);have i20:itI dubI 2 ⟨0,0⟩:=it _ rfl (by decide);have i21:itI dubI 2 ⟨0,1⟩:=it _ rfl (by decide);have i31:itI dubI 3 ⟨0,1⟩:=it _ rfl (by decide);have a0:LalA dubG dubI dubR 0 ⟨2,0⟩ 1:=.start
 have two:t=0∨t=1:=by omega
 have a1:LalA dubG dubI dubR 0 ⟨0,0⟩ t:=by
  rcases two with rfl | rfl
  ·exact .beg0 i00 rfl r0 bg
  ·exact .pass a0 i02 rfl r0 nil
 have a2:LalA dubG dubI dubR 0 ⟨1,0⟩ t:=by
  rcases two with rfl | rfl
  ·exact .beg0 i00 rfl r1 bg
  ·exact .pass a0 i02 rfl r1 nil
 have b1:LalA dubG dubI dubR 1 ⟨1,1⟩ t:=.goto (y:=⟨true,0⟩) a2 i01 rfl rfl;have c1:LalA dubG dubI dubR 2 ⟨0,1⟩ t:=.goto (y:=⟨false,0⟩) a1 i00 rfl rfl;have c2:LalA dubG dubI dubR 2 ⟨2,1⟩ 1:=.goto (y:=⟨false,0⟩) a0 i02 rfl rfl;have c3:LalA dubG dubI dubR 2 ⟨0,0⟩ t:=.pass c1 i21 rfl r0 nil;have c4:LalA dubG dubI dubR 2 ⟨1,0⟩ t:=.pass c1 i21 rfl r1 nil;have d1:LalA dubG dubI dubR 3 ⟨0,2⟩ t:=.goto (y:=⟨false,0⟩) c1 i21 rfl rfl;have d2:LalA dubG dubI dubR 3 ⟨0,1⟩ t:=.goto (y:=⟨false,0⟩) c3 i20 rfl rfl;have d3:LalA dubG dubI dubR 3 ⟨0,0⟩ t:=.pass d2 i31 rfl r0 nil
 have d4:LalA dubG dubI dubR 3 ⟨1,0⟩ t:=.pass d2 i31 rfl r1 nil
 match s,hs with
 | 0,hs=>
  obtain rfl:=Option.some.inj hs;rcases List.mem_cons.1 hx with rfl | hx
  ·exact a1
  rcases List.mem_cons.1 hx with rfl | hx
  ·exact a2
  obtain rfl:=List.mem_singleton.1 hx;rcases h with h | rfl
  ·exact absurd h (by decide)
  ·exact a0
 | 1,hs=>
  obtain rfl:=Option.some.inj hs;obtain rfl:=List.mem_singleton.1 hx;exact b1
 | 2,hs=>
  obtain rfl:=Option.some.inj hs;rcases List.mem_cons.1 hx with rfl | hx
  ·exact c3
  rcases List.mem_cons.1 hx with rfl | hx
  ·exact c1
  rcases List.mem_cons.1 hx with rfl | hx
  ·exact c4
  obtain rfl:=List.mem_singleton.1 hx;rcases h with h | rfl
  ·exact absurd h (by decide)
  ·exact c2
 | 3,hs=>
  obtain rfl:=Option.some.inj hs;rcases List.mem_cons.1 hx with rfl | hx
  ·exact d3
  rcases List.mem_cons.1 hx with rfl | hx
  ·exact d2
  rcases List.mem_cons.1 hx with rfl | hx
  ·exact d1
  obtain rfl:=List.mem_singleton.1 hx;exact d4
 | s+4,hs=>cases hs
theorem dub_lalT:∃T,tableF dubG 2=some T∧T.act.length=4∧T.conf.length=1:=by
 have h3:=autoC_ok dub_auto;have hl:lookS dubG dubI (LalA dubG dubI dubR)=dubSc dubI:=by
  apply List.ext_getElem?;intro s;rw[lookS_at];unfold dubSc;rw[List.getElem?_map];cases hs:dubI[s]? with
  | none=>rfl
  | some st=>
   show some (st.map fun x=>(⟨x,maskOf (LalA dubG dubI dubR s x) (dubG.terms+1)⟩:Look))=_;congr 1;apply List.map_congr_left;intro x hx;have e:maskOf (LalA dubG dubI dubR s x) (dubG.terms+1)=if x.rule<2 then 3 else 2:=by
    have h1:=dub_lal hs hx (t:=1) (by decide) (.inr rfl);split
    ·rename_i h;exact(mask_two h1).1 (dub_lal hs hx (by decide) (.inl h))
    ·rename_i h;refine(mask_two h1).2 fun h0=>?_;have h4:=lal_fol dub_valid h3 h0;unfold FolA at h4;rw[if_neg (show ¬x.rule<dubG.rules.length from h)] at h4;exact absurd h4 (by decide)
   rw[e]
 refine⟨_,by unfold tableF statesF;rw[if_neg (by decide),h3];rfl,?_,?_⟩
 ·show (tabF (allF dubG (lookS dubG dubI (LalA dubG dubI dubR)) dubR) _).act.length=4;rw[hl];decide +kernel
 ·show (tabF (allF dubG (lookS dubG dubI (LalA dubG dubI dubR)) dubR) (dubR.map (·.drop dubG.terms))).conf.length=1;rw[hl];decide +kernel
end Go.Proofs.D
set_option linter.unusedVariables false
set_option maxRecDepth 20000
set_option maxHeartbeats 0
open Go Go.Abs Go.Proofs Go.Proofs.D
namespace Go.Abs
end Go.Abs
namespace Go.Proofs.D
theorem actIndex_spec(F:Frz){a:Option Addr}{m c:Nat}{xs:List (Nat×Nat)}(hx:Arr tAct F a m c xs)(hm:m≤1000000)(x:Nat×Nat) :
  Abs.Spec CC 48 [.slice a m c,.agg ⟨[.int .i64 x.1,.int .i64 x.2]⟩] F [] fun _ v o=>o=[]∧∃i:Int,v=.int .i64 i∧(0≤i↔x∈xs):=by
 refine Abs.Spec.fn (n:=19) Tryz.func48 rfl rfl fun own=>?_;have hxlen:=hx.len;refine AW.seq (AW.reg ?_);refine WT.boxT Z Z Z Z Z Z (fun i3 hi3=>?_);refine zB4 ?_;refine AW.range (S:=Unit) (fun _=>[]) (fun _=>_) (fun j _ G=>x∉xs.take j) m () Z Z Z Z Z Z Z Z Z zo Z Z (fun _=>rfl) (fun _=>rfl) sM oR (by simp) ?_ ?_
 ·intro j _ F1 hF1 hj hP;have hx1:=hx.mono hF1;refine zB4 ?_;refine WT.idxL hT hx1 Z Z Z Z Z Z Z Z Z zo (fun y hyj b1 off ro cs ly hb hp1 hrel=>?_);obtain rfl:ly=_:=hrel;refine zB4 ?_;refine AW.cond Z (fun hc=>?_) (fun hc=>?_)
  ·refine zB4 ?_;have e:x=y:=by
    simp at hc;cases x;cases y;simp only[Prod.mk.injEq] at *;omega
   subst e;refine AW.ret ⟨_,[],⟨_,_,rfl,rfl,rfl⟩,zsb,rfl,_,rfl,?_⟩;exact⟨fun _=>gM hyj,fun _=>by omega⟩
  ·refine zB4 ?_;refine⟨(),sM,zow,?_⟩;show x∉xs.take (j+1);rw[List.take_add_one,hyj];intro hm;rcases List.mem_append.1 hm with h | h
   ·exact hP h
   ·have e:x=y:=by simpa using h
    subst e;simp at hc
 ·intro _ F1 hF1 hP;rw[List.take_of_length_le zo] at hP;refine zB4 ?_;exact AW.ret ⟨_,[],⟨_,_,rfl,rfl,rfl⟩,zsb,rfl,_,rfl,by simp[hP]⟩
theorem actContains_spec(F:Frz){a:Option Addr}{m c:Nat}{xs:List (Nat×Nat)}(hx:Arr tAct F a m c xs)(hm:m≤1000000)(x:Nat×Nat) :
  Abs.Spec CC 13 [.slice a m c,.agg ⟨[.int .i64 x.1,.int .i64 x.2]⟩] F [] fun _ v o=>o=[]∧v=.bool (decide (x∈xs)):=by
 refine Abs.Spec.fn (n:=9) Tryz.func13 rfl rfl fun own=>?_;refine AW.seq (AW.reg ?_);refine WT.boxT Z Z Z Z Z Z (fun i3 hi3=>?_);refine zB4 ?_;refine WT.callV Tryz.func48 Z Z Z Z Z Z (actIndex_spec _ hx hm x) (fun v hv=>?_);obtain⟨i,rfl,hi⟩:=hv;refine zB4 ?_;refine AW.ret ⟨_,[],⟨_,_,rfl,rfl,rfl⟩,zsb,rfl,?_⟩;rw[show decide (x∈xs)=decide (0≤i) from by simp[hi]];rfl
theorem cell_spec(F:Frz){g:Gram}{S:List (List Look)}{rows go:List (List Int)}{method:Nat}{v:Value}(hv:TabV F method (tabF (allF g S rows) go) v)(hsm:TabSm (tabF (allF g S rows) go)){s c:Nat}(hs:s<S.length)(hc:c≤g.terms)(hS:S.length≤1000)(ht:g.terms≤100) :
  Abs.Spec CC 11 [v,.int .i64 (s:Nat),.int .i64 (c:Nat)] F [] fun F' v o=>o=[]∧∃a n k,v=.slice a n k∧Arr tAct F' a n k (cellF (actsF g (S.getD s []) (rows.getD s []) c)):=by
 obtain⟨a1,n1,c1,a2,n2,c2,a3,n3,c3,rfl,h1,h2,h3⟩:=hv;have hl1:=h1.len;have hl3:=h3.len;have hal:(allF g S rows).length=S.length:=by unfold allF;simp
 have hrow:(allF g S rows).getD s []=(List.range (g.terms+1)).map fun t=>actsF g (S.getD s []) (rows.getD s []) t:=getD_some (map_at (List.getElem?_range hs));have hcell:((allF g S rows).getD s []).getD c []=actsF g (S.getD s []) (rows.getD s []) c:=by
  rw[hrow];exact getD_some (map_at (List.getElem?_range zo))
 have hact:(tabF (allF g S rows) go).act[s]?=some (((List.range (g.terms+1)).map fun t=>actsF g (S.getD s []) (rows.getD s []) t).map fun l=>l.head?.getD (0,0)):=
  map_at (map_at (List.getElem?_range hs))
 generalize hA:actsF g (S.getD s []) (rows.getD s []) c=A at hcell;have hal2:∀q∈(tabF (allF g S rows) go).conf,q.1=s→q.2.1=c→q.2.2=A∧1<A.length:=fun q hq e1 e2=>by
  obtain⟨g1,g2,g3,g4⟩:=mem_conf.1 hq;rw[e1,e2,hcell] at g3 g4;exact⟨g4,g3⟩
 have hal3:1<A.length→(s,c,A)∈(tabF (allF g S rows) go).conf:=fun h=>mem_conf.2 ⟨by show s<_;rw[hal];exact hs,by show c<((allF g S rows).getD s []).length;rw[hrow];simp;omega,by show 1<(((allF g S rows).getD s []).getD c []).length;rw[hcell];exact h,by show A=((allF g S rows).getD s []).getD c [];rw[hcell]⟩;have hn3:=hsm.conf;have hn1:=hsm.act;generalize (tabF (allF g S rows) go).conf=CF at h3 hal2 hal3 hl3 hn3;refine Abs.Spec.fn (n:=38) Tryz.func11 rfl rfl fun own=>?_;refine AW.seq (AW.reg ?_);refine WT.boxT Z Z Z Z Z Z (fun i3 hi3=>?_);refine zC4 ?_
 refine AW.range (S:=Unit) (fun _=>[]) (fun _=>_) (fun j _ G=>∀q∈CF.take j,¬(q.1=s∧q.2.1=c)) n3 () Z Z Z Z Z Z Z Z Z zo Z Z (fun _=>rfl) (fun _=>rfl) sM oR (by simp) ?_ ?_
 ·intro j _ F1 hF1 hj hP;have h31:=h3.mono hF1;refine zC4 ?_;refine WT.idxL hT h31 Z Z Z Z Z Z Z Z Z zo (fun q hqj b1 off ro cs lx hb hp1 hrel=>?_);obtain⟨qa,qn,qc,rfl,hqa⟩:=hrel;obtain⟨q1,q2,q3⟩:=q;have hqm:=gM hqj;refine zC4 ?_;refine WT.allocT hT Z Z Z Z Z Z (fun i8 hi8=>?_);refine zC4 ?_;refine WT.split 20 Z (fun h1=>?_) (fun h1=>?_)
  ·refine zC4 ?_;refine AW.cond Z (fun h2=>?_) (fun h2=>?_)
   ·have e1:q1=s:=by simp at h1;omega
    have e2:q2=c:=by simp at h2;omega
    obtain⟨e3,e4⟩:=hal2 _ hqm e1 e2;refine zC4 ?_;refine AW.ret ⟨_,[],⟨_,_,rfl,rfl,rfl⟩,zsb,rfl,qa,qn,qc,rfl,?_⟩;unfold cellF;rw[if_pos e4,←e3];exact hqa
   ·refine zC4 ?_;refine⟨(),sM,zow,?_⟩;intro q hq;rw[List.take_add_one,hqj] at hq;rcases List.mem_append.1 hq with hq | hq
    ·exact hP q hq
    ·obtain rfl:=List.mem_singleton.1 hq;rintro⟨_,e2⟩;have e2:q2=c:=e2;simp at h2;omega
  ·refine zC4 ?_;refine AW.cond Z (fun h=>(by cases h)) (fun _=>?_);refine zC4 ?_;refine⟨(),sM,zow,?_⟩;intro q hq;rw[List.take_add_one,hqj] at hq;rcases List.mem_append.1 hq with hq | hq
   ·exact hP q hq
   ·obtain rfl:=List.mem_singleton.1 hq;rintro⟨e1,_⟩;have e1:q1=s:=e1;simp at h1;omega
 ·intro _ F1 hF1 hP;rw[List.take_of_length_le zo] at hP;have h11:=h1.mono hF1;have hno:¬1<A.length:=fun h=>hP _ (hal3 h) ⟨rfl,rfl⟩;have hlt:=(gS hact).1;refine zC4 ?_;refine WT.idxL hT h11 Z Z Z Z Z Z Z Z Z zo (fun row hrw b2 off2 ro2 cs2 lx2 hb2 hp2 hrel2=>?_);obtain⟨ra,rn,rc,rfl,hra⟩:=hrel2;have hrl:=hra.len;rw[hact] at hrw;obtain rfl:=Option.some.inj hrw;have hrl:rn=g.terms+1:=by rw[hrl];simp
  obtain⟨sa,sc,hss,hsl⟩:=hra.slice (C:=CC) (lo:=c) (hi:=c+1) zo zo hT (t:=36) Z Z Z (some (.int .i64 (c:Nat))) (some (.int .i64 ((c+1:Nat):Int))) rfl rfl;refine zC4 ?_;refine WT.slice Z Z Z Z Z Z Z Z hss ?_;refine zC4 ?_;refine AW.ret ⟨_,[],⟨_,_,rfl,rfl,rfl⟩,zsb,rfl,_,_,_,rfl,?_⟩;unfold cellF;rw[if_neg hno];have hcc:(((List.range (g.terms+1)).map fun t=>actsF g (S.getD s []) (rows.getD s []) t).map fun l=>l.head?.getD (0,0))[c]?=some (headA A):=by
   rw[←hA];exact map_at (map_at (List.getElem?_range zo))
  have e:List.drop c (List.take (c+1) (((List.range (g.terms+1)).map fun t=>actsF g (S.getD s []) (rows.getD s []) t).map fun l=>l.head?.getD (0,0)))=[headA A]:=by
   rw[List.take_add_one,hcc,List.drop_append_of_le_length (by simp;omega),List.drop_take_self];rfl
  rw[e] at hsl;exact hsl
theorem tables_spec(F:Frz):Abs.Spec CC 10 [] F [] fun F' v o=>o=[]∧v=.bool true:=by
 have hgv:=dub_small.valid;obtain⟨T,hT2,hta,htc⟩:=dub_lalT;refine Abs.Spec.fn (n:=28) Tryz.func10 rfl rfl fun own=>?_;refine zB4 ?_;refine WT.callF0 Tryz.func46 Z Z Z Z Z Z (double_spec F) (fun F1 v hF1 hv=>?_);obtain⟨ga,gc,rfl,hG⟩:=hv;refine WT.callF0 Tryz.func9 Z Z Z Z Z Z (of_spec F1 dubG hgv (by decide) 2 (.inr (.inl rfl)) hG) (fun F2 v hF2 hv=>?_);rcases hv with ⟨hn,_⟩ | ⟨T',x,hT3,rfl,hx⟩
 ·rw[hT2] at hn;cases hn
 rw[hT2] at hT3;obtain rfl:=Option.some.inj hT3;have hx0:=hx;obtain⟨a1,n1,c1,a2,n2,c2,a3,n3,c3,rfl,h1,h2,h3⟩:=hx;have hl1:=h1.len;have hl3:=h3.len;refine zB4 ?_;refine WT.allocT hT Z Z Z Z Z Z (fun i1 hi1=>?_);refine zB4 ?_;refine AW.draw (ps:=[(15,16)]) Z Z ?_;refine zB4 ?_;refine WT.split 16 Z (fun h=>?_) (fun h=>absurd h (by simp;omega));refine zB4 ?_;refine WT.split 22 Z (fun h=>?_) (fun h=>absurd h (by simp;omega));refine zB4 ?_;refine WT.callF0 Tryz.func46 Z Z Z Z Z Z (double_spec F2) (fun F3 v hF3 hv=>?_);obtain⟨ga2,gc2,rfl,hG2⟩:=hv
 refine WT.callV Tryz.func47 Z Z Z Z Z Z (tcheck_spec F3 dubG hgv (by decide) (.inr (.inl rfl)) hT2 (hx0.mono hF3) hG2) (fun v hv=>?_);subst hv;refine zB4 ?_;refine⟨zrC,?_⟩;exact AW.ret ⟨_,[],⟨_,_,rfl,rfl,rfl⟩,zsb,rfl,rfl⟩
theorem tableActs_law(F:Frz)(hL:Laid F){a:Option Addr}{m c:Nat}{l:List Int}(hl:Arr tInt F a m c l)(hm:m≤9223372036854775807) :
  Abs.Spec CC 3 [.slice a m c] F [] fun _ v o=>o=[]∧v=.bool true:=by
 refine Abs.Spec.fn (n:=160) Tryz.func3 rfl rfl fun own=>?_;refine zB4 ?_;refine WT.callF0 Tryz.func8 Z Z Z Z Z Z (grammar_spec _ hl) (fun F1 v hF1 hv=>?_);obtain⟨g,⟨ga,gm,gc,rfl,hgr⟩,hg⟩:=hv;have hgt:=hg.terms;have hgn:=hg.nons;obtain⟨I,rows,hI⟩:=autoI_some hg;obtain⟨T1,T2,S1,S2,hT1,hT2,hTw,hPK1,hPK2⟩:=two_small hg.valid hI;have hsm1:=tableF_sm hg.valid zo hT1;have hsm2:=tableF_sm hg.valid zo hT2;obtain⟨e1,e2,hlen,hsub⟩:=hTw;subst e1;subst e2;refine WT.allocT hT Z Z Z Z Z Z (fun i3 hi3=>?_);refine zB4 ?_
 refine WT.callF0 Tryz.func9 Z Z Z Z Z Z (of_spec _ g hg.valid zo 1 (.inl rfl) hgr) (fun F2 v hF2 hv=>?_);rcases hv with ⟨hno,_⟩ | ⟨T',x1,hT',rfl,hx1⟩
 ·rw[hT1] at hno;cases hno
 rw[hT1] at hT';obtain rfl:=Option.some.inj hT';have hv1:=hx1;obtain⟨a1,n1,c1,a2,n2,c2,a3,n3,c3,rfl,hA1,hG1,hC1⟩:=hx1;have hgr2:=hgr.mono hF2;refine zB4 ?_;refine WT.allocT hT Z Z Z Z Z Z (fun i4 hi4=>?_);refine zB4 ?_;refine WT.callF0 Tryz.func9 Z Z Z Z Z Z (of_spec _ g hg.valid zo 2 (.inr (.inl rfl)) hgr2) (fun F3 v hF3 hv=>?_);rcases hv with ⟨hno,_⟩ | ⟨T',x2,hT',rfl,hx2⟩
 ·rw[hT2] at hno;cases hno
 rw[hT2] at hT';obtain rfl:=Option.some.inj hT';have hv2:=hx2;obtain⟨b1,m1,d1,b2,m2,d2,b3,m3,d3,rfl,hA2,hG2,hC2⟩:=hx2;refine zB4 ?_;refine WT.allocT hT Z Z Z Z Z Z (fun i6 hi6=>?_);refine zB4 ?_;refine WT.freezeAll 0 Z Z (fun F4 hF4 hB4=>?_);have hi6:=hB4 i6 _ me;refine WT.freezeAll 1 Z Z (fun F5 hF5 hB5=>?_);have hi4:=hB5 i4 _ me;have hi6:=hF5 _ _ hi6;refine WT.freezeAll 2 Z Z (fun F6 hF6 hB6=>?_);have hi3:=hB6 i3 _ me;have hi6:=hF6 _ _ hi6;have hi4:=hF6 _ _ hi4;have hF36:=hF4.trans (hF5.trans hF6);have hF26:=hF3.trans hF36;have hv1:=hv1.mono hF26;have hv2:=hv2.mono hF36
 have hA1:=hA1.mono hF26;have hG1:=hG1.mono hF26;have hA2:=hA2.mono hF36;have hG2:=hG2.mono hF36;have hla1:=hA1.len;have hlg1:=hG1.len;have hla2:=hA2.len;have hlg2:=hG2.len;have hS1:(tabF (allF g S1 rows) (rows.map (·.drop g.terms))).act.length=S1.length:=by show ((allF g S1 rows).map _).length=_;unfold allF;simp
 have hS2:(tabF (allF g S2 rows) (rows.map (·.drop g.terms))).act.length=S2.length:=by show ((allF g S2 rows).map _).length=_;unfold allF;simp
 have hsm11:=hsm1.2.1;have hsm12:=hsm1.2.2.1;have hsm22:=hsm2.2.2.1;refine WT.callV Tryz.func10 Z Z Z Z Z Z (tables_spec _) (fun v hv=>?_);subst hv;refine zB4 ?_;refine WT.split 44 Z (fun h=>absurd h (by simp;omega)) (fun h=>?_);refine zB4 ?_;refine WT.split 53 Z (fun h=>absurd h (by simp;omega)) (fun h=>?_);refine zB4 ?_;refine AW.cond Z (fun h=>absurd h (by simp;omega)) (fun _=>?_);refine zB4 ?_;refine AW.range (S:=Unit) (fun _=>[]) (fun _=>_) (fun j _ G=>True) n1 () Z Z Z Z Z Z Z Z Z zo Z Z (fun _=>rfl) (fun _=>rfl) sM oR trivial ?_ ?_
 ·intro s _ F7 hF7 hs _;have hi37:=hF7 _ _ hi3;have hi47:=hF7 _ _ hi4;have hi67:=hF7 _ _ hi6;have hv17:=hv1.mono hF7;have hv27:=hv2.mono hF7;have hA17:=hA1.mono hF7;have hA27:=hA2.mono hF7;have hG17:=hG1.mono hF7;have hG27:=hG2.mono hF7;refine zB4 ?_;refine WT.idxL hT hA17 Z Z Z Z Z Z Z Z Z zo (fun r1 hr1 b1 off1 ro1 cs1 lx1 hb1 hp1 hrel1=>?_);obtain⟨ra1,rn1,rc1,rfl,hra1⟩:=hrel1;have hrl1:=hra1.len;have hrw1:=hsm1.2.2.2.1 r1 (gM hr1);refine zB4 ?_;refine WT.split 78 Z (fun h=>absurd h (by simp;omega)) (fun h=>?_);refine zB4 ?_
  refine WT.idxL hT hA27 Z Z Z Z Z Z Z Z Z zo (fun r2 hr2 b2 off2 ro2 cs2 lx2 hb2 hp2 hrel2=>?_);obtain⟨ra2,rn2,rc2,rfl,hra2⟩:=hrel2;have hrl2:=hra2.len;have hrw2:=hsm2.2.2.2.1 r2 (gM hr2);refine zB4 ?_;refine WT.split 90 Z (fun h=>absurd h (by simp;omega)) (fun h=>?_);refine zB4 ?_;refine WT.idxL hT hG17 Z Z Z Z Z Z Z Z Z zo (fun q1 hq1 b3 off3 ro3 cs3 lx3 hb3 hp3 hrel3=>?_);obtain⟨qa1,qn1,qc1,rfl,hqa1⟩:=hrel3;refine zB4 ?_;refine WT.idxL hT hG27 Z Z Z Z Z Z Z Z Z zo (fun q2 hq2 b4 off4 ro4 cs4 lx4 hb4 hp4 hrel4=>?_);obtain⟨qa2,qn2,qc2,rfl,hqa2⟩:=hrel4
  have hqq:q1=q2:=Option.some.inj (hq1.symm.trans hq2);subst hqq;have hql1:=hqa1.len;have hqw:=hsm1.2.2.2.2 q1 (gM hq1);refine zB4 ?_;refine WT.callV Tryz.func12 Z Z Z Z Z Z (intEqual_spec _ hqa1 hqa2 zo) (fun v hv=>?_);subst hv;refine zB4 ?_;refine AW.cond Z (fun h=>(by cases h)) (fun _=>?_);refine zB4 ?_;refine WT.idxL hT hA17 Z Z Z Z Z Z Z Z Z zo (fun r3 hr3 b5 off5 ro5 cs5 lx5 hb5 hp5 hrel5=>?_);obtain⟨ra3,rn3,rc3,rfl,hra3⟩:=hrel5;have hrl3:=hra3.len;rw[hr1] at hr3;obtain rfl:=Option.some.inj hr3;refine zB4 ?_
  refine AW.range (S:=Unit) (fun _=>[]) (fun _=>_) (fun j _ G=>True) rn3 () Z Z Z Z Z Z Z Z Z zo Z Z (fun _=>rfl) (fun _=>rfl) sM oR trivial ?_ ?_
  ·intro t _ F8 hF8 ht _;have hi48:=hF8 _ _ hi47;have hi68:=hF8 _ _ hi67;have hv18:=hv17.mono hF8;have hv28:=hv27.mono hF8;have hA18:=hA17.mono hF8;have hA28:=hA27.mono hF8;refine zB4 ?_;refine WT.callCF0 Tryz.func11 Z Z Z Z Z Z Z Z (cell_spec F8 hv28 hsm2.1 zo zo zo zo) (fun F9 v hF9 hv=>?_);obtain⟨ca,cn,ck,rfl,hca⟩:=hv;have hcl:=hca.len;have hi49:=hF9 _ _ hi48;have hi69:=hF9 _ _ hi68;have hv19:=hv18.mono hF9;have hA19:=hA18.mono hF9;have hA29:=hA28.mono hF9;have hcn:cn≤1001:=by
    rw[hcl];unfold cellF;split
    ·rw[actsF_eq,List.length_append];have h1:(S2.getD s []).length≤1000:=by
      rw[List.getD_eq_getElem?_getD];cases hx:S2[s]? with
      | none=>exact Nat.zero_le _
      | some st=>exact hPK2 st (gM hx)
     have h2:=actPre_len (g:=g) (row:=rows.getD s []) (t:=t);have h3:=List.length_filterMap_le (actOne g t) (S2.getD s []);omega
    ·simp
   refine zB4 ?_;refine AW.range (S:=Unit) (fun _=>[]) (fun _=>_) (fun j _ G=>True) cn () Z Z Z Z Z Z Z Z Z zo Z Z (fun _=>rfl) (fun _=>rfl) sM oR trivial ?_ ?_
   ·intro j _ F10 hF10 hj _;have hi410:=hF10 _ _ hi49;have hv110:=hv19.mono hF10;have hca10:=hca.mono hF10;refine zB4 ?_;refine WT.idxL hT hca10 Z Z Z Z Z Z Z Z Z zo (fun x hxj b6 off6 ro6 cs6 lx6 hb6 hp6 hrel6=>?_);obtain rfl:lx6=_:=hrel6;obtain⟨x1,x2⟩:=x;have hxm:=gM hxj;refine zB4 ?_;refine WT.allocT hT Z Z Z Z Z Z (fun i12 hi12=>?_);refine zB4 ?_;refine AW.draw (ps:=[(9,8)]) Z Z ?_;refine zB4 ?_;refine WT.split 126 Z (fun h=>?_) (fun h=>?_)
    ·have hx0:x1≠0:=by simp at h;omega
     have hx1:(x1,x2)∈cellF (actsF g (S1.getD s []) (rows.getD s []) t):=mem_cellF (hsub s t _ zo zo (of_cellF hxm hx0));refine zB4 ?_;refine WT.callCF0 Tryz.func11 Z Z Z Z Z Z Z Z (cell_spec F10 hv110 hsm1.1 zo zo zo zo) (fun F11 v hF11 hv=>?_);obtain⟨da,dn,dk,rfl,hda⟩:=hv;have hdl:=hda.len;have hdn:dn≤1001:=by
      rw[hdl];unfold cellF;split
      ·rw[actsF_eq,List.length_append];have h1:(S1.getD s []).length≤1000:=by
        rw[List.getD_eq_getElem?_getD];cases hx:S1[s]? with
        | none=>exact Nat.zero_le _
        | some st=>exact hPK1 st (gM hx)
       have h2:=actPre_len (g:=g) (row:=rows.getD s []) (t:=t);have h3:=List.length_filterMap_le (actOne g t) (S1.getD s []);omega
      ·simp
     refine zB4 ?_;refine WT.callV Tryz.func13 Z Z Z Z Z Z (actContains_spec _ hda zo (x1,x2)) (fun v hv=>?_);subst hv;rw[decide_eq_true hx1];refine zB4 ?_;refine⟨zrC,?_⟩;refine AW.cond Z (fun h=>(by cases h)) (fun _=>?_);refine zB4 ?_;exact⟨(),sM,zow,trivial⟩
    ·refine zB4 ?_;refine⟨zrC,?_⟩;refine AW.cond Z (fun h=>(by cases h)) (fun _=>?_);refine zB4 ?_;exact⟨(),sM,zow,trivial⟩
   ·intro _ F10 hF10 _;have hi410:=hF10 _ _ hi49;have hi610:=hF10 _ _ hi69;have hA110:=hA19.mono hF10;have hA210:=hA29.mono hF10;refine zB4 ?_;refine WT.idxL hT hA110 Z Z Z Z Z Z Z Z Z zo (fun u1 hu1 b7 off7 ro7 cs7 lx7 hb7 hp7 hrel7=>?_);obtain⟨ua,un,uc,rfl,hua⟩:=hrel7;rw[hr1] at hu1;obtain rfl:=Option.some.inj hu1;have hul:=hua.len;refine zB4 ?_;refine WT.idxL hT hua Z Z Z Z Z Z Z Z Z zo (fun p1 hp1 b8 off8 ro8 cs8 lx8 hb8 hp8 hrel8=>?_);obtain rfl:lx8=_:=hrel8;refine zB4 ?_;refine WT.idxL hT hA210 Z Z Z Z Z Z Z Z Z zo (fun u2 hu2 b9 off9 ro9 cs9 lx9 hb9 hp9 hrel9=>?_)
    obtain⟨wa,wn,wc,rfl,hwa⟩:=hrel9;rw[hr2] at hu2;obtain rfl:=Option.some.inj hu2;have hwl:=hwa.len;refine zB4 ?_;refine WT.idxL hT hwa Z Z Z Z Z Z Z Z Z zo (fun p2 hp2 b10 off10 ro10 cs10 lx10 hb10 hp10 hrel10=>?_);obtain rfl:lx10=_:=hrel10;have k1:=act_head zo zo hr1 hp1;have k2:=act_head zo zo hr2 hp2;have hbb:((p1.1:Int)==1)=((p2.1:Int)==1):=by
     have h1:p1.1=1↔p2.1=1:=by rw[k1,k2,head_shift,head_shift]
     rw[Bool.eq_iff_iff,beq_iff_eq,beq_iff_eq];omega
    refine zB4 ?_;refine AW.cond Z (fun h=>absurd h (by rw[hbb];simp)) (fun _=>?_);refine zB4 ?_;exact⟨(),sM,zow,trivial⟩
  ·intro _ F8 hF8 _;exact⟨(),sM,zow,trivial⟩
 ·intro _ F7 hF7 _;refine zB4 ?_;exact AW.ret ⟨_,[],⟨_,_,rfl,rfl,rfl⟩,zsb,rfl,rfl⟩
end Go.Proofs.D