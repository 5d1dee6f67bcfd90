/-
  Walks: what functions of the program do, over the abstract machine.
-/
import Derived.Test.YtmbdmfjijofmmaaGreatDoorWk5
import Derived.Sort.Lot0
set_option linter.unusedVariables false
set_option maxRecDepth 20000
set_option maxHeartbeats 0
open Go Go.Abs Go.Proofs Go.Proofs.D
set_option linter.unusedVariables false
set_option maxRecDepth 20000
set_option maxHeartbeats 0
open Go Go.Abs Go.Proofs Go.Proofs.D
namespace Go.Proofs.D
def QI(g:Gram):Nat→Item→Prop:=fun k x=>ItemOk g.rules k x
structure FSt where
 fi:Nat
 ga:Option Addr
 gm:Nat
 gc:Nat
 q:ChP
 s:CSt
 wa:Option Addr
 wn:Nat
 wc:Nat
 BW:List (Nat×Blk)
 w:List Nat
 E:List Bool
structure FdOk(g:Gram)(F:Frz)(f:FSt):Prop where
 rules:Arr tRule F f.ga f.gm f.gc g.rules
 ends:EndsIn g f.E
 chart:COk (trimmed f.E g) (QI (trimmed f.E g)) f.q F f.s
 k:f.s.k=f.w.length
 sets:Sets (trimmed f.E g) f.w (LS f.s)
 word:Bld tNat F f.wa f.wn f.wc f.BW f.w
 ok:∀t∈f.w,t<g.terms
theorem FdOk.mono{g:Gram}{F G:Frz}{f:FSt}(h:FdOk g F f)(hF:Frz.le F G):FdOk g G f:=⟨h.rules.mono hF,h.ends,h.chart.mono hF,h.k,h.sets,h.word.mono hF,h.ok⟩
structure NextOk(g:Gram)(f:FSt)(xs:List Bool):Prop where
 len:xs.length=g.terms+1
 term:∀t,t<g.terms→(xs[t]?=some true↔∃x∈f.s.last,nextOf (trimmed f.E g).rules x=some ⟨true,t⟩)
 done:xs[g.terms]?=some (derives g f.w g.start 0 f.w.length)
structure SSt where
 k:Nat
 lists:List (List Item)
 sa:Option Addr
 sc:Nat
 BS:List (Nat×Blk)
 vs:List Value
 la:Option Addr
 lc:Nat
 BL:List (Nat×Blk)
 us:List Value
structure SOk(g:Gram)(Q:Nat→Item→Prop)(q:ChP)(F:Frz)(s:SSt):Prop where
 rules:Arr tRule F q.ra q.rm q.rc g.rules
 sets:GB tRaw F s.sa (s.k+1) s.sc s.BS s.vs
 list:GB tRaw F s.la (s.k+1) s.lc s.BL s.us
 len:s.lists.length=s.k+1
 olds:∀(j:Nat) (l:List Item),s.lists[j]?=some l→∃a n c,s.us[j]?=some (.slice a n c)∧Arr tItem F a n c l
 all:∀(j:Nat) (l:List Item),s.lists[j]?=some l→∀x∈l,Q j x
 small:s.k≤20
 olen:∀(j:Nat) (l:List Item),s.lists[j]?=some l→l.length≤3360
 nd:∀(j:Nat) (l:List Item),s.lists[j]?=some l→l.Nodup
theorem SOk.mono{g:Gram}{Q:Nat→Item→Prop}{q:ChP}{F G:Frz}{s:SSt}(h:SOk g Q q F s)(hF:Frz.le F G):SOk g Q q G s:=
 ⟨h.rules.mono hF,h.sets.mono hF,h.list.mono hF,h.len,fun j l hj=>by obtain⟨a,n,c,h1,h2⟩:=h.olds j l hj;exact⟨a,n,c,h1,h2.mono hF⟩,h.all,h.small,h.olen,h.nd⟩
def LZ(s:SSt):Nat→List Item:=fun j=>s.lists.getD j []
def QP(g:Gram)(w:List Nat):Nat→Item→Prop:=fun k x=>ItemOk g.rules k x∧(k≤w.length→∀L,Sets g (w.take k) L→x∈L k)
structure FZ where
 fi:Nat
 ga:Option Addr
 gm:Nat
 gc:Nat
 q:ChP
 s:SSt
 wa:Option Addr
 wn:Nat
 wc:Nat
 BW:List (Nat×Blk)
 w:List Nat
 E:List Bool
structure ZOk(g:Gram)(F:Frz)(f:FZ):Prop where
 rules:Arr tRule F f.ga f.gm f.gc g.rules
 ends:EndsIn g f.E
 chart:SOk (trimmed f.E g) (QP (trimmed f.E g) f.w) f.q F f.s
 k:f.s.k=f.w.length
 sets:Sets (trimmed f.E g) f.w (LZ f.s)
 word:GB tNat F f.wa f.wn f.wc f.BW f.w
 ok:∀t∈f.w,t<g.terms
theorem ZOk.mono{g:Gram}{F G:Frz}{f:FZ}(h:ZOk g F f)(hF:Frz.le F G):ZOk g G f:=⟨h.rules.mono hF,h.ends,h.chart.mono hF,h.k,h.sets,h.word.mono hF,h.ok⟩
structure NextZ(g:Gram)(f:FZ)(xs:List Bool):Prop where
 len:xs.length=g.terms+1
 term:∀t,t<g.terms→(xs[t]?=some true↔∃x∈LZ f.s f.s.k,nextOf (trimmed f.E g).rules x=some ⟨true,t⟩)
 done:xs[g.terms]?=some (derives g f.w g.start 0 f.w.length)
inductive Spine(g:Gram)(w:List Nat)(p c:Nat):Sym→Nat→Nat→Prop
 | leaf:Spine g w p c ⟨true,c⟩ p 0
 | node {k:Nat} {r:Rule} {pre post:List Sym} {s:Sym} {ts:List Tree} {i m n:Nat}:g.rules[k]?=some r→r.right=pre++s::post→TreesOf g w pre ts i m→Spine g w p c s m n→Spine g w p c ⟨false,r.left⟩ i (n+(preL ts).length+1)
mutual
theorem TreeOf.spine{g:Gram}{w:List Nat}{p c:Nat}(hc:w[p]?=some c):∀{T:Tree} {X:Sym} {i j:Nat},TreeOf g w X T i j→i≤p→p<j→∃n,Spine g w p c X i n
 | .mk _ _ _,_,i,_,.leaf h,h1,h2=>by
  obtain rfl:i=p:=by omega
  rw[hc] at h;obtain rfl:=Option.some.inj h;exact⟨0,.leaf⟩
 | .mk _ _ ks,_,i,j,.node h h2,h3,h4=>by
  obtain⟨pre,s,post,ts,m,n,e1,e2,e3⟩:=TreesOf.spine hc h2 h3 h4;exact⟨_,.node h e1 e2 e3⟩
theorem TreesOf.spine{g:Gram}{w:List Nat}{p c:Nat}(hc:w[p]?=some c):∀{ts:List Tree} {l:List Sym} {i j:Nat},TreesOf g w l ts i j→i≤p→p<j→∃pre s post ts1 m n,l=pre++s::post∧TreesOf g w pre ts1 i m∧Spine g w p c s m n
 | [],_,i,_,.nil,h1,h2=>by omega
 | T::ts,_,i,j,.cons (s:=s) (l:=l) (m:=m) h1 h2,h3,h4=>by
  rcases Nat.lt_or_ge p m with h5 | h5
  ·obtain⟨n,hn⟩:=TreeOf.spine hc h1 h3 h5;exact⟨[],s,l,[],i,n,rfl,.nil,hn⟩
  ·obtain⟨pre,s',post,ts1,m',n,e1,e2,e3⟩:=TreesOf.spine hc h2 h5 h4;exact⟨s::pre,s',post,T::ts1,m',n,by rw[e1];rfl,.cons h1 e2,e3⟩
end
section
variable {g:Gram}{it:Nat→Lr→Prop}{la:Nat→Lr→Nat→Prop}{go:Nat→Sym→Option Nat}{act:Nat→Nat→Act}{w:List Nat}
end
section
variable {α:Type}{R:Ty α}{F G H:Frz}{a:Option Addr}{n c:Nat}{B:List (Nat×Blk)}{xs:List α}
end
structure LRT(g:Gram)(T:Tab)(I:List (List Lr))(rows:List (List Int))(la:Nat→Lr→Nat→Prop):Prop where
 auto:AutoC g I rows
 lr:LRok g (itI I) la (goR g rows)
 only:Only g (itI I) la (goR g rows) (actT T)
 alen:T.act.length=I.length
 few:T.act.length≤400
 arow:∀r∈T.act,r.length=g.terms+1
 go:T.go=rows.map (·.drop g.terms)
section
variable {g:Gram}{T:Tab}{I:List (List Lr)}{rows:List (List Int)}{la:Nat→Lr→Nat→Prop}
end
structure PP where
 method:Nat
 a1:Option Addr
 n1:Nat
 c1:Nat
 a2:Option Addr
 n2:Nat
 c2:Nat
 a3:Option Addr
 n3:Nat
 c3:Nat
 ga:Option Addr
 gm:Nat
 gc:Nat
 sa:Option Addr
 sn:Nat
 sc:Nat
 ta:Option Addr
 tn:Nat
 tc:Nat
 read:Nat
structure PPOk(g:Gram)(T:Tab)(F:Frz)(p:PP)(σ:List Nat)(τ:List Tree):Prop where
 act:Arr (tList tAct) F p.a1 p.n1 p.c1 T.act
 go:Arr (tList tInt) F p.a2 p.n2 p.c2 T.go
 rules:Arr tRule F p.ga p.gm p.gc g.rules
 states:Arr tNat F p.sa p.sn p.sc σ
 trees:Arr tTree F p.ta p.tn p.tc τ
 first:τ=[]→p.ta=none
theorem PPOk.mono{g:Gram}{T:Tab}{F G:Frz}{p:PP}{σ:List Nat}{τ:List Tree}(h:PPOk g T F p σ τ)(hF:Frz.le F G):PPOk g T G p σ τ:=
 ⟨h.act.mono hF,h.go.mono hF,h.rules.mono hF,h.states.mono hF,h.trees.mono hF,h.first⟩
structure RdS where
 j:Nat
 xa:Option Addr
 xn:Nat
 xc:Nat
 B1:List (Nat×Blk)
 ya:Option Addr
 yn:Nat
 yc:Nat
 B2:List (Nat×Blk)
def closStep(g:Gram)(L:List Lr):List Lr:=(List.range g.rules.length).filterMap fun k=>match g.rules[k]? with
 | some r=>if L.any (fun x=>decide (afterL g x=some ⟨false,r.left⟩)) then some ⟨k,0⟩ else none
 | none=>none
def closIt(g:Gram):Nat→List Lr→List Lr
 | 0,L=>L
 | n+1,L=>closIt g n (L++(closStep g L).filter fun z=>!decide (z∈L))
def closC(g:Gram)(l:List Lr):Option (List Lr):=
 if (closStep g (closIt g (g.rules.length+1) l)).all fun z=>decide (z∈closIt g (g.rules.length+1) l) then some ((allLr g).filter fun z=>decide (z∈closIt g (g.rules.length+1) l)) else none
theorem mem_closStep{g:Gram}{L:List Lr}{z:Lr}:z∈closStep g L↔∃k r x,z=⟨k,0⟩∧g.rules[k]?=some r∧x∈L∧afterL g x=some ⟨false,r.left⟩:=by
 unfold closStep;rw[List.mem_filterMap];constructor
 ·rintro⟨k,hk,h⟩;split at h
  ·rename_i r hr;split at h
   ·rename_i ha;obtain⟨x,hx,hd⟩:=List.any_eq_true.1 ha;exact⟨k,r,x,(Option.some.inj h).symm,hr,hx,of_decide_eq_true hd⟩
   ·cases h
  ·cases h
 ·rintro⟨k,r,x,rfl,hr,hx,ha⟩;refine⟨k,List.mem_range.2 (gS hr).1,?_⟩;rw[hr];dsimp only;rw[if_pos (List.any_eq_true.2 ⟨x,hx,decide_eq_true ha⟩)]
theorem closIt_sound{g:Gram}{l:List Lr}:∀(n:Nat) {L:List Lr},(∀x∈L,Clos g l x)→∀x∈closIt g n L,Clos g l x
 | 0,_,h=>h
 | n+1,L,h=>closIt_sound n (L:=L++(closStep g L).filter fun z=>!decide (z∈L)) fun x hx=>by
  rcases List.mem_append.1 hx with hx | hx
  ·exact h x hx
  ·obtain⟨k,r,y,rfl,hr,hy,ha⟩:=mem_closStep.1 (List.mem_filter.1 hx).1;exact .more (h y hy) ha hr rfl
theorem closIt_more{g:Gram}:∀(n:Nat) {L:List Lr} {x:Lr},x∈L→x∈closIt g n L
 | 0,_,_,h=>h
 | n+1,L,x,h=>closIt_more n (List.mem_append_left _ h)
theorem closC_ok{g:Gram}{l m:List Lr}(h:closC g l=some m):closL g l=m:=by
 unfold closC at h;split at h
 ·rename_i hc;obtain rfl:=Option.some.inj h;unfold closL;refine List.filter_congr fun z hz0=>?_;clear hz0;rw[Bool.eq_iff_iff,@decide_eq_true_iff _ (Classical.propDecidable _),decide_eq_true_iff];constructor
  ·intro hz
   induction hz with
   | base h=>exact closIt_more _ h
   | more h1 h2 h3 h4 ih=>
    subst h4;exact of_decide_eq_true (List.all_eq_true.1 hc _ (mem_closStep.2 ⟨_,_,_,rfl,h3,ih,h2⟩))
  ·exact closIt_sound _ (fun x hx=>.base hx) z
 ·cases h
def stepC(g:Gram)(st:List Lr):List Sym→Option (List (Option (List Lr)))
 | []=>some []
 | y::ys=>match stepC g st ys with
  | none=>none
  | some os=>if kern g st y=[] then some (none::os) else match closC g (kern g st y) with
   | none=>none
   | some s=>some (some s::os)
theorem stepC_ok{g:Gram}{st:List Lr}:∀{ys:List Sym} {os:List (Option (List Lr))},stepC g st ys=some os→(ys.map fun y=>if kern g st y=[] then none else some (closL g (kern g st y)))=os
 | [],os,h=>by cases h;rfl
 | y::ys,os,h=>by
  unfold stepC at h;cases h1:stepC g st ys with
  | none=>rw[h1] at h;cases h
  | some os1=>
   rw[h1] at h;dsimp only at h;rw[List.map_cons,stepC_ok h1];split at h
   ·rename_i hk;cases h;rw[if_pos hk]
   ·rename_i hk;cases h2:closC g (kern g st y) with
    | none=>rw[h2] at h;cases h
    | some s=>
     rw[h2] at h;cases h;rw[if_neg hk,closC_ok h2]
def numC(g:Gram):Nat→Nat→List (List Lr)→List (List Int)→Option (List (List Lr)×List (List Int))
 | 0,_,_,_=>none
 | f+1,i,sts,rows=>match sts[i]? with
  | none=>some (sts,rows)
  | some st=>match stepC g st (symsL g) with
   | none=>none
   | some os=>if (addAll sts os).1.length≤400 then numC g f (i+1) (addAll sts os).1 (rows++[(addAll sts os).2]) else none
theorem numC_ok{g:Gram}:∀(f f' i:Nat) {sts:List (List Lr)} {rows:List (List Int)} {r},f≤f'→numC g f i sts rows=some r→numF 400 (stepI g) f' i sts rows=some r
 | 0,_,_,_,_,_,_,h=>by cases h
 | f+1,0,_,_,_,_,hf,_=>by omega
 | f+1,f'+1,i,sts,rows,r,hf,h=>by
  unfold numC at h;unfold numF;cases hs:sts[i]? with
  | none=>rw[hs] at h;exact h
  | some st=>
   rw[hs] at h;dsimp only at h ⊢;cases h1:stepC g st (symsL g) with
   | none=>rw[h1] at h;cases h
   | some os=>
    rw[h1] at h;dsimp only at h;have e:stepI g st=os:=stepC_ok h1;rw[e];split at h
    ·rename_i hl;rw[if_pos hl];exact numC_ok f f' (i+1) zo h
    ·cases h
def autoC(g:Gram):Option (List (List Lr)×List (List Int)):=match closC g [⟨g.rules.length,0⟩] with
 | none=>none
 | some s=>numC g 40 0 [s] []
theorem autoC_ok{g:Gram}{r}(h:autoC g=some r):autoI g=some r:=by
 unfold autoC at h;cases h1:closC g [⟨g.rules.length,0⟩] with
 | none=>rw[h1] at h;cases h
 | some s=>
  rw[h1] at h;unfold autoI firstI;rw[closC_ok h1];exact numC_ok 40 401 0 (by decide) h
structure ShS where
 p:PP
 σ:List Nat
 τ:List Tree
structure CkS where
 a:Option Addr
 m:Nat
 c:Nat
 B:List (Nat×Blk)
 a2:Option Addr
 m2:Nat
 c2:Nat
 B2:List (Nat×Blk)
 us:List (List Nat)
 es:List Nat
structure Lst where
 lists:Nat→List Tree
 seen:List Cand
 waits:Nat×Nat→List Cand
 q:List (Cand×Tree)
def packAt(f:Fo)(c:Cand):Option NPack:=(f.packs c.node)[c.pack]?
def candTree(f:Fo)(L:Nat→List Tree)(c:Cand):Option Tree:=match packAt f c with
 | some p=>match pick L p.kids c.ranks with
  | some ts=>some (.mk p.rule 0 ts)
  | none=>none
 | none=>none
theorem candTree_some{f:Fo}{L:Nat→List Tree}{c:Cand}{T:Tree}(h:candTree f L c=some T):∃p ts,packAt f c=some p∧pick L p.kids c.ranks=some ts∧T=.mk p.rule 0 ts:=by
 unfold candTree at h;split at h
 ·rename_i p hp;split at h
  ·rename_i ts hts;cases h;exact⟨p,ts,hp,hts,rfl⟩
  ·cases h
 ·cases h
theorem candTree_of{f:Fo}{L:Nat→List Tree}{c:Cand}{p:NPack}{ts:List Tree}(h1:packAt f c=some p)(h2:pick L p.kids c.ranks=some ts):candTree f L c=some (.mk p.rule 0 ts):=by
 unfold candTree;simp only[h1,h2]
theorem candTree_grew{f:Fo}{L L':Nat→List Tree}(h:Grew L L'){c:Cand}{T:Tree}(hc:candTree f L c=some T):candTree f L' c=some T:=by
 obtain⟨p,ts,h1,h2,rfl⟩:=candTree_some hc;exact candTree_of h1 (pick_grew h h2)
structure CandOk(f:Fo)(most:Nat)(c:Cand):Prop where
 node:c.node<f.n
 nl:f.leaf c.node=none
 pack:∃p,packAt f c=some p
 rank:∀r∈c.ranks,r≤most
 zero:∀p,packAt f c=some p→∀(i r:Nat),p.kids.length≤i→c.ranks[i]?=some r→r=0
structure Inv(f:Fo)(most:Nat)(s:Lst)(done pend ex:List Cand):Prop where
 ok:∀c∈s.seen,CandOk f most c
 snd:s.seen.Nodup
 dsub:∀c∈done,c∈s.seen
 psub:∀c∈pend,c∈s.seen
 dnd:done.Nodup
 pnd:pend.Nodup
 qnd:(s.q.map (·.1)).Nodup
 wnd:∀w,(s.waits w).Nodup
 dq:∀c∈done,c∉s.q.map (·.1)∧c∉pend∧∀w,c∉s.waits w
 pq:∀c∈pend,c∉s.q.map (·.1)∧∀w,c∉s.waits w
 qw:∀c∈s.q.map (·.1),∀w,c∉s.waits w
 qok:∀x∈s.q,x.1∈s.seen∧candTree f s.lists x.1=some x.2
 wok:∀w,∀c∈s.waits w,c∈s.seen∧∃p,packAt f c=some p∧miss s.lists p.kids c.ranks=some w
 cover:∀c∈s.seen,c∈done∨c∈pend∨c∈s.q.map (·.1)∨∃w,c∈s.waits w
 next:∀c∈done,c∈ex∨(s.lists c.node).length=most∨((∃T∈s.lists c.node,candTree f s.lists c=some T)∧∀p,packAt f c=some p→∀i,i<p.kids.length→c.inc i∈s.seen)
 leafs:∀v t,v<f.n→f.leaf v=some t→s.lists v=[.mk (-1) t []]
 from_:∀v,f.leaf v=none→∀T∈s.lists v,∃c∈done,c.node=v∧candTree f s.lists c=some T
 len:∀v,(s.lists v).length≤most
 sorted:∀v,(s.lists v).Pairwise tlt
 ord:∀v,f.leaf v=none→∀x∈s.lists v,∀y∈s.q,tle x y.2
 valid:∀v,∀T∈s.lists v,NT f v T
 full:∀v,f.leaf v=none→(s.lists v).length=most→∀T,NT f v T→T∉s.lists v→∀x∈s.lists v,tlt x T
 small:∀v,∀T∈s.lists v,T.pre.length≤5000
def BaseIn(f:Fo)(s:Lst):Prop:=∀v,v<f.n→f.leaf v=none→∀p,p<(f.packs v).length→(⟨v,p,0,0,0,0⟩:Cand)∈s.seen
theorem pick_valid{f:Fo}{L:Nat→List Tree}(hv:∀v,∀T∈L v,NT f v T){ks rs:List Nat}{ts:List Tree}(h:pick L ks rs=some ts):NTs f ks ts:=by
 obtain⟨h1,h2⟩:=pick_some h;exact NTs.of_at h1 fun i k t hk ht=>by
  obtain⟨r,t',e1,e2,e3⟩:=h2 i k hk;rw[e3] at ht;cases ht;exact hv _ _ (gM e2)
theorem cand_valid{f:Fo}{most:Nat}{L:Nat→List Tree}(hv:∀v,∀T∈L v,NT f v T){c:Cand}(hc:CandOk f most c){T:Tree}(h:candTree f L c=some T):NT f c.node T:=by
 obtain⟨p,ts,h1,h2,rfl⟩:=candTree_some h;exact .node hc.node hc.nl (gM h1) (pick_valid hv h2)
theorem tlt_nodup{l:List Tree}(h:l.Pairwise tlt):l.Nodup:=by
 rw[List.nodup_iff_pairwise_ne];refine h.imp ?_;rintro a b hab rfl;exact wlt_irrefl _ hab
theorem nodup_at{α:Type}{l:List α}(h:l.Nodup){i j:Nat}{x:α}(hi:l[i]?=some x)(hj:l[j]?=some x):i=j:=by
 obtain⟨h1,h2⟩:=gS hi;obtain⟨h3,h4⟩:=gS hj;exact(List.getElem_inj h).1 (h2.trans h4.symm)
theorem cand_inj{f:Fo}(hf:f.Good){most:Nat}{L:Nat→List Tree}(hv:∀v,∀T∈L v,NT f v T)(hs:∀v,(L v).Pairwise tlt){c d:Cand}(hc:CandOk f most c)(hd:CandOk f most d)(hn:c.node=d.node){T:Tree}(h1:candTree f L c=some T)(h2:candTree f L d=some T):c=d:=by
 obtain⟨p,ts,e1,e2,rfl⟩:=candTree_some h1;obtain⟨q,us,g1,g2,g3⟩:=candTree_some h2;injection g3 with g3 _ g4;subst g4;have hr:p.rule=q.rule:=by omega
 unfold packAt at e1 g1;rw[←hn] at g1;have hp:=hf.uniq c.node hc.node hc.nl c.pack d.pack p q e1 g1 hr ts (pick_valid hv e2) (pick_valid hv g2);rw[←hp,e1] at g1;cases g1;refine Cand.ext_ hn hp (List.ext_getElem (by rfl) fun i hi hj=>?_);have r1:c.ranks[i]?=some c.ranks[i]:=gE hi;have r2:d.ranks[i]?=some d.ranks[i]:=gE hj;rcases Nat.lt_or_ge i p.kids.length with hk | hk
 ·obtain⟨k,hk⟩:∃k,p.kids[i]?=some k:=⟨_,gE hk⟩;obtain⟨_,f1⟩:=pick_some e2;obtain⟨_,f2⟩:=pick_some g2;obtain⟨r,t,a1,a2,a3⟩:=f1 i k hk;obtain⟨r',t',b1,b2,b3⟩:=f2 i k hk;rw[a3] at b3;cases b3;rw[r1] at a1;cases a1;rw[r2] at b1;cases b1;exact nodup_at (tlt_nodup (hs k)) a2 b2
 ·have z1:=hc.zero p (by unfold packAt;exact e1) i _ hk r1;have z2:=hd.zero p (by unfold packAt;rw[←hn,←hp];exact e1) i _ hk r2;omega
theorem sub_all{α:Type}[DecidableEq α]:∀(A B:List α),A.Nodup→(∀x∈A,x∈B)→B.length≤A.length→∀x∈B,x∈A
 | [],B,_,_,h,x,hx=>by
  obtain rfl:B=[]:=List.eq_nil_of_length_eq_zero (by simpa using h);cases hx
 | a::A,B,hn,hs,hl,x,hx=>by
  obtain⟨h1,h2⟩:=List.nodup_cons.1 hn;have ha:=hs a me;have hle:=List.length_erase_of_mem ha;have hpos:=List.length_pos_of_mem ha;by_cases e:x=a
  ·subst e;exact List.mem_cons_self ..
  ·have hx':x∈B.erase a:=(List.mem_erase_of_ne e).2 hx;refine List.mem_cons_of_mem _ (sub_all A (B.erase a) h2 (fun y hy=>?_) (by simp at hl;omega) x hx');exact(List.mem_erase_of_ne (by rintro rfl;exact h1 hy)).2 (hs y (List.mem_cons_of_mem _ hy))
theorem sub_len{α:Type}[DecidableEq α]:∀(A B:List α),A.Nodup→(∀x∈A,x∈B)→A.length≤B.length
 | [],_,_,_=>Nat.zero_le _
 | a::A,B,hn,hs=>by
  obtain⟨h1,h2⟩:=List.nodup_cons.1 hn;have ha:=hs a me;have hle:=List.length_erase_of_mem ha;have hpos:=List.length_pos_of_mem ha;have:=sub_len A (B.erase a) h2 fun y hy=>(List.mem_erase_of_ne (by rintro rfl;exact h1 hy)).2 (hs y (List.mem_cons_of_mem _ hy));simp only[List.length_cons];omega
open Classical in
noncomputable def unL(L:Nat→List Tree):List Nat→List Tree→Nat
 | k::ks,t::ts=>(if t∈L k then 0 else 1)+unL L ks ts
 | _,_=>0
theorem unL_le(L:Nat→List Tree):∀(ks:List Nat) (ts:List Tree),unL L ks ts≤ks.length
 | [],_=>Nat.le_refl _
 | _::_,[]=>Nat.zero_le _
 | k::ks,t::ts=>by
  have:=unL_le L ks ts;unfold unL;simp only[List.length_cons];split<;>omega
theorem unL_set{L:Nat→List Tree}:∀{ks:List Nat} {ts:List Tree} {i k:Nat} {t x:Tree},ks[i]?=some k→ts[i]?=some t→t∉L k→x∈L k→unL L ks (ts.set i x)<unL L ks ts
 | [],_,_,_,_,_,h,_,_,_=>by simp at h
 | _::_,[],_,_,_,_,_,h,_,_=>by simp at h
 | k0::ks,t0::ts,0,k,t,x,h1,h2,h3,h4=>by
  obtain rfl:k0=k:=by simpa using h1
  obtain rfl:t0=t:=by simpa using h2
  show unL L (k0::ks) (x::ts)<_;unfold unL;rw[if_pos h4,if_neg h3];omega
 | k0::ks,t0::ts,i+1,k,t,x,h1,h2,h3,h4=>by
  have:=unL_set (L:=L) (ks:=ks) (ts:=ts) (i:=i) (by simpa using h1) (by simpa using h2) h3 h4;show unL L (k0::ks) (t0::ts.set i x)<_;unfold unL;omega
def Behind(s:Lst)(most:Nat)(v:Nat)(T:Tree):Prop:=T∈s.lists v∨(∃y∈s.q,tle y.2 T)∨((s.lists v).length=most∧∀x∈s.lists v,tlt x T)
theorem allLe_of:∀{l m:List Tree},l.length=m.length→(∀(i:Nat) (a b:Tree),l[i]?=some a→m[i]?=some b→tle a b)→allLe l m
 | [],[],_,_=>trivial
 | [],_::_,h,_=>by simp at h
 | _::_,[],h,_=>by simp at h
 | a::l,b::m,h,h2=>⟨h2 0 a b rfl rfl,allLe_of (by simpa using h) fun i a b h3 h4=>h2 (i+1) a b (by simpa using h3) (by simpa using h4)⟩
theorem sorted_le{l:List Tree}(h:l.Pairwise tlt){i j:Nat}{a b:Tree}(hij:i≤j)(ha:l[i]?=some a)(hb:l[j]?=some b):tle a b:=by
 rcases Nat.lt_or_ge i j with h1 | h1
 ·obtain⟨h2,rfl⟩:=gS ha;obtain⟨h3,rfl⟩:=gS hb;exact .inl (List.pairwise_iff_getElem.1 h i j h2 h3 h1)
 ·obtain rfl:i=j:=by omega
  rw[ha] at hb;cases hb;exact wle_refl _
theorem ranks_ex{L:Nat→List Tree}:∀{ks:List Nat} {ts:List Tree},ts.length=ks.length→(∀(i k:Nat) (t:Tree),ks[i]?=some k→ts[i]?=some t→t∈L k)→
  ∃rs:List Nat,rs.length=ks.length∧∀(i k:Nat) (t:Tree),ks[i]?=some k→ts[i]?=some t→∃r,rs[i]?=some r∧(L k)[r]?=some t
 | [],_,_,_=>⟨[],rfl,fun i k t h=>by simp at h⟩
 | _::_,[],h,_=>by simp at h
 | k::ks,t::ts,h,h2=>by
  obtain⟨rs,h3,h4⟩:=ranks_ex (L:=L) (ks:=ks) (ts:=ts) (by simpa using h) fun i k t h5 h6=>h2 (i+1) k t (by simpa using h5) (by simpa using h6);obtain⟨r,hr⟩:=List.mem_iff_getElem?.1 (h2 0 k t rfl rfl);refine⟨r::rs,by simp[h3],fun i k' t' h5 h6=>?_⟩;cases i with
  | zero=>
   obtain rfl:k=k':=by simpa using h5
   obtain rfl:t=t':=by simpa using h6
   exact⟨r,rfl,hr⟩
  | succ i=>
   obtain⟨r',e1,e2⟩:=h4 i k' t' (by simpa using h5) (by simpa using h6);exact⟨r',by simpa using e1,e2⟩
theorem pad_four:∀(rs:List Nat),rs.length≤4→∃c:Nat×Nat×Nat×Nat,(∀(i r:Nat),rs[i]?=some r→[c.1,c.2.1,c.2.2.1,c.2.2.2][i]?=some r)∧∀(i r:Nat),rs.length≤i→[c.1,c.2.1,c.2.2.1,c.2.2.2][i]?=some r→r=0
 | [],_=>⟨(0,0,0,0),fun i r h=>by simp at h,fun i r _ h=>by
   match i with
   | 0 | 1 | 2 | 3=>simpa using h.symm
   | _+4=>simp at h⟩
 | [a],_=>⟨(a,0,0,0),fun i r h=>by
   match i with
   | 0=>simpa using h
   | _+1=>simp at h,fun i r h0 h=>by
   match i with
   | 0=>simp at h0
   | 1 | 2 | 3=>simpa using h.symm
   | _+4=>simp at h⟩
 | [a,b],_=>⟨(a,b,0,0),fun i r h=>by
   match i with
   | 0 | 1=>simpa using h
   | _+2=>simp at h,fun i r h0 h=>by
   match i with
   | 0 | 1=>simp at h0
   | 2 | 3=>simpa using h.symm
   | _+4=>simp at h⟩
 | [a,b,c],_=>⟨(a,b,c,0),fun i r h=>by
   match i with
   | 0 | 1 | 2=>simpa using h
   | _+3=>simp at h,fun i r h0 h=>by
   match i with
   | 0 | 1 | 2=>simp at h0
   | 3=>simpa using h.symm
   | _+4=>simp at h⟩
 | [a,b,c,d],_=>⟨(a,b,c,d),fun i r h=>h,fun i r h0 h=>by
   match i with
   | 0 | 1 | 2 | 3=>simp at h0
   | _+4=>simp at h⟩
 | _::_::_::_::_::_,h=>by simp at h
theorem Inv.climb{f:Fo}(hf:f.Good){most:Nat}{s:Lst}{done:List Cand}(h:Inv f most s done [] []){z:Cand}{p:NPack}{ts:List Tree}(hz:packAt f z=some p)(hzt:pick s.lists p.kids z.ranks=some ts)
  (hz0:∀(i r:Nat),p.kids.length≤i→z.ranks[i]?=some r→r=0) (hv:NT f z.node (.mk p.rule 0 ts)) (hk4:p.kids.length≤4) :
  ∀(D:Nat) (c:Cand),c∈s.seen→c.node=z.node→c.pack=z.pack→c.r0≤z.r0→c.r1≤z.r1→c.r2≤z.r2→c.r3≤z.r3→z.r0+z.r1+z.r2+z.r3-(c.r0+c.r1+c.r2+c.r3)≤D→Behind s most z.node (.mk p.rule 0 ts):=by
 intro D
 induction D with
 | zero=>
  intro c hc hn hp h0 h1 h2 h3 hD;obtain rfl:c=z:=by
   cases c;cases z;simp only at hn hp h0 h1 h2 h3 hD;simp only[Cand.mk.injEq];exact⟨hn,hp,by omega,by omega,by omega,by omega⟩
  have hct:=candTree_of hz hzt;rcases h.cover c hc with hx | hx | hx | ⟨w,hx⟩
  ·rcases h.next c hx with hy | hy | ⟨⟨T,hy,hy2⟩,_⟩
   ·cases hy
   ·by_cases hm:Tree.mk p.rule 0 ts∈s.lists c.node
    ·exact .inl hm
    ·exact .inr (.inr ⟨hy,h.full _ (h.ok c hc).nl hy _ hv hm⟩)
   ·rw[hct] at hy2;cases hy2;exact .inl hy
  ·cases hx
  ·obtain⟨y,hy,rfl⟩:=List.mem_map.1 hx;have:=(h.qok y hy).2;rw[hct] at this;exact .inr (.inl ⟨y,hy,by rw[←Option.some.inj this];exact wle_refl _⟩)
  ·obtain⟨_,p',hp',hm⟩:=h.wok w c hx;rw[hz] at hp';cases hp';obtain⟨i,e1,e2,e3⟩:=miss_some (k:=w.1) (r:=w.2) hm;obtain⟨r,t,g1,g2,_⟩:=(pick_some hzt).2 i _ e1;rw[e2] at g1;cases g1;rw[e3] at g2;cases g2
 | succ D ih=>
  intro c hc hn hp h0 h1 h2 h3 hD;have hpc:packAt f c=some p:=by unfold packAt at hz ⊢;rw[hn,hp];exact hz
  by_cases e:c=z
  ·exact ih c hc hn hp h0 h1 h2 h3 (by subst e;omega)
  have hle:∀(i a b:Nat),c.ranks[i]?=some a→z.ranks[i]?=some b→a≤b:=fun i a b ha hb=>by
   match i with
   | 0 | 1 | 2 | 3=>simp[Cand.ranks] at ha hb;omega
   | _+4=>simp[Cand.ranks] at ha
  rcases h.cover c hc with hx | hx | hx | ⟨w,hx⟩
  ·rcases h.next c hx with hy | hy | ⟨_,hy⟩
   ·cases hy
   ·rw[hn] at hy;by_cases hm:Tree.mk p.rule 0 ts∈s.lists z.node
    ·exact .inl hm
    ·exact .inr (.inr ⟨hy,h.full _ (hn▸(h.ok c hc).nl) hy _ hv hm⟩)
   ·have hy:=hy p hpc;have lt:∀(i a b:Nat),c.ranks[i]?=some a→z.ranks[i]?=some b→a<b→i<p.kids.length:=fun i a b ha hb hab=>by
     rcases Nat.lt_or_ge i p.kids.length with h5 | h5
     ·exact h5
     ·have:=hz0 i b h5 hb;omega
    by_cases g0:c.r0<z.r0
    ·have hi:=hy 0 (lt 0 _ _ rfl rfl g0);exact ih (c.inc 0) hi hn hp g0 h1 h2 h3 (by show _-(c.r0+1+c.r1+c.r2+c.r3)≤D;omega)
    by_cases g1:c.r1<z.r1
    ·have hi:=hy 1 (lt 1 _ _ rfl rfl g1);exact ih (c.inc 1) hi hn hp h0 g1 h2 h3 (by show _-(c.r0+(c.r1+1)+c.r2+c.r3)≤D;omega)
    by_cases g2:c.r2<z.r2
    ·have hi:=hy 2 (lt 2 _ _ rfl rfl g2);exact ih (c.inc 2) hi hn hp h0 h1 g2 h3 (by show _-(c.r0+c.r1+(c.r2+1)+c.r3)≤D;omega)
    by_cases g3:c.r3<z.r3
    ·have hi:=hy 3 (lt 3 _ _ rfl rfl g3);exact ih (c.inc 3) hi hn hp h0 h1 h2 g3 (by show _-(c.r0+c.r1+c.r2+(c.r3+1))≤D;omega)
    exfalso;apply e;cases c;cases z;simp only at hn hp h0 h1 h2 h3 g0 g1 g2 g3;simp only[Cand.mk.injEq];exact⟨hn,hp,by omega,by omega,by omega,by omega⟩
  ·cases hx
  ·obtain⟨y,hy,rfl⟩:=List.mem_map.1 hx;obtain⟨q,us,e1,e2,e3⟩:=candTree_some (h.qok y hy).2;rw[hpc] at e1;cases e1;refine .inr (.inl ⟨y,hy,?_⟩);rw[e3];refine wle_cons _ (preL_le (allLe_of (by rw[(pick_some e2).1,(pick_some hzt).1]) fun i a b ha hb=>?_));have hi:=(gS ha).1;rw[(pick_some e2).1] at hi;obtain⟨k,hk⟩:∃k,p.kids[i]?=some k:=⟨_,gE hi⟩;obtain⟨r,t,a1,a2,a3⟩:=(pick_some e2).2 i k hk;obtain⟨r',t',b1,b2,b3⟩:=(pick_some hzt).2 i k hk;rw[ha] at a3;cases a3;rw[hb] at b3;cases b3;exact sorted_le (h.sorted k) (hle i _ _ a1 b1) a2 b2
  ·obtain⟨_,p',hp',hm⟩:=h.wok w c hx;rw[hpc] at hp';cases hp';obtain⟨i,e1,e2,e3⟩:=miss_some (k:=w.1) (r:=w.2) hm;obtain⟨r,t,g1,g2,_⟩:=(pick_some hzt).2 i _ e1;have:=hle i _ _ e2 g1;have h5:=(gS g2).1;rw[gE (show w.2<_ by omega)] at e3;cases e3
theorem set_inj{α:Type}{l:List α}{i:Nat}{a b:α}(h:i<l.length)(e:l.set i a=l.set i b):a=b:=by
 have h1:=congrArg (fun m=>m[i]?) e;simpa [h] using h1
theorem Inv.behindN{f:Fo}(hf:f.Good){most:Nat}{s:Lst}{done:List Cand}(h:Inv f most s done [] [])(hb:BaseIn f s):∀(N v:Nat) (p:NPack) (ts:List Tree),v<f.n→f.leaf v=none→p∈f.packs v→NTs f p.kids ts→
  (Tree.mk p.rule 0 ts).pre.length*5+unL s.lists p.kids ts<N→Behind s most v (.mk p.rule 0 ts):=by
 intro N
 induction N with
 | zero=>intro v p ts _ _ _ _ hN;omega
 | succ N ih=>
  intro v p ts hv hl hp hts hN;have hk4:=(hf.kids v hv p hp).1;have hlen:=hts.len;have hval:NT f v (.mk p.rule 0 ts):=.node hv hl hp hts;by_cases hall:∀(i k:Nat) (t:Tree),p.kids[i]?=some k→ts[i]?=some t→t∈s.lists k
  ·obtain⟨rs,h1,h2⟩:=ranks_ex hlen hall;obtain⟨⟨a0,a1,a2,a3⟩,h3,h4⟩:=pad_four rs zo;obtain⟨j,hj⟩:=List.mem_iff_getElem?.1 hp;have hjl:=(gS hj).1;have hpk:pick s.lists p.kids [a0,a1,a2,a3]=some ts:=pick_of hlen fun i k hk=>by
    have hi:=(gS hk).1;obtain⟨t,ht⟩:∃t,ts[i]?=some t:=⟨_,gE zo⟩;obtain⟨r,e1,e2⟩:=h2 i k t hk ht;exact⟨r,t,h3 i r e1,e2,ht⟩
   exact h.climb hf (z:=⟨v,j,a0,a1,a2,a3⟩) hj hpk (fun i r hi hr=>h4 i r zo hr) hval hk4 _ ⟨v,j,0,0,0,0⟩ (hb v hv hl j hjl) rfl rfl (Nat.zero_le _) (Nat.zero_le _) (Nat.zero_le _) (Nat.zero_le _) (Nat.le_refl _)
  ·have ⟨i,hall⟩:=Classical.not_forall.1 hall;have ⟨k,hall⟩:=Classical.not_forall.1 hall;have ⟨t,hall⟩:=Classical.not_forall.1 hall;have ⟨hk,hall⟩:=Classical.not_imp.1 hall;have ⟨ht,hnl⟩:=Classical.not_imp.1 hall;have hkt:=hts.at_ hk ht;have htm:=gM ht;have hlt:=kid_lt (r:=p.rule) (t:=0) htm;have hu:=unL_le s.lists p.kids ts;have hB:Behind s most k t:=by
    cases hkt with
    | leaf h5 h6=>exact .inl (by rw[h.leafs k _ h5 h6];exact List.mem_cons_self ..)
    | @node _ q us h5 h6 h7 h8=>
     refine ih k q us h5 h6 h7 h8 ?_;have h9:=unL_le s.lists q.kids us;have h10:=(hf.kids k h5 q h7).1;have h11:(Tree.mk (q.rule:Int) 0 us).pre.length<(Tree.mk (p.rule:Int) 0 ts).pre.length:=by
      show _<(_::preL ts).length;have:=preL_mem htm;simp only[List.length_cons];omega
     omega
   rcases hB with hB | ⟨y,hy,hB⟩ | ⟨hB1,hB2⟩
   ·exact absurd hB hnl
   ·exact .inr (.inl ⟨y,hy,.inl (wle_wlt hB hlt)⟩)
   ·have hil:i<ts.length:=(gS ht).1;have small:∀x∈s.lists k,tlt (.mk p.rule 0 (ts.set i x)) (.mk p.rule 0 ts):=fun x hx=>wlt_cons _ (preL_set ht (hB2 x hx));have each:∀x∈s.lists k,Behind s most v (.mk p.rule 0 (ts.set i x)):=fun x hx=>by
     refine ih v p (ts.set i x) hv hl hp (hts.set hk (h.valid k x hx)) ?_;have h1:=unL_set (L:=s.lists) hk ht hnl hx;have h2:=wle_len (.inl (small x hx));omega
    by_cases hq:∃y∈s.q,tle y.2 (.mk p.rule 0 ts)
    ·exact .inr (.inl hq)
    by_cases hfull:(s.lists v).length=most∧∀z∈s.lists v,tlt z (.mk p.rule 0 ts)
    ·exact .inr (.inr hfull)
    have inl:∀x∈s.lists k,Tree.mk p.rule 0 (ts.set i x)∈s.lists v:=fun x hx=>by
     rcases each x hx with h1 | ⟨y,hy,h1⟩ | ⟨h1,h2⟩
     ·exact h1
     ·exact absurd ⟨y,hy,.inl (wle_wlt h1 (small x hx))⟩ hq
     ·exact absurd ⟨h1,fun z hz=>wlt_trans (h2 z hz) (small x hx)⟩ hfull
    exfalso;apply hfull
    classical
    have hnd:((s.lists k).map fun x=>Tree.mk p.rule 0 (ts.set i x)).Nodup:=by
     rw[List.nodup_iff_pairwise_ne,List.pairwise_map];refine(List.nodup_iff_pairwise_ne.1 (tlt_nodup (h.sorted k))).imp fun hne e=>hne ?_;injection e with _ _ e;exact set_inj hil e
    have hsub:∀z∈(s.lists k).map (fun x=>Tree.mk p.rule 0 (ts.set i x)),z∈s.lists v:=fun z hz=>by
     obtain⟨x,hx,rfl⟩:=List.mem_map.1 hz;exact inl x hx
    have hl1:=sub_len _ _ hnd hsub;have hl2:=h.len v;rw[List.length_map] at hl1;refine⟨by omega,fun z hz=>?_⟩;have:=sub_all _ _ hnd hsub (by rw[List.length_map];omega) z hz;obtain⟨x,hx,rfl⟩:=List.mem_map.1 this;exact small x hx
theorem Inv.behind{f:Fo}(hf:f.Good){most:Nat}{s:Lst}{done:List Cand}(h:Inv f most s done [] [])(hb:BaseIn f s){v:Nat}{T:Tree}(hT:NT f v T):Behind s most v T:=by
 cases hT with
 | leaf h5 h6=>exact .inl (by rw[h.leafs v _ h5 h6];exact List.mem_cons_self ..)
 | node h5 h6 h7 h8=>exact h.behindN hf hb _ _ _ _ h5 h6 h7 h8 (Nat.lt_succ_self _)
def updL(L:Nat→List Tree)(v:Nat)(T:Tree):Nat→List Tree:=fun x=>if x=v then L v++[T] else L x
theorem updL_grew(L:Nat→List Tree)(v:Nat)(T:Tree):Grew L (updL L v T):=fun x=>by
 unfold updL;by_cases e:x=v
 ·subst e;exact⟨[T],by rw[if_pos rfl]⟩
 ·exact⟨[],by rw[if_neg e,List.append_nil]⟩
theorem updL_same(L:Nat→List Tree)(v:Nat)(T:Tree):updL L v T v=L v++[T]:=if_pos rfl
theorem updL_ne(L:Nat→List Tree){v x:Nat}(T:Tree)(h:x≠v):updL L v T x=L x:=if_neg h
theorem updL_mem{L:Nat→List Tree}{v x:Nat}{T t:Tree}(h:t∈updL L v T x):t∈L x∨(x=v∧t=T):=by
 unfold updL at h;split at h
 ·rename_i e;subst e;rcases List.mem_append.1 h with h | h
  ·exact .inl h
  ·exact .inr ⟨rfl,List.mem_singleton.1 h⟩
 ·exact .inl h
theorem Inv.drop{f:Fo}{most:Nat}{s:Lst}{q:List (Cand×Tree)}{done:List Cand}{c:Cand}{T:Tree}(h:Inv f most { s with q:=(c,T)::q } done [] [])(hfull:(s.lists c.node).length=most):Inv f most { s with q:=q } (c::done) [] []:=by
 have hc:=h.qok (c,T) me;obtain⟨hcq,hqn⟩:=List.nodup_cons.1 (show (c::q.map (·.1)).Nodup from h.qnd);have hcd:c∉done:=fun hd=>(h.dq c hd).1 me;exact
 {ok:=h.ok
  snd:=h.snd
  dsub:=fun d hd=>by
   rcases List.mem_cons.1 hd with rfl | hd
   ·exact hc.1
   ·exact h.dsub d hd
  psub:=h.psub
  dnd:=List.nodup_cons.2 ⟨hcd,h.dnd⟩
  pnd:=h.pnd
  qnd:=hqn
  wnd:=h.wnd
  dq:=fun d hd=>by
   rcases List.mem_cons.1 hd with rfl | hd
   ·exact⟨hcq,by simp,h.qw d me⟩
   ·exact⟨fun hx=>(h.dq d hd).1 (List.mem_cons_of_mem _ hx),(h.dq d hd).2⟩
  pq:=fun d hd=>by cases hd
  qw:=fun d hd=>h.qw d (List.mem_cons_of_mem _ hd)
  qok:=fun x hx=>h.qok x (List.mem_cons_of_mem _ hx)
  wok:=h.wok
  cover:=fun d hd=>by
   rcases h.cover d hd with hx | hx | hx | hx
   ·exact .inl (List.mem_cons_of_mem _ hx)
   ·cases hx
   ·rcases List.mem_cons.1 (show d∈c::q.map (·.1) from hx) with rfl | hx
    ·exact .inl me
    ·exact .inr (.inr (.inl hx))
   ·exact .inr (.inr (.inr hx))
  next:=fun d hd=>by
   rcases List.mem_cons.1 hd with rfl | hd
   ·exact .inr (.inl hfull)
   ·exact h.next d hd
  leafs:=h.leafs
  from_:=fun v hv T hT=>by
   obtain⟨d,h1,h2⟩:=h.from_ v hv T hT;exact⟨d,List.mem_cons_of_mem _ h1,h2⟩
  len:=h.len
  sorted:=h.sorted
  ord:=fun v hv x hx y hy=>h.ord v hv x hx y (List.mem_cons_of_mem _ hy)
  valid:=h.valid
  full:=h.full
  small:=h.small }
def tookS(s:Lst)(c:Cand)(T:Tree)(q:List (Cand×Tree)):Lst:=
 ⟨updL s.lists c.node T,s.seen,fun w=>if w=(c.node,(s.lists c.node).length) then [] else s.waits w,q⟩
theorem miss_pick{L L':Nat→List Tree}{ks rs:List Nat}{k r:Nat}{ts:List Tree}{t:Tree}(hm:miss L ks rs=some (k,r))(hp:pick L' ks rs=some ts)(ht:(L' k)[r]?=some t):t∈ts:=by
 obtain⟨i,h1,h2,_⟩:=miss_some hm;obtain⟨r',t',e1,e2,e3⟩:=(pick_some hp).2 i k h1;rw[h2] at e1;cases e1;rw[ht] at e2;cases e2;exact gM e3
structure Took(f:Fo)(most:Nat)(s:Lst)(done:List Cand)(c:Cand)(T:Tree)(q:List (Cand×Tree)):Prop where
 inv:Inv f most (tookS s c T q) (c::done) (s.waits (c.node,(s.lists c.node).length)) [c]
 top:∀v,f.leaf v=none→∀x∈(tookS s c T q).lists v,tle x T
 wait:∀d∈s.waits (c.node,(s.lists c.node).length),∀U,candTree f (tookS s c T q).lists d=some U→tlt T U
 inc:∀p,packAt f c=some p→∀i,i<p.kids.length→CandOk f most (c.inc i)∧∀U,candTree f (tookS s c T q).lists (c.inc i)=some U→tlt T U
 mine:T∈(tookS s c T q).lists c.node∧candTree f (tookS s c T q).lists c=some T
theorem Inv.take{f:Fo}(hf:f.Good){most:Nat}{s:Lst}{q:List (Cand×Tree)}{done:List Cand}{c:Cand}{T:Tree}(h:Inv f most { s with q:=(c,T)::q } done [] [])(hb:BaseIn f s)(hmin:∀y∈q,tle T y.2)(hn:(s.lists c.node).length<most)(hsm:T.pre.length≤5000):Took f most s done c T q:=by
 obtain⟨hcs,hct⟩:=h.qok (c,T) me;have hcs:c∈s.seen:=hcs;have hct:candTree f s.lists c=some T:=hct;have hok:=h.ok c hcs;obtain⟨hcq,hqn⟩:=List.nodup_cons.1 (show (c::q.map (·.1)).Nodup from h.qnd);have hcd:c∉done:=fun hd=>(h.dq c hd).1 me;have hg:=updL_grew s.lists c.node T;have hval:∀v,∀t∈s.lists v,NT f v t:=h.valid;have hsort:∀v,(s.lists v).Pairwise tlt:=h.sorted;have hT:NT f c.node T:=cand_valid hval hok hct;have hleT:∀v,f.leaf v=none→∀x∈s.lists v,tle x T:=fun v hv x hx=>h.ord v hv x hx (c,T) me;have hnew:∀x∈s.lists c.node,tlt x T:=fun x hx=>by
  rcases hleT c.node hok.nl x hx with h1 | h1
  ·exact h1
  ·exfalso;have e:=hf.dec c.node x T (hval _ x hx) hT h1;subst e;obtain⟨d,h2,h3,h4⟩:=h.from_ c.node hok.nl x hx;have:=cand_inj hf hval hsort (h.ok d (h.dsub d h2)) hok h3 h4 hct;subst this;exact hcd h2
 have hTn:T∉s.lists c.node:=fun hx=>wlt_irrefl _ (hnew T hx);have hval':∀v,∀t∈updL s.lists c.node T v,NT f v t:=fun v t ht=>by
  rcases updL_mem ht with ht | ⟨rfl,rfl⟩
  ·exact hval v t ht
  ·exact hT
 have htop:∀v,f.leaf v=none→∀x∈updL s.lists c.node T v,tle x T:=fun v hv x hx=>by
  rcases updL_mem hx with hx | ⟨_,rfl⟩
  ·exact hleT v hv x hx
  ·exact wle_refl _
 have hsort':∀v,(updL s.lists c.node T v).Pairwise tlt:=fun v=>by
  unfold updL;split
  ·rw[List.pairwise_append];refine⟨hsort _,by simp,fun a ha b hb=>?_⟩;rw[List.mem_singleton.1 hb];exact hnew a ha
  ·exact hsort v
 have hlast:(updL s.lists c.node T c.node)[(s.lists c.node).length]?=some T:=by
  rw[updL_same,List.getElem?_append_right (Nat.le_refl _),Nat.sub_self];rfl
 have hbase:BaseIn f { s with q:=(c,T)::q }:=hb;have hct':=candTree_grew hg hct;have wsub:∀w,∀d∈(if w=(c.node,(s.lists c.node).length) then [] else s.waits w),d∈s.waits w:=fun w d hd=>by
  split at hd
  ·cases hd
  ·exact hd
 refine⟨?_,htop,fun d hd U hU=>?_,fun p hp i hi=>?_,?_,hct'⟩
 ·exact
  {ok:=h.ok
   snd:=h.snd
   dsub:=fun d hd=>by
    rcases List.mem_cons.1 hd with rfl | hd
    ·exact hcs
    ·exact h.dsub d hd
   psub:=fun d hd=>(h.wok _ d hd).1
   dnd:=List.nodup_cons.2 ⟨hcd,h.dnd⟩
   pnd:=h.wnd _
   qnd:=hqn
   wnd:=fun w=>by
    show (if w=(c.node,(s.lists c.node).length) then [] else s.waits w).Nodup;split
    ·exact List.nodup_nil
    ·exact h.wnd w
   dq:=fun d hd=>by
    rcases List.mem_cons.1 hd with rfl | hd
    ·exact⟨hcq,h.qw d me _,fun w hw=>h.qw d me w (wsub w d hw)⟩
    ·exact⟨fun hx=>(h.dq d hd).1 (List.mem_cons_of_mem _ hx),(h.dq d hd).2.2 _,fun w hw=>(h.dq d hd).2.2 w (wsub w d hw)⟩
   pq:=fun d hd=>⟨fun hx=>h.qw d (List.mem_cons_of_mem _ hx) _ hd,fun w hw=>by
    have h1:=wsub w d hw;obtain⟨_,p,hp,hm⟩:=h.wok w d h1;obtain⟨_,p',hp',hm'⟩:=h.wok _ d hd;rw[hp] at hp';cases hp';have e:w=(c.node,(s.lists c.node).length):=Option.some.inj (hm.symm.trans hm');have hw:d∈(if w=(c.node,(s.lists c.node).length) then [] else s.waits w):=hw;rw[if_pos e] at hw;cases hw⟩
   qw:=fun d hd w hw=>h.qw d (List.mem_cons_of_mem _ hd) w (wsub w d hw)
   qok:=fun x hx=>⟨(h.qok x (List.mem_cons_of_mem _ hx)).1,candTree_grew hg (h.qok x (List.mem_cons_of_mem _ hx)).2⟩
   wok:=fun w d hd=>by
    have h1:=wsub w d hd;have hd:d∈(if w=(c.node,(s.lists c.node).length) then [] else s.waits w):=hd;have hne:w≠(c.node,(s.lists c.node).length):=fun e=>by rw[if_pos e] at hd;cases hd
    obtain⟨h2,p,hp,hm⟩:=h.wok w d h1;refine⟨h2,p,hp,miss_grew hg hm ?_⟩;obtain⟨i,_,_,h3⟩:=miss_some (k:=w.1) (r:=w.2) hm;have h3:(s.lists w.1)[w.2]?=none:=h3;by_cases e:w.1=c.node
    ·rw[e] at h3;rw[e,updL_same];rw[List.getElem?_eq_none_iff] at h3 ⊢;rw[List.length_append,List.length_singleton];have:w.2≠(s.lists c.node).length:=fun e2=>hne (Prod.ext e e2);omega
    ·rw[updL_ne _ _ e];exact h3
   cover:=fun d hd=>by
    rcases h.cover d hd with hx | hx | hx | ⟨w,hx⟩
    ·exact .inl (List.mem_cons_of_mem _ hx)
    ·cases hx
    ·rcases List.mem_cons.1 (show d∈c::q.map (·.1) from hx) with rfl | hx
     ·exact .inl me
     ·exact .inr (.inr (.inl hx))
    ·by_cases e:w=(c.node,(s.lists c.node).length)
     ·subst e;exact .inr (.inl hx)
     ·exact .inr (.inr (.inr ⟨w,by show d∈(if w=(c.node,(s.lists c.node).length) then [] else s.waits w);rw[if_neg e];exact hx⟩))
   next:=fun d hd=>by
    rcases List.mem_cons.1 hd with rfl | hd
    ·exact .inl me
    ·rcases h.next d hd with hx | hx | ⟨⟨U,h1,h2⟩,h3⟩
     ·cases hx
     ·have hx:(s.lists d.node).length=most:=hx;refine .inr (.inl ?_);show (updL s.lists c.node T d.node).length=most;rw[updL_ne _ _ (fun e=>by rw[e] at hx;omega)];exact hx
     ·refine .inr (.inr ⟨⟨U,?_,candTree_grew hg h2⟩,h3⟩);obtain⟨x,hx⟩:=hg d.node;show U∈updL s.lists c.node T d.node;rw[hx];exact List.mem_append_left _ h1
   leafs:=fun v t hv ht=>by
    show updL s.lists c.node T v=_;rw[updL_ne _ _ (fun e=>by rw[e,hok.nl] at ht;cases ht)];exact h.leafs v t hv ht
   from_:=fun v hv U hU=>by
    rcases updL_mem hU with hU | ⟨rfl,rfl⟩
    ·obtain⟨d,h1,h2,h3⟩:=h.from_ v hv U hU;exact⟨d,List.mem_cons_of_mem _ h1,h2,candTree_grew hg h3⟩
    ·exact⟨c,List.mem_cons_self ..,rfl,hct'⟩
   len:=fun v=>by
    show (updL s.lists c.node T v).length≤most;unfold updL;split
    ·rw[List.length_append,List.length_singleton];omega
    ·exact h.len v
   sorted:=hsort'
   ord:=fun v hv x hx y hy=>wle_trans (htop v hv x hx) (hmin y hy)
   valid:=hval'
   full:=fun v hv hl U hU hUn x hx=>by
    by_cases e:v=c.node
    ·subst e;have hUn:U∉updL s.lists c.node T c.node:=hUn;rw[updL_same] at hUn;have hU1:U∉s.lists c.node:=fun h1=>hUn (List.mem_append_left _ h1);have hU2:U≠T:=fun h1=>hUn (by rw[h1];simp);have hTU:tlt T U:=by
      have key:tle T U:=by
       rcases h.behind hf hbase hU with h1 | ⟨y,hy,h1⟩ | ⟨h1,_⟩
       ·exact absurd h1 hU1
       ·rcases List.mem_cons.1 hy with rfl | hy
        ·exact h1
        ·exact wle_trans (hmin y hy) h1
       ·have h1:(s.lists c.node).length=most:=h1;omega
      rcases key with h1 | h1
      ·exact h1
      ·exact absurd (hf.dec c.node T U hT hU h1).symm hU2
     rcases updL_mem hx with hx | ⟨_,rfl⟩
     ·exact wlt_trans (hnew x hx) hTU
     ·exact hTU
    ·have hl:(updL s.lists c.node T v).length=most:=hl;have hUn:U∉updL s.lists c.node T v:=hUn;have hx:x∈updL s.lists c.node T v:=hx;rw[updL_ne _ _ e] at hl hUn hx;exact h.full v hv hl U hU hUn x hx
   small:=fun v U hU=>by
    rcases updL_mem hU with hU | ⟨rfl,rfl⟩
    ·exact h.small v U hU
    ·exact hsm }
 ·obtain⟨_,p,hp,hm⟩:=h.wok _ d hd;obtain⟨p',ts,e1,e2,rfl⟩:=candTree_some hU;rw[hp] at e1;cases e1;exact kid_lt (miss_pick hm e2 hlast)
 ·obtain⟨p',ts,e1,e2,e3⟩:=candTree_some hct';rw[hp] at e1;cases e1;obtain⟨k,hk⟩:∃k,p.kids[i]?=some k:=⟨_,gE hi⟩;obtain⟨r,t,a1,a2,a3⟩:=(pick_some e2).2 i k hk;have hir:=c.inc_ranks a1;have hnp:=c.inc_node i;have hpa:packAt f (c.inc i)=some p:=by unfold packAt at hp ⊢;rw[hnp.1,hnp.2];exact hp
  have hlen4:i<c.ranks.length:=(gS a1).1;refine⟨⟨by rw[hnp.1];exact hok.node,by rw[hnp.1];exact hok.nl,⟨p,hpa⟩,fun x hx=>?_,fun p2 hp2 j x hj hx=>?_⟩,fun U hU=>?_⟩
  ·rw[hir] at hx;rcases List.mem_or_eq_of_mem_set hx with hx | rfl
   ·exact hok.rank x hx
   ·obtain⟨p3,ts3,g1,g2,_⟩:=candTree_some hct;rw[hp] at g1;cases g1;obtain⟨r3,t3,b1,b2,_⟩:=(pick_some g2).2 i k hk;rw[a1] at b1;cases b1;have h1:=(gS b2).1;have h2:(s.lists k).length≤most:=h.len k;omega
  ·rw[hpa] at hp2;cases hp2;rw[hir,List.getElem?_set_ne zo] at hx;exact hok.zero p hp j x hj hx
  ·obtain⟨p3,us,g1,g2,rfl⟩:=candTree_some hU;rw[hpa] at g1;cases g1;rw[hir] at g2;have h1:=pick_some g2;have h2:=pick_some e2;obtain⟨r',u,b1,b2,b3⟩:=h1.2 i k hk;rw[List.getElem?_set_self hlen4] at b1;obtain rfl:=Option.some.inj b1;have e:us=ts.set i u:=by
    refine List.ext_getElem? fun j=>?_;by_cases hij:i=j
    ·subst hij;rw[b3,List.getElem?_set_self (by rw[h2.1];exact hi)]
    ·rw[List.getElem?_set_ne hij];by_cases hj:j<p.kids.length
     ·obtain⟨k2,hk2⟩:∃k,p.kids[j]?=some k:=⟨_,gE hj⟩;obtain⟨r1,t1,c1,c2,c3⟩:=h1.2 j k2 hk2;obtain⟨r2,t2,d1,d2,d3⟩:=h2.2 j k2 hk2;rw[List.getElem?_set_ne hij,d1] at c1;cases c1;have c2:(updL s.lists c.node T k2)[r1]?=some t1:=c2;rw[d2] at c2;cases c2;rw[c3,d3]
     ·rw[List.getElem?_eq_none (by rw[h1.1];omega),List.getElem?_eq_none (by rw[h2.1];omega)]
   rw[e3,e];refine wlt_cons _ (preL_set' a3 ?_);have hs:=hsort' k;obtain⟨q1,rfl⟩:=gS a2;obtain⟨q2,rfl⟩:=gS b2;exact List.pairwise_iff_getElem.1 hs _ _ q1 q2 (Nat.lt_succ_self _)
 ·show T∈updL s.lists c.node T c.node;rw[updL_same];simp
structure Firsts(f:Fo)(v most:Nat)(l:List Tree):Prop where
 sorted:l.Pairwise tlt
 valid:∀T∈l,NT f v T
 len:l.length≤most
 small:∀T∈l,T.pre.length≤5000
 rest:∀T,NT f v T→T∉l→(∀x∈l,tlt x T)∧(l.length=most∨5000<T.pre.length)
def tPtr:Ty Nat where
 size:=1
 rel:=fun _ l p=>l=[.pointer (some ⟨p,0,none⟩)]
 len:=fun _ _ _ h=>by rw[h];rfl
 one:=fun _ _ _ h=>by rw[h];rfl
 mono:=fun _ _ _ _ _ h=>h
mutual
inductive Sh(F:Frz):Nat→Tree→Prop
 | mk {p:Nat} {r:Int} {t:Nat} {ks:List Tree} {a:Option Addr} {n c:Nat} {ps:List Nat}:F p=some (.cells false [.int .i64 r,.int .i64 t,.int .i64 ((Tree.mk r t ks).pre.length:Nat),.slice a n c])→Arr tPtr F a n c ps→ShL F ps ks→Sh F p (.mk r t ks)
inductive ShL(F:Frz):List Nat→List Tree→Prop
 | nil:ShL F [] []
 | cons {p:Nat} {t:Tree} {ps:List Nat} {ts:List Tree}:Sh F p t→ShL F ps ts→ShL F (p::ps) (t::ts)
end
mutual
theorem Sh.mono{F G:Frz}(hF:Frz.le F G):∀{t:Tree} {p:Nat},Sh F p t→Sh G p t
 | .mk _ _ ks,_,.mk h1 h2 h3=>.mk (hF _ _ h1) (h2.mono hF) (ShL.mono hF h3)
theorem ShL.mono{F G:Frz}(hF:Frz.le F G):∀{ts:List Tree} {ps:List Nat},ShL F ps ts→ShL G ps ts
 | [],_,.nil=>.nil
 | _::_,_,.cons h1 h2=>.cons (Sh.mono hF h1) (ShL.mono hF h2)
end
theorem arr_ptr_uniq{F:Frz}{a:Option Addr}{n c:Nat}{ps qs:List Nat}(h:Arr tPtr F a n c ps)(h2:Arr tPtr F a n c qs):ps=qs:=by
 refine List.ext_getElem (by rw[←h.len,←h2.len]) fun i hi hj=>?_;obtain⟨b,off,ro,cs,l,e1,e2,e3,e4⟩:=h.el i _ (gE hi);obtain⟨b',off',ro',cs',l',g1,g2,g3,g4⟩:=h2.el i _ (gE hj);rw[e1] at g1;cases g1;rw[e2] at g2;cases g2;rw[e3] at g3;cases g3;have e4:l=_:=e4;rw[e4] at g4;have g4:[Value.pointer (some ⟨ps[i],0,none⟩)]=[Value.pointer (some ⟨qs[i],0,none⟩)]:=g4;simpa using g4
mutual
theorem Sh.uniq{F:Frz}:∀{t u:Tree} {p:Nat},Sh F p t→Sh F p u→t=u
 | .mk _ _ ks,.mk _ _ ls,_,.mk h1 h2 h3,.mk g1 g2 g3=>by
  rw[h1] at g1;simp only[Option.some.injEq,Blk.cells.injEq,true_and,List.cons.injEq,Value.int.injEq,Value.slice.injEq,and_true] at g1;obtain⟨rfl,e2,_,rfl,rfl,rfl⟩:=g1;obtain rfl:=Int.ofNat_inj.1 e2;obtain rfl:=arr_ptr_uniq h2 g2;rw[ShL.uniq h3 g3]
theorem ShL.uniq{F:Frz}:∀{ts us:List Tree} {ps:List Nat},ShL F ps ts→ShL F ps us→ts=us
 | [],[],_,_,_=>rfl
 | [],_::_,_,.nil,h=>by cases h
 | _::_,[],_,.cons _ _,h=>by cases h
 | _::_,_::_,_,.cons h1 h2,.cons g1 g2=>by rw[Sh.uniq h1 g1,ShL.uniq h2 g2]
end
structure CmS where
 i:Nat
 v:Int
 a:Option Addr
 n:Nat
 c:Nat
 B:List (Nat×Blk)
 ps:List Nat
structure CoS2 where
 xa:Option Addr
 xn:Nat
 xc:Nat
 XB:List (Nat×Blk)
 xs:List Nat
 X:List Tree
 ya:Option Addr
 yn:Nat
 yc:Nat
 YB:List (Nat×Blk)
 ys:List Nat
 Y:List Tree
def keyAt(Q:List (Cand×Tree))(i:Nat):List Int:=match Q[i]? with
 | some x=>x.2.pre
 | none=>[]
def HeapN(Q:List (Cand×Tree))(n:Nat):Prop:=∀i,0<i→i<n→wle (keyAt Q ((i-1) / 2)) (keyAt Q i)
structure UpOk(Q:List (Cand×Tree))(j:Nat):Prop where
 one:∀k,0<k→k<Q.length→k≠j→wle (keyAt Q ((k-1) / 2)) (keyAt Q k)
 two:∀k,0<k→k<Q.length→(k-1) / 2=j→0<j→wle (keyAt Q ((j-1) / 2)) (keyAt Q k)
structure DownOk(Q:List (Cand×Tree))(j n:Nat):Prop where
 one:∀k,0<k→k<n→(k-1) / 2≠j→wle (keyAt Q ((k-1) / 2)) (keyAt Q k)
 two:∀k,0<k→k<n→(k-1) / 2=j→0<j→wle (keyAt Q ((j-1) / 2)) (keyAt Q k)
theorem keyAt_take{Q:List (Cand×Tree)}{n i:Nat}(h:i<n):keyAt (Q.take n) i=keyAt Q i:=by
 unfold keyAt;rw[List.getElem?_take,if_pos h]
theorem HeapN.take{Q:List (Cand×Tree)}{n:Nat}(h:HeapN Q n)(hn:n≤Q.length):HeapN (Q.take n) (Q.take n).length:=fun i h1 h2=>by
 rw[List.length_take] at h2;rw[keyAt_take zo,keyAt_take zo];exact h i h1 zo
def candV(c:Cand)(t:Value):List Value:=[.int .i64 c.node,.int .i64 c.pack,.int .i64 c.r0,.int .i64 c.r1,.int .i64 c.r2,.int .i64 c.r3,t]
def tCQ:Ty (Cand×Tree) where
 size:=7
 rel:=fun F l x=>∃p,l=candV x.1 (.pointer (some ⟨p,0,none⟩))∧Sh F p x.2∧x.2.pre.length≤100000
 len:=fun _ _ _ h=>by obtain⟨p,rfl,_⟩:=h;rfl
 one:=fun _ _ _ h=>by obtain⟨p,rfl,_⟩:=h;rfl
 mono:=fun _ _ _ _ hF h=>by obtain⟨p,e,h,hb⟩:=h;exact⟨p,e,h.mono hF,hb⟩
structure LB where
 li:Nat
 x0:Value
 x1:Value
 x2:Value
 x3:Value
 x4:Value
 x5:Value
 ok:one x0=true∧one x1=true∧one x2=true∧one x3=true∧one x4=true∧one x5=true
structure UpS where
 j:Nat
 B:List (Nat×Blk)
 Q:List (Cand×Tree)
end Go.Proofs.D