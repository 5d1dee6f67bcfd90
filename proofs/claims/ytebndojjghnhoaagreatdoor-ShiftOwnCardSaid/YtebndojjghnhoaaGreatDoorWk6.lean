/-
  Walks: what functions of the program do, over the abstract machine.
-/
import Derived.Test.YtebndojjghnhoaaGreatDoorWk5
import Derived.Sort.Lot0
set_option linter.unusedVariables false
set_option maxRecDepth 20000
set_option maxHeartbeats 0
open Go Go.Abs Go.Proofs Go.Proofs.D
namespace Go.Proofs.D
structure Lst where
 lists:Nat→List Tree
 seen:List Cand
 waits:Nat×Nat→List Cand
 q:List (Cand×Tree)
def packAt(f:Fo)(c:Cand):Option NPack:=(f.packs c.node)[c.pack]?
def candTree(f:Fo)(L:Nat→List Tree)(c:Cand):Option Tree:=match packAt f c with
 | some p=>match pick L p.kids c.ranks with
  | some ts=>some (.mk p.rule 0 ts)
  | none=>none
 | none=>none
theorem candTree_some{f:Fo}{L:Nat→List Tree}{c:Cand}{T:Tree}(h:candTree f L c=some T):∃p ts,packAt f c=some p∧pick L p.kids c.ranks=some ts∧T=.mk p.rule 0 ts:=by
 unfold candTree at h;split at h
 ·rename_i p hp;split at h
  ·rename_i ts hts;cases h;exact⟨p,ts,hp,hts,rfl⟩
  ·cases h
 ·cases h
theorem candTree_of{f:Fo}{L:Nat→List Tree}{c:Cand}{p:NPack}{ts:List Tree}(h1:packAt f c=some p)(h2:pick L p.kids c.ranks=some ts):candTree f L c=some (.mk p.rule 0 ts):=by
 unfold candTree;simp only[h1,h2]
theorem candTree_grew{f:Fo}{L L':Nat→List Tree}(h:Grew L L'){c:Cand}{T:Tree}(hc:candTree f L c=some T):candTree f L' c=some T:=by
 obtain⟨p,ts,h1,h2,rfl⟩:=candTree_some hc;exact candTree_of h1 (pick_grew h h2)
structure CandOk(f:Fo)(most:Nat)(c:Cand):Prop where
 node:c.node<f.n
 nl:f.leaf c.node=none
 pack:∃p,packAt f c=some p
 rank:∀r∈c.ranks,r≤most
 zero:∀p,packAt f c=some p→∀(i r:Nat),p.kids.length≤i→c.ranks[i]?=some r→r=0
structure Inv(f:Fo)(most:Nat)(s:Lst)(done pend ex:List Cand):Prop where
 ok:∀c∈s.seen,CandOk f most c
 snd:s.seen.Nodup
 dsub:∀c∈done,c∈s.seen
 psub:∀c∈pend,c∈s.seen
 dnd:done.Nodup
 pnd:pend.Nodup
 qnd:(s.q.map (·.1)).Nodup
 wnd:∀w,(s.waits w).Nodup
 dq:∀c∈done,c∉s.q.map (·.1)∧c∉pend∧∀w,c∉s.waits w
 pq:∀c∈pend,c∉s.q.map (·.1)∧∀w,c∉s.waits w
 qw:∀c∈s.q.map (·.1),∀w,c∉s.waits w
 qok:∀x∈s.q,x.1∈s.seen∧candTree f s.lists x.1=some x.2
 wok:∀w,∀c∈s.waits w,c∈s.seen∧∃p,packAt f c=some p∧miss s.lists p.kids c.ranks=some w
 cover:∀c∈s.seen,c∈done∨c∈pend∨c∈s.q.map (·.1)∨∃w,c∈s.waits w
 next:∀c∈done,c∈ex∨(s.lists c.node).length=most∨((∃T∈s.lists c.node,candTree f s.lists c=some T)∧∀p,packAt f c=some p→∀i,i<p.kids.length→c.inc i∈s.seen)
 leafs:∀v t,v<f.n→f.leaf v=some t→s.lists v=[.mk (-1) t []]
 from_:∀v,f.leaf v=none→∀T∈s.lists v,∃c∈done,c.node=v∧candTree f s.lists c=some T
 len:∀v,(s.lists v).length≤most
 sorted:∀v,(s.lists v).Pairwise tlt
 ord:∀v,f.leaf v=none→∀x∈s.lists v,∀y∈s.q,tle x y.2
 valid:∀v,∀T∈s.lists v,NT f v T
 full:∀v,f.leaf v=none→(s.lists v).length=most→∀T,NT f v T→T∉s.lists v→∀x∈s.lists v,tlt x T
 small:∀v,∀T∈s.lists v,T.pre.length≤5000
def BaseIn(f:Fo)(s:Lst):Prop:=∀v,v<f.n→f.leaf v=none→∀p,p<(f.packs v).length→(⟨v,p,0,0,0,0⟩:Cand)∈s.seen
theorem pick_valid{f:Fo}{L:Nat→List Tree}(hv:∀v,∀T∈L v,NT f v T){ks rs:List Nat}{ts:List Tree}(h:pick L ks rs=some ts):NTs f ks ts:=by
 obtain⟨h1,h2⟩:=pick_some h;exact NTs.of_at h1 fun i k t hk ht=>by
  obtain⟨r,t',e1,e2,e3⟩:=h2 i k hk;rw[e3] at ht;cases ht;exact hv _ _ (gM e2)
theorem cand_valid{f:Fo}{most:Nat}{L:Nat→List Tree}(hv:∀v,∀T∈L v,NT f v T){c:Cand}(hc:CandOk f most c){T:Tree}(h:candTree f L c=some T):NT f c.node T:=by
 obtain⟨p,ts,h1,h2,rfl⟩:=candTree_some h;exact .node hc.node hc.nl (gM h1) (pick_valid hv h2)
theorem tlt_nodup{l:List Tree}(h:l.Pairwise tlt):l.Nodup:=by
 rw[List.nodup_iff_pairwise_ne];refine h.imp ?_;rintro a b hab rfl;exact wlt_irrefl _ hab
theorem nodup_at{α:Type}{l:List α}(h:l.Nodup){i j:Nat}{x:α}(hi:l[i]?=some x)(hj:l[j]?=some x):i=j:=by
 obtain⟨h1,h2⟩:=gS hi;obtain⟨h3,h4⟩:=gS hj;exact(List.getElem_inj h).1 (h2.trans h4.symm)
theorem cand_inj{f:Fo}(hf:f.Good){most:Nat}{L:Nat→List Tree}(hv:∀v,∀T∈L v,NT f v T)(hs:∀v,(L v).Pairwise tlt){c d:Cand}(hc:CandOk f most c)(hd:CandOk f most d)(hn:c.node=d.node){T:Tree}(h1:candTree f L c=some T)(h2:candTree f L d=some T):c=d:=by
 obtain⟨p,ts,e1,e2,rfl⟩:=candTree_some h1;obtain⟨q,us,g1,g2,g3⟩:=candTree_some h2;injection g3 with g3 _ g4;subst g4;have hr:p.rule=q.rule:=by omega
 unfold packAt at e1 g1;rw[←hn] at g1;have hp:=hf.uniq c.node hc.node hc.nl c.pack d.pack p q e1 g1 hr ts (pick_valid hv e2) (pick_valid hv g2);rw[←hp,e1] at g1;cases g1;refine Cand.ext_ hn hp (List.ext_getElem (by rfl) fun i hi hj=>?_);have r1:c.ranks[i]?=some c.ranks[i]:=gE hi;have r2:d.ranks[i]?=some d.ranks[i]:=gE hj;rcases Nat.lt_or_ge i p.kids.length with hk | hk
 ·obtain⟨k,hk⟩:∃k,p.kids[i]?=some k:=⟨_,gE hk⟩;obtain⟨_,f1⟩:=pick_some e2;obtain⟨_,f2⟩:=pick_some g2;obtain⟨r,t,a1,a2,a3⟩:=f1 i k hk;obtain⟨r',t',b1,b2,b3⟩:=f2 i k hk;rw[a3] at b3;cases b3;rw[r1] at a1;cases a1;rw[r2] at b1;cases b1;exact nodup_at (tlt_nodup (hs k)) a2 b2
 ·have z1:=hc.zero p (by unfold packAt;exact e1) i _ hk r1;have z2:=hd.zero p (by unfold packAt;rw[←hn,←hp];exact e1) i _ hk r2;omega
theorem sub_all{α:Type}[DecidableEq α]:∀(A B:List α),A.Nodup→(∀x∈A,x∈B)→B.length≤A.length→∀x∈B,x∈A
 | [],B,_,_,h,x,hx=>by
  obtain rfl:B=[]:=List.eq_nil_of_length_eq_zero (by simpa using h);cases hx
 | a::A,B,hn,hs,hl,x,hx=>by
  obtain⟨h1,h2⟩:=List.nodup_cons.1 hn;have ha:=hs a me;have hle:=List.length_erase_of_mem ha;have hpos:=List.length_pos_of_mem ha;by_cases e:x=a
  ·subst e;exact List.mem_cons_self ..
  ·have hx':x∈B.erase a:=(List.mem_erase_of_ne e).2 hx;refine List.mem_cons_of_mem _ (sub_all A (B.erase a) h2 (fun y hy=>?_) (by simp at hl;omega) x hx');exact(List.mem_erase_of_ne (by rintro rfl;exact h1 hy)).2 (hs y (List.mem_cons_of_mem _ hy))
theorem sub_len{α:Type}[DecidableEq α]:∀(A B:List α),A.Nodup→(∀x∈A,x∈B)→A.length≤B.length
 | [],_,_,_=>Nat.zero_le _
 | a::A,B,hn,hs=>by
  obtain⟨h1,h2⟩:=List.nodup_cons.1 hn;have ha:=hs a me;have hle:=List.length_erase_of_mem ha;have hpos:=List.length_pos_of_mem ha;have:=sub_len A (B.erase a) h2 fun y hy=>(List.mem_erase_of_ne (by rintro rfl;exact h1 hy)).2 (hs y (List.mem_cons_of_mem _ hy));simp only[List.length_cons];omega
open Classical in
noncomputable def unL(L:Nat→List Tree):List Nat→List Tree→Nat
 | k::ks,t::ts=>(if t∈L k then 0 else 1)+unL L ks ts
 | _,_=>0
theorem unL_le(L:Nat→List Tree):∀(ks:List Nat) (ts:List Tree),unL L ks ts≤ks.length
 | [],_=>Nat.le_refl _
 | _::_,[]=>Nat.zero_le _
 | k::ks,t::ts=>by
  have:=unL_le L ks ts;unfold unL;simp only[List.length_cons];split<;>omega
theorem unL_set{L:Nat→List Tree}:∀{ks:List Nat} {ts:List Tree} {i k:Nat} {t x:Tree},ks[i]?=some k→ts[i]?=some t→t∉L k→x∈L k→unL L ks (ts.set i x)<unL L ks ts
 | [],_,_,_,_,_,h,_,_,_=>by simp at h
 | _::_,[],_,_,_,_,_,h,_,_=>by simp at h
 | k0::ks,t0::ts,0,k,t,x,h1,h2,h3,h4=>by
  obtain rfl:k0=k:=by simpa using h1
  obtain rfl:t0=t:=by simpa using h2
  show unL L (k0::ks) (x::ts)<_;unfold unL;rw[if_pos h4,if_neg h3];omega
 | k0::ks,t0::ts,i+1,k,t,x,h1,h2,h3,h4=>by
  have:=unL_set (L:=L) (ks:=ks) (ts:=ts) (i:=i) (by simpa using h1) (by simpa using h2) h3 h4;show unL L (k0::ks) (t0::ts.set i x)<_;unfold unL;omega
def Behind(s:Lst)(most:Nat)(v:Nat)(T:Tree):Prop:=T∈s.lists v∨(∃y∈s.q,tle y.2 T)∨((s.lists v).length=most∧∀x∈s.lists v,tlt x T)
theorem allLe_of:∀{l m:List Tree},l.length=m.length→(∀(i:Nat) (a b:Tree),l[i]?=some a→m[i]?=some b→tle a b)→allLe l m
 | [],[],_,_=>trivial
 | [],_::_,h,_=>by simp at h
 | _::_,[],h,_=>by simp at h
 | a::l,b::m,h,h2=>⟨h2 0 a b rfl rfl,allLe_of (by simpa using h) fun i a b h3 h4=>h2 (i+1) a b (by simpa using h3) (by simpa using h4)⟩
theorem sorted_le{l:List Tree}(h:l.Pairwise tlt){i j:Nat}{a b:Tree}(hij:i≤j)(ha:l[i]?=some a)(hb:l[j]?=some b):tle a b:=by
 rcases Nat.lt_or_ge i j with h1 | h1
 ·obtain⟨h2,rfl⟩:=gS ha;obtain⟨h3,rfl⟩:=gS hb;exact .inl (List.pairwise_iff_getElem.1 h i j h2 h3 h1)
 ·obtain rfl:i=j:=by omega
  rw[ha] at hb;cases hb;exact wle_refl _
theorem ranks_ex{L:Nat→List Tree}:∀{ks:List Nat} {ts:List Tree},ts.length=ks.length→(∀(i k:Nat) (t:Tree),ks[i]?=some k→ts[i]?=some t→t∈L k)→
  ∃rs:List Nat,rs.length=ks.length∧∀(i k:Nat) (t:Tree),ks[i]?=some k→ts[i]?=some t→∃r,rs[i]?=some r∧(L k)[r]?=some t
 | [],_,_,_=>⟨[],rfl,fun i k t h=>by simp at h⟩
 | _::_,[],h,_=>by simp at h
 | k::ks,t::ts,h,h2=>by
  obtain⟨rs,h3,h4⟩:=ranks_ex (L:=L) (ks:=ks) (ts:=ts) (by simpa using h) fun i k t h5 h6=>h2 (i+1) k t (by simpa using h5) (by simpa using h6);obtain⟨r,hr⟩:=List.mem_iff_getElem?.1 (h2 0 k t rfl rfl);refine⟨r::rs,by simp[h3],fun i k' t' h5 h6=>?_⟩;cases i with
  | zero=>
   obtain rfl:k=k':=by simpa using h5
   obtain rfl:t=t':=by simpa using h6
   exact⟨r,rfl,hr⟩
  | succ i=>
   obtain⟨r',e1,e2⟩:=h4 i k' t' (by simpa using h5) (by simpa using h6);exact⟨r',by simpa using e1,e2⟩
theorem pad_four:∀(rs:List Nat),rs.length≤4→∃c:Nat×Nat×Nat×Nat,(∀(i r:Nat),rs[i]?=some r→[c.1,c.2.1,c.2.2.1,c.2.2.2][i]?=some r)∧∀(i r:Nat),rs.length≤i→[c.1,c.2.1,c.2.2.1,c.2.2.2][i]?=some r→r=0
 | [],_=>⟨(0,0,0,0),fun i r h=>by simp at h,fun i r _ h=>by
   match i with
   | 0 | 1 | 2 | 3=>simpa using h.symm
   | _+4=>simp at h⟩
 | [a],_=>⟨(a,0,0,0),fun i r h=>by
   match i with
   | 0=>simpa using h
   | _+1=>simp at h,fun i r h0 h=>by
   match i with
   | 0=>simp at h0
   | 1 | 2 | 3=>simpa using h.symm
   | _+4=>simp at h⟩
 | [a,b],_=>⟨(a,b,0,0),fun i r h=>by
   match i with
   | 0 | 1=>simpa using h
   | _+2=>simp at h,fun i r h0 h=>by
   match i with
   | 0 | 1=>simp at h0
   | 2 | 3=>simpa using h.symm
   | _+4=>simp at h⟩
 | [a,b,c],_=>⟨(a,b,c,0),fun i r h=>by
   match i with
   | 0 | 1 | 2=>simpa using h
   | _+3=>simp at h,fun i r h0 h=>by
   match i with
   | 0 | 1 | 2=>simp at h0
   | 3=>simpa using h.symm
   | _+4=>simp at h⟩
 | [a,b,c,d],_=>⟨(a,b,c,d),fun i r h=>h,fun i r h0 h=>by
   match i with
   | 0 | 1 | 2 | 3=>simp at h0
   | _+4=>simp at h⟩
 | _::_::_::_::_::_,h=>by simp at h
theorem Inv.climb{f:Fo}(hf:f.Good){most:Nat}{s:Lst}{done:List Cand}(h:Inv f most s done [] []){z:Cand}{p:NPack}{ts:List Tree}(hz:packAt f z=some p)(hzt:pick s.lists p.kids z.ranks=some ts)
  (hz0:∀(i r:Nat),p.kids.length≤i→z.ranks[i]?=some r→r=0) (hv:NT f z.node (.mk p.rule 0 ts)) (hk4:p.kids.length≤4) :
  ∀(D:Nat) (c:Cand),c∈s.seen→c.node=z.node→c.pack=z.pack→c.r0≤z.r0→c.r1≤z.r1→c.r2≤z.r2→c.r3≤z.r3→z.r0+z.r1+z.r2+z.r3-(c.r0+c.r1+c.r2+c.r3)≤D→Behind s most z.node (.mk p.rule 0 ts):=by
 intro D
 induction D with
 | zero=>
  intro c hc hn hp h0 h1 h2 h3 hD;obtain rfl:c=z:=by
   cases c;cases z;simp only at hn hp h0 h1 h2 h3 hD;simp only[Cand.mk.injEq];exact⟨hn,hp,by omega,by omega,by omega,by omega⟩
  have hct:=candTree_of hz hzt;rcases h.cover c hc with hx | hx | hx | ⟨w,hx⟩
  ·rcases h.next c hx with hy | hy | ⟨⟨T,hy,hy2⟩,_⟩
   ·cases hy
   ·by_cases hm:Tree.mk p.rule 0 ts∈s.lists c.node
    ·exact .inl hm
    ·exact .inr (.inr ⟨hy,h.full _ (h.ok c hc).nl hy _ hv hm⟩)
   ·rw[hct] at hy2;cases hy2;exact .inl hy
  ·cases hx
  ·obtain⟨y,hy,rfl⟩:=List.mem_map.1 hx;have:=(h.qok y hy).2;rw[hct] at this;exact .inr (.inl ⟨y,hy,by rw[←Option.some.inj this];exact wle_refl _⟩)
  ·obtain⟨_,p',hp',hm⟩:=h.wok w c hx;rw[hz] at hp';cases hp';obtain⟨i,e1,e2,e3⟩:=miss_some (k:=w.1) (r:=w.2) hm;obtain⟨r,t,g1,g2,_⟩:=(pick_some hzt).2 i _ e1;rw[e2] at g1;cases g1;rw[e3] at g2;cases g2
 | succ D ih=>
  intro c hc hn hp h0 h1 h2 h3 hD;have hpc:packAt f c=some p:=by unfold packAt at hz ⊢;rw[hn,hp];exact hz
  by_cases e:c=z
  ·exact ih c hc hn hp h0 h1 h2 h3 (by subst e;omega)
  have hle:∀(i a b:Nat),c.ranks[i]?=some a→z.ranks[i]?=some b→a≤b:=fun i a b ha hb=>by
   match i with
   | 0 | 1 | 2 | 3=>simp[Cand.ranks] at ha hb;omega
   | _+4=>simp[Cand.ranks] at ha
  rcases h.cover c hc with hx | hx | hx | ⟨w,hx⟩
  ·rcases h.next c hx with hy | hy | ⟨_,hy⟩
   ·cases hy
   ·rw[hn] at hy;by_cases hm:Tree.mk p.rule 0 ts∈s.lists z.node
    ·exact .inl hm
    ·exact .inr (.inr ⟨hy,h.full _ (hn▸(h.ok c hc).nl) hy _ hv hm⟩)
   ·have hy:=hy p hpc;have lt:∀(i a b:Nat),c.ranks[i]?=some a→z.ranks[i]?=some b→a<b→i<p.kids.length:=fun i a b ha hb hab=>by
     rcases Nat.lt_or_ge i p.kids.length with h5 | h5
     ·exact h5
     ·have:=hz0 i b h5 hb;omega
    by_cases g0:c.r0<z.r0
    ·have hi:=hy 0 (lt 0 _ _ rfl rfl g0);exact ih (c.inc 0) hi hn hp g0 h1 h2 h3 (by show _-(c.r0+1+c.r1+c.r2+c.r3)≤D;omega)
    by_cases g1:c.r1<z.r1
    ·have hi:=hy 1 (lt 1 _ _ rfl rfl g1);exact ih (c.inc 1) hi hn hp h0 g1 h2 h3 (by show _-(c.r0+(c.r1+1)+c.r2+c.r3)≤D;omega)
    by_cases g2:c.r2<z.r2
    ·have hi:=hy 2 (lt 2 _ _ rfl rfl g2);exact ih (c.inc 2) hi hn hp h0 h1 g2 h3 (by show _-(c.r0+c.r1+(c.r2+1)+c.r3)≤D;omega)
    by_cases g3:c.r3<z.r3
    ·have hi:=hy 3 (lt 3 _ _ rfl rfl g3);exact ih (c.inc 3) hi hn hp h0 h1 h2 g3 (by show _-(c.r0+c.r1+c.r2+(c.r3+1))≤D;omega)
    exfalso;apply e;cases c;cases z;simp only at hn hp h0 h1 h2 h3 g0 g1 g2 g3;simp only[Cand.mk.injEq];exact⟨hn,hp,by omega,by omega,by omega,by omega⟩
  ·cases hx
  ·obtain⟨y,hy,rfl⟩:=List.mem_map.1 hx;obtain⟨q,us,e1,e2,e3⟩:=candTree_some (h.qok y hy).2;rw[hpc] at e1;cases e1;refine .inr (.inl ⟨y,hy,?_⟩);rw[e3];refine wle_cons _ (preL_le (allLe_of (by rw[(pick_some e2).1,(pick_some hzt).1]) fun i a b ha hb=>?_));have hi:=(gS ha).1;rw[(pick_some e2).1] at hi;obtain⟨k,hk⟩:∃k,p.kids[i]?=some k:=⟨_,gE hi⟩;obtain⟨r,t,a1,a2,a3⟩:=(pick_some e2).2 i k hk;obtain⟨r',t',b1,b2,b3⟩:=(pick_some hzt).2 i k hk;rw[ha] at a3;cases a3;rw[hb] at b3;cases b3;exact sorted_le (h.sorted k) (hle i _ _ a1 b1) a2 b2
  ·obtain⟨_,p',hp',hm⟩:=h.wok w c hx;rw[hpc] at hp';cases hp';obtain⟨i,e1,e2,e3⟩:=miss_some (k:=w.1) (r:=w.2) hm;obtain⟨r,t,g1,g2,_⟩:=(pick_some hzt).2 i _ e1;have:=hle i _ _ e2 g1;have h5:=(gS g2).1;rw[gE (show w.2<_ by omega)] at e3;cases e3
theorem set_inj{α:Type}{l:List α}{i:Nat}{a b:α}(h:i<l.length)(e:l.set i a=l.set i b):a=b:=by
 have h1:=congrArg (fun m=>m[i]?) e;simpa [h] using h1
theorem Inv.behindN{f:Fo}(hf:f.Good){most:Nat}{s:Lst}{done:List Cand}(h:Inv f most s done [] [])(hb:BaseIn f s):∀(N v:Nat) (p:NPack) (ts:List Tree),v<f.n→f.leaf v=none→p∈f.packs v→NTs f p.kids ts→
  (Tree.mk p.rule 0 ts).pre.length*5+unL s.lists p.kids ts<N→Behind s most v (.mk p.rule 0 ts):=by
 intro N
 induction N with
 | zero=>intro v p ts _ _ _ _ hN;omega
 | succ N ih=>
  intro v p ts hv hl hp hts hN;have hk4:=(hf.kids v hv p hp).1;have hlen:=hts.len;have hval:NT f v (.mk p.rule 0 ts):=.node hv hl hp hts;by_cases hall:∀(i k:Nat) (t:Tree),p.kids[i]?=some k→ts[i]?=some t→t∈s.lists k
  ·obtain⟨rs,h1,h2⟩:=ranks_ex hlen hall;obtain⟨⟨a0,a1,a2,a3⟩,h3,h4⟩:=pad_four rs zo;obtain⟨j,hj⟩:=List.mem_iff_getElem?.1 hp;have hjl:=(gS hj).1;have hpk:pick s.lists p.kids [a0,a1,a2,a3]=some ts:=pick_of hlen fun i k hk=>by
    have hi:=(gS hk).1;obtain⟨t,ht⟩:∃t,ts[i]?=some t:=⟨_,gE zo⟩;obtain⟨r,e1,e2⟩:=h2 i k t hk ht;exact⟨r,t,h3 i r e1,e2,ht⟩
   exact h.climb hf (z:=⟨v,j,a0,a1,a2,a3⟩) hj hpk (fun i r hi hr=>h4 i r zo hr) hval hk4 _ ⟨v,j,0,0,0,0⟩ (hb v hv hl j hjl) rfl rfl (Nat.zero_le _) (Nat.zero_le _) (Nat.zero_le _) (Nat.zero_le _) (Nat.le_refl _)
  ·have ⟨i,hall⟩:=Classical.not_forall.1 hall;have ⟨k,hall⟩:=Classical.not_forall.1 hall;have ⟨t,hall⟩:=Classical.not_forall.1 hall;have ⟨hk,hall⟩:=Classical.not_imp.1 hall;have ⟨ht,hnl⟩:=Classical.not_imp.1 hall;have hkt:=hts.at_ hk ht;have htm:=gM ht;have hlt:=kid_lt (r:=p.rule) (t:=0) htm;have hu:=unL_le s.lists p.kids ts;have hB:Behind s most k t:=by
    cases hkt with
    | leaf h5 h6=>exact .inl (by rw[h.leafs k _ h5 h6];exact List.mem_cons_self ..)
    | @node _ q us h5 h6 h7 h8=>
     refine ih k q us h5 h6 h7 h8 ?_;have h9:=unL_le s.lists q.kids us;have h10:=(hf.kids k h5 q h7).1;have h11:(Tree.mk (q.rule:Int) 0 us).pre.length<(Tree.mk (p.rule:Int) 0 ts).pre.length:=by
      show _<(_::preL ts).length;have:=preL_mem htm;simp only[List.length_cons];omega
     omega
   rcases hB with hB | ⟨y,hy,hB⟩ | ⟨hB1,hB2⟩
   ·exact absurd hB hnl
   ·exact .inr (.inl ⟨y,hy,.inl (wle_wlt hB hlt)⟩)
   ·have hil:i<ts.length:=(gS ht).1;have small:∀x∈s.lists k,tlt (.mk p.rule 0 (ts.set i x)) (.mk p.rule 0 ts):=fun x hx=>wlt_cons _ (preL_set ht (hB2 x hx));have each:∀x∈s.lists k,Behind s most v (.mk p.rule 0 (ts.set i x)):=fun x hx=>by
     refine ih v p (ts.set i x) hv hl hp (hts.set hk (h.valid k x hx)) ?_;have h1:=unL_set (L:=s.lists) hk ht hnl hx;have h2:=wle_len (.inl (small x hx));omega
    by_cases hq:∃y∈s.q,tle y.2 (.mk p.rule 0 ts)
    ·exact .inr (.inl hq)
    by_cases hfull:(s.lists v).length=most∧∀z∈s.lists v,tlt z (.mk p.rule 0 ts)
    ·exact .inr (.inr hfull)
    have inl:∀x∈s.lists k,Tree.mk p.rule 0 (ts.set i x)∈s.lists v:=fun x hx=>by
     rcases each x hx with h1 | ⟨y,hy,h1⟩ | ⟨h1,h2⟩
     ·exact h1
     ·exact absurd ⟨y,hy,.inl (wle_wlt h1 (small x hx))⟩ hq
     ·exact absurd ⟨h1,fun z hz=>wlt_trans (h2 z hz) (small x hx)⟩ hfull
    exfalso;apply hfull
    classical
    have hnd:((s.lists k).map fun x=>Tree.mk p.rule 0 (ts.set i x)).Nodup:=by
     rw[List.nodup_iff_pairwise_ne,List.pairwise_map];refine(List.nodup_iff_pairwise_ne.1 (tlt_nodup (h.sorted k))).imp fun hne e=>hne ?_;injection e with _ _ e;exact set_inj hil e
    have hsub:∀z∈(s.lists k).map (fun x=>Tree.mk p.rule 0 (ts.set i x)),z∈s.lists v:=fun z hz=>by
     obtain⟨x,hx,rfl⟩:=List.mem_map.1 hz;exact inl x hx
    have hl1:=sub_len _ _ hnd hsub;have hl2:=h.len v;rw[List.length_map] at hl1;refine⟨by omega,fun z hz=>?_⟩;have:=sub_all _ _ hnd hsub (by rw[List.length_map];omega) z hz;obtain⟨x,hx,rfl⟩:=List.mem_map.1 this;exact small x hx
theorem Inv.behind{f:Fo}(hf:f.Good){most:Nat}{s:Lst}{done:List Cand}(h:Inv f most s done [] [])(hb:BaseIn f s){v:Nat}{T:Tree}(hT:NT f v T):Behind s most v T:=by
 cases hT with
 | leaf h5 h6=>exact .inl (by rw[h.leafs v _ h5 h6];exact List.mem_cons_self ..)
 | node h5 h6 h7 h8=>exact h.behindN hf hb _ _ _ _ h5 h6 h7 h8 (Nat.lt_succ_self _)
def updL(L:Nat→List Tree)(v:Nat)(T:Tree):Nat→List Tree:=fun x=>if x=v then L v++[T] else L x
theorem updL_grew(L:Nat→List Tree)(v:Nat)(T:Tree):Grew L (updL L v T):=fun x=>by
 unfold updL;by_cases e:x=v
 ·subst e;exact⟨[T],by rw[if_pos rfl]⟩
 ·exact⟨[],by rw[if_neg e,List.append_nil]⟩
theorem updL_same(L:Nat→List Tree)(v:Nat)(T:Tree):updL L v T v=L v++[T]:=if_pos rfl
theorem updL_ne(L:Nat→List Tree){v x:Nat}(T:Tree)(h:x≠v):updL L v T x=L x:=if_neg h
theorem updL_mem{L:Nat→List Tree}{v x:Nat}{T t:Tree}(h:t∈updL L v T x):t∈L x∨(x=v∧t=T):=by
 unfold updL at h;split at h
 ·rename_i e;subst e;rcases List.mem_append.1 h with h | h
  ·exact .inl h
  ·exact .inr ⟨rfl,List.mem_singleton.1 h⟩
 ·exact .inl h
theorem Inv.drop{f:Fo}{most:Nat}{s:Lst}{q:List (Cand×Tree)}{done:List Cand}{c:Cand}{T:Tree}(h:Inv f most { s with q:=(c,T)::q } done [] [])(hfull:(s.lists c.node).length=most):Inv f most { s with q:=q } (c::done) [] []:=by
 have hc:=h.qok (c,T) me;obtain⟨hcq,hqn⟩:=List.nodup_cons.1 (show (c::q.map (·.1)).Nodup from h.qnd);have hcd:c∉done:=fun hd=>(h.dq c hd).1 me;exact
 {ok:=h.ok
  snd:=h.snd
  dsub:=fun d hd=>by
   rcases List.mem_cons.1 hd with rfl | hd
   ·exact hc.1
   ·exact h.dsub d hd
  psub:=h.psub
  dnd:=List.nodup_cons.2 ⟨hcd,h.dnd⟩
  pnd:=h.pnd
  qnd:=hqn
  wnd:=h.wnd
  dq:=fun d hd=>by
   rcases List.mem_cons.1 hd with rfl | hd
   ·exact⟨hcq,by simp,h.qw d me⟩
   ·exact⟨fun hx=>(h.dq d hd).1 (List.mem_cons_of_mem _ hx),(h.dq d hd).2⟩
  pq:=fun d hd=>by cases hd
  qw:=fun d hd=>h.qw d (List.mem_cons_of_mem _ hd)
  qok:=fun x hx=>h.qok x (List.mem_cons_of_mem _ hx)
  wok:=h.wok
  cover:=fun d hd=>by
   rcases h.cover d hd with hx | hx | hx | hx
   ·exact .inl (List.mem_cons_of_mem _ hx)
   ·cases hx
   ·rcases List.mem_cons.1 (show d∈c::q.map (·.1) from hx) with rfl | hx
    ·exact .inl me
    ·exact .inr (.inr (.inl hx))
   ·exact .inr (.inr (.inr hx))
  next:=fun d hd=>by
   rcases List.mem_cons.1 hd with rfl | hd
   ·exact .inr (.inl hfull)
   ·exact h.next d hd
  leafs:=h.leafs
  from_:=fun v hv T hT=>by
   obtain⟨d,h1,h2⟩:=h.from_ v hv T hT;exact⟨d,List.mem_cons_of_mem _ h1,h2⟩
  len:=h.len
  sorted:=h.sorted
  ord:=fun v hv x hx y hy=>h.ord v hv x hx y (List.mem_cons_of_mem _ hy)
  valid:=h.valid
  full:=h.full
  small:=h.small }
def tookS(s:Lst)(c:Cand)(T:Tree)(q:List (Cand×Tree)):Lst:=
 ⟨updL s.lists c.node T,s.seen,fun w=>if w=(c.node,(s.lists c.node).length) then [] else s.waits w,q⟩
theorem miss_pick{L L':Nat→List Tree}{ks rs:List Nat}{k r:Nat}{ts:List Tree}{t:Tree}(hm:miss L ks rs=some (k,r))(hp:pick L' ks rs=some ts)(ht:(L' k)[r]?=some t):t∈ts:=by
 obtain⟨i,h1,h2,_⟩:=miss_some hm;obtain⟨r',t',e1,e2,e3⟩:=(pick_some hp).2 i k h1;rw[h2] at e1;cases e1;rw[ht] at e2;cases e2;exact gM e3
structure Took(f:Fo)(most:Nat)(s:Lst)(done:List Cand)(c:Cand)(T:Tree)(q:List (Cand×Tree)):Prop where
 inv:Inv f most (tookS s c T q) (c::done) (s.waits (c.node,(s.lists c.node).length)) [c]
 top:∀v,f.leaf v=none→∀x∈(tookS s c T q).lists v,tle x T
 wait:∀d∈s.waits (c.node,(s.lists c.node).length),∀U,candTree f (tookS s c T q).lists d=some U→tlt T U
 inc:∀p,packAt f c=some p→∀i,i<p.kids.length→CandOk f most (c.inc i)∧∀U,candTree f (tookS s c T q).lists (c.inc i)=some U→tlt T U
 mine:T∈(tookS s c T q).lists c.node∧candTree f (tookS s c T q).lists c=some T
theorem Inv.take{f:Fo}(hf:f.Good){most:Nat}{s:Lst}{q:List (Cand×Tree)}{done:List Cand}{c:Cand}{T:Tree}(h:Inv f most { s with q:=(c,T)::q } done [] [])(hb:BaseIn f s)(hmin:∀y∈q,tle T y.2)(hn:(s.lists c.node).length<most)(hsm:T.pre.length≤5000):Took f most s done c T q:=by
 obtain⟨hcs,hct⟩:=h.qok (c,T) me;have hcs:c∈s.seen:=hcs;have hct:candTree f s.lists c=some T:=hct;have hok:=h.ok c hcs;obtain⟨hcq,hqn⟩:=List.nodup_cons.1 (show (c::q.map (·.1)).Nodup from h.qnd);have hcd:c∉done:=fun hd=>(h.dq c hd).1 me;have hg:=updL_grew s.lists c.node T;have hval:∀v,∀t∈s.lists v,NT f v t:=h.valid;have hsort:∀v,(s.lists v).Pairwise tlt:=h.sorted;have hT:NT f c.node T:=cand_valid hval hok hct;have hleT:∀v,f.leaf v=none→∀x∈s.lists v,tle x T:=fun v hv x hx=>h.ord v hv x hx (c,T) me;have hnew:∀x∈s.lists c.node,tlt x T:=fun x hx=>by
  rcases hleT c.node hok.nl x hx with h1 | h1
  ·exact h1
  ·exfalso;have e:=hf.dec c.node x T (hval _ x hx) hT h1;subst e;obtain⟨d,h2,h3,h4⟩:=h.from_ c.node hok.nl x hx;have:=cand_inj hf hval hsort (h.ok d (h.dsub d h2)) hok h3 h4 hct;subst this;exact hcd h2
 have hTn:T∉s.lists c.node:=fun hx=>wlt_irrefl _ (hnew T hx);have hval':∀v,∀t∈updL s.lists c.node T v,NT f v t:=fun v t ht=>by
  rcases updL_mem ht with ht | ⟨rfl,rfl⟩
  ·exact hval v t ht
  ·exact hT
 have htop:∀v,f.leaf v=none→∀x∈updL s.lists c.node T v,tle x T:=fun v hv x hx=>by
  rcases updL_mem hx with hx | ⟨_,rfl⟩
  ·exact hleT v hv x hx
  ·exact wle_refl _
 have hsort':∀v,(updL s.lists c.node T v).Pairwise tlt:=fun v=>by
  unfold updL;split
  ·rw[List.pairwise_append];refine⟨hsort _,by simp,fun a ha b hb=>?_⟩;rw[List.mem_singleton.1 hb];exact hnew a ha
  ·exact hsort v
 have hlast:(updL s.lists c.node T c.node)[(s.lists c.node).length]?=some T:=by
  rw[updL_same,List.getElem?_append_right (Nat.le_refl _),Nat.sub_self];rfl
 have hbase:BaseIn f { s with q:=(c,T)::q }:=hb;have hct':=candTree_grew hg hct;have wsub:∀w,∀d∈(if w=(c.node,(s.lists c.node).length) then [] else s.waits w),d∈s.waits w:=fun w d hd=>by
  split at hd
  ·cases hd
  ·exact hd
 refine⟨?_,htop,fun d hd U hU=>?_,fun p hp i hi=>?_,?_,hct'⟩
 ·exact
  {ok:=h.ok
   snd:=h.snd
   dsub:=fun d hd=>by
    rcases List.mem_cons.1 hd with rfl | hd
    ·exact hcs
    ·exact h.dsub d hd
   psub:=fun d hd=>(h.wok _ d hd).1
   dnd:=List.nodup_cons.2 ⟨hcd,h.dnd⟩
   pnd:=h.wnd _
   qnd:=hqn
   wnd:=fun w=>by
    show (if w=(c.node,(s.lists c.node).length) then [] else s.waits w).Nodup;split
    ·exact List.nodup_nil
    ·exact h.wnd w
   dq:=fun d hd=>by
    rcases List.mem_cons.1 hd with rfl | hd
    ·exact⟨hcq,h.qw d me _,fun w hw=>h.qw d me w (wsub w d hw)⟩
    ·exact⟨fun hx=>(h.dq d hd).1 (List.mem_cons_of_mem _ hx),(h.dq d hd).2.2 _,fun w hw=>(h.dq d hd).2.2 w (wsub w d hw)⟩
   pq:=fun d hd=>⟨fun hx=>h.qw d (List.mem_cons_of_mem _ hx) _ hd,fun w hw=>by
    have h1:=wsub w d hw;obtain⟨_,p,hp,hm⟩:=h.wok w d h1;obtain⟨_,p',hp',hm'⟩:=h.wok _ d hd;rw[hp] at hp';cases hp';have e:w=(c.node,(s.lists c.node).length):=Option.some.inj (hm.symm.trans hm');have hw:d∈(if w=(c.node,(s.lists c.node).length) then [] else s.waits w):=hw;rw[if_pos e] at hw;cases hw⟩
   qw:=fun d hd w hw=>h.qw d (List.mem_cons_of_mem _ hd) w (wsub w d hw)
   qok:=fun x hx=>⟨(h.qok x (List.mem_cons_of_mem _ hx)).1,candTree_grew hg (h.qok x (List.mem_cons_of_mem _ hx)).2⟩
   wok:=fun w d hd=>by
    have h1:=wsub w d hd;have hd:d∈(if w=(c.node,(s.lists c.node).length) then [] else s.waits w):=hd;have hne:w≠(c.node,(s.lists c.node).length):=fun e=>by rw[if_pos e] at hd;cases hd
    obtain⟨h2,p,hp,hm⟩:=h.wok w d h1;refine⟨h2,p,hp,miss_grew hg hm ?_⟩;obtain⟨i,_,_,h3⟩:=miss_some (k:=w.1) (r:=w.2) hm;have h3:(s.lists w.1)[w.2]?=none:=h3;by_cases e:w.1=c.node
    ·rw[e] at h3;rw[e,updL_same];rw[List.getElem?_eq_none_iff] at h3 ⊢;rw[List.length_append,List.length_singleton];have:w.2≠(s.lists c.node).length:=fun e2=>hne (Prod.ext e e2);omega
    ·rw[updL_ne _ _ e];exact h3
   cover:=fun d hd=>by
    rcases h.cover d hd with hx | hx | hx | ⟨w,hx⟩
    ·exact .inl (List.mem_cons_of_mem _ hx)
    ·cases hx
    ·rcases List.mem_cons.1 (show d∈c::q.map (·.1) from hx) with rfl | hx
     ·exact .inl me
     ·exact .inr (.inr (.inl hx))
    ·by_cases e:w=(c.node,(s.lists c.node).length)
     ·subst e;exact .inr (.inl hx)
     ·exact .inr (.inr (.inr ⟨w,by show d∈(if w=(c.node,(s.lists c.node).length) then [] else s.waits w);rw[if_neg e];exact hx⟩))
   next:=fun d hd=>by
    rcases List.mem_cons.1 hd with rfl | hd
    ·exact .inl me
    ·rcases h.next d hd with hx | hx | ⟨⟨U,h1,h2⟩,h3⟩
     ·cases hx
     ·have hx:(s.lists d.node).length=most:=hx;refine .inr (.inl ?_);show (updL s.lists c.node T d.node).length=most;rw[updL_ne _ _ (fun e=>by rw[e] at hx;omega)];exact hx
     ·refine .inr (.inr ⟨⟨U,?_,candTree_grew hg h2⟩,h3⟩);obtain⟨x,hx⟩:=hg d.node;show U∈updL s.lists c.node T d.node;rw[hx];exact List.mem_append_left _ h1
   leafs:=fun v t hv ht=>by
    show updL s.lists c.node T v=_;rw[updL_ne _ _ (fun e=>by rw[e,hok.nl] at ht;cases ht)];exact h.leafs v t hv ht
   from_:=fun v hv U hU=>by
    rcases updL_mem hU with hU | ⟨rfl,rfl⟩
    ·obtain⟨d,h1,h2,h3⟩:=h.from_ v hv U hU;exact⟨d,List.mem_cons_of_mem _ h1,h2,candTree_grew hg h3⟩
    ·exact⟨c,List.mem_cons_self ..,rfl,hct'⟩
   len:=fun v=>by
    show (updL s.lists c.node T v).length≤most;unfold updL;split
    ·rw[List.length_append,List.length_singleton];omega
    ·exact h.len v
   sorted:=hsort'
   ord:=fun v hv x hx y hy=>wle_trans (htop v hv x hx) (hmin y hy)
   valid:=hval'
   full:=fun v hv hl U hU hUn x hx=>by
    by_cases e:v=c.node
    ·subst e;have hUn:U∉updL s.lists c.node T c.node:=hUn;rw[updL_same] at hUn;have hU1:U∉s.lists c.node:=fun h1=>hUn (List.mem_append_left _ h1);have hU2:U≠T:=fun h1=>hUn (by rw[h1];simp);have hTU:tlt T U:=by
      have key:tle T U:=by
       rcases h.behind hf hbase hU with h1 | ⟨y,hy,h1⟩ | ⟨h1,_⟩
       ·exact absurd h1 hU1
       ·rcases List.mem_cons.1 hy with rfl | hy
        ·exact h1
        ·exact wle_trans (hmin y hy) h1
       ·have h1:(s.lists c.node).length=most:=h1;omega
      rcases key with h1 | h1
      ·exact h1
      ·exact absurd (hf.dec c.node T U hT hU h1).symm hU2
     rcases updL_mem hx with hx | ⟨_,rfl⟩
     ·exact wlt_trans (hnew x hx) hTU
     ·exact hTU
    ·have hl:(updL s.lists c.node T v).length=most:=hl;have hUn:U∉updL s.lists c.node T v:=hUn;have hx:x∈updL s.lists c.node T v:=hx;rw[updL_ne _ _ e] at hl hUn hx;exact h.full v hv hl U hU hUn x hx
   small:=fun v U hU=>by
    rcases updL_mem hU with hU | ⟨rfl,rfl⟩
    ·exact h.small v U hU
    ·exact hsm }
 ·obtain⟨_,p,hp,hm⟩:=h.wok _ d hd;obtain⟨p',ts,e1,e2,rfl⟩:=candTree_some hU;rw[hp] at e1;cases e1;exact kid_lt (miss_pick hm e2 hlast)
 ·obtain⟨p',ts,e1,e2,e3⟩:=candTree_some hct';rw[hp] at e1;cases e1;obtain⟨k,hk⟩:∃k,p.kids[i]?=some k:=⟨_,gE hi⟩;obtain⟨r,t,a1,a2,a3⟩:=(pick_some e2).2 i k hk;have hir:=c.inc_ranks a1;have hnp:=c.inc_node i;have hpa:packAt f (c.inc i)=some p:=by unfold packAt at hp ⊢;rw[hnp.1,hnp.2];exact hp
  have hlen4:i<c.ranks.length:=(gS a1).1;refine⟨⟨by rw[hnp.1];exact hok.node,by rw[hnp.1];exact hok.nl,⟨p,hpa⟩,fun x hx=>?_,fun p2 hp2 j x hj hx=>?_⟩,fun U hU=>?_⟩
  ·rw[hir] at hx;rcases List.mem_or_eq_of_mem_set hx with hx | rfl
   ·exact hok.rank x hx
   ·obtain⟨p3,ts3,g1,g2,_⟩:=candTree_some hct;rw[hp] at g1;cases g1;obtain⟨r3,t3,b1,b2,_⟩:=(pick_some g2).2 i k hk;rw[a1] at b1;cases b1;have h1:=(gS b2).1;have h2:(s.lists k).length≤most:=h.len k;omega
  ·rw[hpa] at hp2;cases hp2;rw[hir,List.getElem?_set_ne zo] at hx;exact hok.zero p hp j x hj hx
  ·obtain⟨p3,us,g1,g2,rfl⟩:=candTree_some hU;rw[hpa] at g1;cases g1;rw[hir] at g2;have h1:=pick_some g2;have h2:=pick_some e2;obtain⟨r',u,b1,b2,b3⟩:=h1.2 i k hk;rw[List.getElem?_set_self hlen4] at b1;obtain rfl:=Option.some.inj b1;have e:us=ts.set i u:=by
    refine List.ext_getElem? fun j=>?_;by_cases hij:i=j
    ·subst hij;rw[b3,List.getElem?_set_self (by rw[h2.1];exact hi)]
    ·rw[List.getElem?_set_ne hij];by_cases hj:j<p.kids.length
     ·obtain⟨k2,hk2⟩:∃k,p.kids[j]?=some k:=⟨_,gE hj⟩;obtain⟨r1,t1,c1,c2,c3⟩:=h1.2 j k2 hk2;obtain⟨r2,t2,d1,d2,d3⟩:=h2.2 j k2 hk2;rw[List.getElem?_set_ne hij,d1] at c1;cases c1;have c2:(updL s.lists c.node T k2)[r1]?=some t1:=c2;rw[d2] at c2;cases c2;rw[c3,d3]
     ·rw[List.getElem?_eq_none (by rw[h1.1];omega),List.getElem?_eq_none (by rw[h2.1];omega)]
   rw[e3,e];refine wlt_cons _ (preL_set' a3 ?_);have hs:=hsort' k;obtain⟨q1,rfl⟩:=gS a2;obtain⟨q2,rfl⟩:=gS b2;exact List.pairwise_iff_getElem.1 hs _ _ q1 q2 (Nat.lt_succ_self _)
 ·show T∈updL s.lists c.node T c.node;rw[updL_same];simp
structure Firsts(f:Fo)(v most:Nat)(l:List Tree):Prop where
 sorted:l.Pairwise tlt
 valid:∀T∈l,NT f v T
 len:l.length≤most
 small:∀T∈l,T.pre.length≤5000
 rest:∀T,NT f v T→T∉l→(∀x∈l,tlt x T)∧(l.length=most∨5000<T.pre.length)
def tPtr:Ty Nat where
 size:=1
 rel:=fun _ l p=>l=[.pointer (some ⟨p,0,none⟩)]
 len:=fun _ _ _ h=>by rw[h];rfl
 one:=fun _ _ _ h=>by rw[h];rfl
 mono:=fun _ _ _ _ _ h=>h
mutual
inductive Sh(F:Frz):Nat→Tree→Prop
 | mk {p:Nat} {r:Int} {t:Nat} {ks:List Tree} {a:Option Addr} {n c:Nat} {ps:List Nat}:F p=some (.cells false [.int .i64 r,.int .i64 t,.int .i64 ((Tree.mk r t ks).pre.length:Nat),.slice a n c])→Arr tPtr F a n c ps→ShL F ps ks→Sh F p (.mk r t ks)
inductive ShL(F:Frz):List Nat→List Tree→Prop
 | nil:ShL F [] []
 | cons {p:Nat} {t:Tree} {ps:List Nat} {ts:List Tree}:Sh F p t→ShL F ps ts→ShL F (p::ps) (t::ts)
end
mutual
theorem Sh.mono{F G:Frz}(hF:Frz.le F G):∀{t:Tree} {p:Nat},Sh F p t→Sh G p t
 | .mk _ _ ks,_,.mk h1 h2 h3=>.mk (hF _ _ h1) (h2.mono hF) (ShL.mono hF h3)
theorem ShL.mono{F G:Frz}(hF:Frz.le F G):∀{ts:List Tree} {ps:List Nat},ShL F ps ts→ShL G ps ts
 | [],_,.nil=>.nil
 | _::_,_,.cons h1 h2=>.cons (Sh.mono hF h1) (ShL.mono hF h2)
end
theorem arr_ptr_uniq{F:Frz}{a:Option Addr}{n c:Nat}{ps qs:List Nat}(h:Arr tPtr F a n c ps)(h2:Arr tPtr F a n c qs):ps=qs:=by
 refine List.ext_getElem (by rw[←h.len,←h2.len]) fun i hi hj=>?_;obtain⟨b,off,ro,cs,l,e1,e2,e3,e4⟩:=h.el i _ (gE hi);obtain⟨b',off',ro',cs',l',g1,g2,g3,g4⟩:=h2.el i _ (gE hj);rw[e1] at g1;cases g1;rw[e2] at g2;cases g2;rw[e3] at g3;cases g3;have e4:l=_:=e4;rw[e4] at g4;have g4:[Value.pointer (some ⟨ps[i],0,none⟩)]=[Value.pointer (some ⟨qs[i],0,none⟩)]:=g4;simpa using g4
mutual
theorem Sh.uniq{F:Frz}:∀{t u:Tree} {p:Nat},Sh F p t→Sh F p u→t=u
 | .mk _ _ ks,.mk _ _ ls,_,.mk h1 h2 h3,.mk g1 g2 g3=>by
  rw[h1] at g1;simp only[Option.some.injEq,Blk.cells.injEq,true_and,List.cons.injEq,Value.int.injEq,Value.slice.injEq,and_true] at g1;obtain⟨rfl,e2,_,rfl,rfl,rfl⟩:=g1;obtain rfl:=Int.ofNat_inj.1 e2;obtain rfl:=arr_ptr_uniq h2 g2;rw[ShL.uniq h3 g3]
theorem ShL.uniq{F:Frz}:∀{ts us:List Tree} {ps:List Nat},ShL F ps ts→ShL F ps us→ts=us
 | [],[],_,_,_=>rfl
 | [],_::_,_,.nil,h=>by cases h
 | _::_,[],_,.cons _ _,h=>by cases h
 | _::_,_::_,_,.cons h1 h2,.cons g1 g2=>by rw[Sh.uniq h1 g1,ShL.uniq h2 g2]
end
structure CmS where
 i:Nat
 v:Int
 a:Option Addr
 n:Nat
 c:Nat
 B:List (Nat×Blk)
 ps:List Nat
structure CoS2 where
 xa:Option Addr
 xn:Nat
 xc:Nat
 XB:List (Nat×Blk)
 xs:List Nat
 X:List Tree
 ya:Option Addr
 yn:Nat
 yc:Nat
 YB:List (Nat×Blk)
 ys:List Nat
 Y:List Tree
def keyAt(Q:List (Cand×Tree))(i:Nat):List Int:=match Q[i]? with
 | some x=>x.2.pre
 | none=>[]
def HeapN(Q:List (Cand×Tree))(n:Nat):Prop:=∀i,0<i→i<n→wle (keyAt Q ((i-1) / 2)) (keyAt Q i)
structure UpOk(Q:List (Cand×Tree))(j:Nat):Prop where
 one:∀k,0<k→k<Q.length→k≠j→wle (keyAt Q ((k-1) / 2)) (keyAt Q k)
 two:∀k,0<k→k<Q.length→(k-1) / 2=j→0<j→wle (keyAt Q ((j-1) / 2)) (keyAt Q k)
structure DownOk(Q:List (Cand×Tree))(j n:Nat):Prop where
 one:∀k,0<k→k<n→(k-1) / 2≠j→wle (keyAt Q ((k-1) / 2)) (keyAt Q k)
 two:∀k,0<k→k<n→(k-1) / 2=j→0<j→wle (keyAt Q ((j-1) / 2)) (keyAt Q k)
theorem keyAt_take{Q:List (Cand×Tree)}{n i:Nat}(h:i<n):keyAt (Q.take n) i=keyAt Q i:=by
 unfold keyAt;rw[List.getElem?_take,if_pos h]
theorem HeapN.take{Q:List (Cand×Tree)}{n:Nat}(h:HeapN Q n)(hn:n≤Q.length):HeapN (Q.take n) (Q.take n).length:=fun i h1 h2=>by
 rw[List.length_take] at h2;rw[keyAt_take zo,keyAt_take zo];exact h i h1 zo
def candV(c:Cand)(t:Value):List Value:=[.int .i64 c.node,.int .i64 c.pack,.int .i64 c.r0,.int .i64 c.r1,.int .i64 c.r2,.int .i64 c.r3,t]
def tCQ:Ty (Cand×Tree) where
 size:=7
 rel:=fun F l x=>∃p,l=candV x.1 (.pointer (some ⟨p,0,none⟩))∧Sh F p x.2∧x.2.pre.length≤100000
 len:=fun _ _ _ h=>by obtain⟨p,rfl,_⟩:=h;rfl
 one:=fun _ _ _ h=>by obtain⟨p,rfl,_⟩:=h;rfl
 mono:=fun _ _ _ _ hF h=>by obtain⟨p,e,h,hb⟩:=h;exact⟨p,e,h.mono hF,hb⟩
structure LB where
 li:Nat
 x0:Value
 x1:Value
 x2:Value
 x3:Value
 x4:Value
 x5:Value
 ok:one x0=true∧one x1=true∧one x2=true∧one x3=true∧one x4=true∧one x5=true
structure UpS where
 j:Nat
 B:List (Nat×Blk)
 Q:List (Cand×Tree)
end Go.Proofs.D
set_option linter.unusedVariables false
set_option maxRecDepth 20000
set_option maxHeartbeats 0
open Go Go.Abs Go.Proofs Go.Proofs.D
namespace Go.Abs
def eqElemsT(T:RT)(eq:Value→Value→Option Bool)(e s:Nat)(xs ys:List Value):List Nat→Option Bool
 | []=>some true
 | i::is=>match readT T xs e (i*s),readT T ys e (i*s) with
  | some a,some b=>match eq a b,eqElemsT T eq e s xs ys is with
   | some p,some q=>some (p&&q)
   | _,_=>none
  | _,_=>none
def eqT2(C:Ctx)(T:RT):Nat→TypeId→Value→Value→Option Bool
 | 0,_,_,_=>none
 | n+1,t,x,y=>
  match rowOf T t with
  | some r=>match r.d,x,y with
   | .struct fs,.agg ⟨xs⟩,.agg ⟨ys⟩=>bif C.flat t then eqFieldsT T (eqT2 C T n) fs xs ys else none
   | .array len e,.agg ⟨xs⟩,.agg ⟨ys⟩=>match sizeT T e with
    | some s=>eqElemsT T (eqT2 C T n e) e s xs ys (List.range len)
    | none=>none
   | .int _,.int k a,.int k' b=>if k=k' then some (a==b) else none
   | .pointer _,.pointer none,.pointer none=>some true
   | _,_,_=>none
  | none=>none
def keyElemsT(T:RT)(ok:Value→Bool)(e s:Nat)(xs:List Value):List Nat→Bool
 | []=>true
 | i::is=>(match readT T xs e (i*s) with
  | some a=>ok a
  | none=>false)&&keyElemsT T ok e s xs is
def keyT2(T:RT):Nat→TypeId→Value→Bool
 | 0,_,_=>false
 | n+1,t,v=>
  match rowOf T t with
  | some r=>match r.d,v with
   | .struct fs,.agg ⟨cs⟩=>keyFieldsT T (keyT2 T n) fs cs
   | .array len e,.agg ⟨xs⟩=>match sizeT T e with
    | some s=>keyElemsT T (keyT2 T n e) e s xs (List.range len)
    | none=>false
   | .int _,v=>!isTomb v
   | .pointer _,v=>!isTomb v
   | _,_=>false
  | none=>false
section
variable {C:Ctx}{T:RT}(hT:rowsOk C T=true)
include hT
theorem eqElemsT_ok{eqt eqa:Value→Value→Option Bool}(he:∀x y b,eqt x y=some b→eqa x y=some b)(e s:Nat)(xs ys:List Value):∀(is:List Nat) (b:Bool),eqElemsT T eqt e s xs ys is=some b→eqElems C eqa e s xs ys is=some b
 | [],b,q=>q
 | i::is,b,q=>by
  simp only[eqElemsT] at q;split at q
  ·rename_i u v hu hv;split at q
   ·rename_i p r hp hr;cases q;unfold eqElems;rw[readT_ok hT hu,readT_ok hT hv];simp only[he _ _ _ hp];cases p with
    | true=>simpa using eqElemsT_ok he e s xs ys is r hr
    | false=>rfl
   ·cases q
  ·cases q
theorem eqT2_ok:∀(n:Nat) (t:TypeId) (x y:Value) (b:Bool),eqT2 C T n t x y=some b→eqA C n t x y=some b
 | 0,_,_,_,_,q=>by cases q
 | n+1,t,x,y,b,q=>by
  unfold eqT2 at q;split at q
  ·rename_i r hr;split at q
   ·rename_i fs xs ys hd;obtain⟨fs',hu,hfs⟩:=und_struct hT hr hd;cases hf:C.flat t with
    | false=>rw[hf] at q;cases q
    | true=>
     rw[hf] at q;simp only[cond_true] at q;unfold eqA;simp only[hu,hf,cond_true];rw[hfs] at q;exact eqFieldsT_ok hT (eqT2_ok n) _ _ _ _ q
   ·rename_i len e xs ys hd;have hu:=und_array hT hr hd;split at q
    ·rename_i s hs;unfold eqA;simp only[hu,sizeT_ok hT hs];exact eqElemsT_ok hT (fun x y b=>eqT2_ok n e x y b) e s _ _ _ _ q
    ·cases q
   ·rename_i kd k a k' b' hd;have hu:=und_int hT hr hd;unfold eqA;simp only[hu,eqBasic];exact q
   ·rename_i hd;have hu:=und_pointer hT hr hd;cases q;unfold eqA;simp only[hu,eqBasic]
   ·cases q
  ·cases q
theorem keyElemsT_ok{ok1 ok2:Value→Bool}(he:∀v,ok1 v=true→ok2 v=true)(e s:Nat)(xs:List Value):∀(is:List Nat),keyElemsT T ok1 e s xs is=true→keyElems C ok2 e s xs is=true
 | [],_=>rfl
 | i::is,q=>by
  simp only[keyElemsT,Bool.and_eq_true] at q;obtain⟨q1,q2⟩:=q;unfold keyElems;rw[keyElemsT_ok he e s xs is q2,Bool.and_true];split at q1
  ·rename_i a ha;rw[readT_ok hT ha];exact he _ q1
  ·cases q1
theorem keyT2_ok:∀(n:Nat) (t:TypeId) (v:Value),keyT2 T n t v=true→keyOk C n t v=true
 | 0,_,_,q=>by cases q
 | n+1,t,v,q=>by
  unfold keyT2 at q;split at q
  ·rename_i r hr;split at q
   ·rename_i fs cs hd;obtain⟨fs',hu,hfs⟩:=und_struct hT hr hd;unfold keyOk;simp only[hu];rw[hfs] at q;exact keyFieldsT_ok hT (keyT2_ok n) _ _ q
   ·rename_i len e xs hd;split at q
    ·rename_i s hs;unfold keyOk;simp only[und_array hT hr hd,sizeT_ok hT hs];exact keyElemsT_ok hT (fun v=>keyT2_ok n e v) e s _ _ q
    ·cases q
   ·rename_i k hd;unfold keyOk;rw[und_int hT hr hd];simpa [basicD] using q
   ·rename_i k hd;unfold keyOk;rw[und_pointer hT hr hd];simpa [basicD] using q
   ·cases q
  ·cases q
end
end Go.Abs
namespace Go.Proofs.D
theorem cand_eqB(p q:Cand):(((p.node:Int)==(q.node:Int))&&(((p.pack:Int)==(q.pack:Int))&&((((p.r0:Int)==(q.r0:Int))&&(((p.r1:Int)==(q.r1:Int))&&(((p.r2:Int)==(q.r2:Int))&&(((p.r3:Int)==(q.r3:Int))&&true))))&&(true&&true))))=decide (p=q):=by
 rw[Bool.eq_iff_iff];obtain⟨a,b,c,d,e,f⟩:=p;obtain⟨a',b',c',d',e',f'⟩:=q;simp only[Bool.and_eq_true,beq_iff_eq,decide_eq_true_eq,Cand.mk.injEq,and_true];omega
def keyC:KeyTy CC 268 Cand where
 key:=fun p=>.agg ⟨candV p (.pointer none)⟩
 ok:=fun p=>keyT2_ok hT 8 _ _ rfl
 eq:=fun p q=>by
  have h:eqA CC 8 268 (.agg ⟨candV p (.pointer none)⟩) (.agg ⟨candV q (.pointer none)⟩)=some (decide (p=q)):=by
   rw[←cand_eqB];exact eqT2_ok hT 8 _ _ _ _ rfl
  by_cases e:p=q
  ·exact .inl ⟨e,by rw[h];simp[e]⟩
  ·exact .inr ⟨e,by rw[h];simp[e]⟩
def keyW:KeyTy CC 301 (Nat×Nat) where
 key:=fun p=>.agg ⟨[.int .i64 p.1,.int .i64 p.2]⟩
 ok:=fun p=>keyT2_ok hT 8 _ _ rfl
 eq:=fun p q=>by
  have h:eqA CC 8 301 (.agg ⟨[.int .i64 p.1,.int .i64 p.2]⟩) (.agg ⟨[.int .i64 q.1,.int .i64 q.2]⟩)=some (decide (p=q)):=by
   rw[←key_eq];exact eqT2_ok hT 8 _ _ _ _ rfl
  by_cases e:p=q
  ·exact .inl ⟨e,by rw[h];simp[e]⟩
  ·exact .inr ⟨e,by rw[h];simp[e]⟩
inductive RowsP(F:Frz):List Value→List (Nat×Blk)→List (List Nat)→Prop
 | nil:RowsP F [] [] []
 | cons {a:Option Addr} {n c:Nat} {B bs:List (Nat×Blk)} {ps:List Nat} {vs:List Value} {pss:List (List Nat)}:Bld tPtr F a n c B ps→RowsP F vs bs pss→RowsP F (.slice a n c::vs) (B++bs) (ps::pss)
theorem cellsP{F G:Frz}{cs:List Value}{ps:List Nat}(h:Cells tPtr F cs ps):Cells tPtr G cs ps:=by
 induction h with
 | nil=>exact .nil
 | cons h _ ih=>exact .cons h ih
theorem bldP{F G:Frz}{a:Option Addr}{n c:Nat}{B:List (Nat×Blk)}{ps:List Nat}(h:Bld tPtr F a n c B ps):Bld tPtr G a n c B ps:=
 ⟨h.len,h.at_.imp id fun ⟨i,cs,h1,h2,h3,h4,h5⟩=>⟨i,cs,h1,h2,h3,cellsP h4,h5⟩⟩
theorem RowsP.any{F G:Frz}{vs:List Value}{bs:List (Nat×Blk)}{pss:List (List Nat)}(h:RowsP F vs bs pss):RowsP G vs bs pss:=by
 induction h with
 | nil=>exact .nil
 | cons h _ ih=>exact .cons (bldP h) ih
def tCN:Ty Cand where
 size:=7
 rel:=fun _ l c=>l=candV c (.pointer none)
 len:=fun _ _ _ h=>by rw[h];rfl
 one:=fun _ _ _ h=>by rw[h];rfl
 mono:=fun _ _ _ _ _ h=>h
theorem cellsN{F G:Frz}{cs:List Value}{ps:List Cand}(h:Cells tCN F cs ps):Cells tCN G cs ps:=by
 induction h with
 | nil=>exact .nil
 | cons h _ ih=>exact .cons h ih
theorem bldC{F G:Frz}{a:Option Addr}{n c:Nat}{B:List (Nat×Blk)}{ps:List Cand}(h:Bld tCN F a n c B ps):Bld tCN G a n c B ps:=
 ⟨h.len,h.at_.imp id fun ⟨i,cs,h1,h2,h3,h4,h5⟩=>⟨i,cs,h1,h2,h3,cellsN h4,h5⟩⟩
inductive WaitsP(F:Frz):Ents (Nat×Nat)→List (Nat×Blk)→List ((Nat×Nat)×List Cand)→Prop
 | nil:WaitsP F [] [] []
 | cons {k:Nat×Nat} {a:Option Addr} {n c:Nat} {B bs:List (Nat×Blk)} {cs:List Cand} {m:Ents (Nat×Nat)} {ws:List ((Nat×Nat)×List Cand)}:Bld tCN F a n c B cs→WaitsP F m bs ws→WaitsP F ((k,.slice a n c)::m) (B++bs) ((k,cs)::ws)
theorem WaitsP.any{F G:Frz}{m:Ents (Nat×Nat)}{bs:List (Nat×Blk)}{ws:List ((Nat×Nat)×List Cand)}(h:WaitsP F m bs ws):WaitsP G m bs ws:=by
 induction h with
 | nil=>exact .nil
 | cons h _ ih=>exact .cons (bldC h) ih
def getW:List ((Nat×Nat)×List Cand)→Nat×Nat→List Cand
 | [],_=>[]
 | (k,cs)::ws,w=>if w=k then cs else getW ws w
def foOf(Ns:List Node):Fo where
 n:=Ns.length
 leaf:=fun v=>match Ns[v]? with
  | some x=>if x.key.sym.term=true then some x.key.sym.n else none
  | none=>none
 packs:=fun v=>match Ns[v]? with
  | some x=>x.packs
  | none=>[]
structure LP where
 li:Nat
 na:Option Addr
 nn:Nat
 nc:Nat
 root:Nat
 most:Nat
 lo:Nat
 lc:Nat
 is:Nat
 iw:Nat
structure LR where
 qa:Option Addr
 qn:Nat
 qc:Nat
 qB:List (Nat×Blk)
 Q:List (Cand×Tree)
 vs:List Value
 bs:List (Nat×Blk)
 pss:List (List Nat)
 se:List (Value×Value)
 sm:Ents Cand
 we:List (Value×Value)
 wm:Ents (Nat×Nat)
 wbs:List (Nat×Blk)
 ws:List ((Nat×Nat)×List Cand)
structure LOk(p:LP)(Ns:List Node)(F:Frz)(r:LR)(s:Lst):Prop where
 nodes:Arr tNode F p.na p.nn p.nc Ns
 q:GB tCQ F r.qa r.qn r.qc r.qB r.Q
 qp:r.Q.Perm s.q
 qh:HeapN r.Q r.Q.length
 rows:RowsP F r.vs r.bs r.pss
 rlen:r.pss.length=p.nn
 trees:∀(v:Nat) (ps:List Nat),r.pss[v]?=some ps→ShL F ps (s.lists v)
 se:alive r.se=entsV keyC r.sm
 sl:∀c,Abs.look r.sm c=if c∈s.seen then some (.bool true) else none
 we:alive r.we=entsV keyW r.wm
 wn:(r.wm.map (·.1)).Nodup
 ws:WaitsP F r.wm r.wbs r.ws
 wg:∀w,s.waits w=getW r.ws w
theorem LOk.mono{p:LP}{Ns:List Node}{F G:Frz}{r:LR}{s:Lst}(h:LOk p Ns F r s)(hF:Frz.le F G):LOk p Ns G r s:=
 ⟨h.nodes.mono hF,h.q.mono hF,h.qp,h.qh,h.rows.any,h.rlen,fun v ps hv=>(h.trees v ps hv).mono hF,h.se,h.sl,h.we,h.wn,h.ws.any,h.wg⟩
structure TrS where
 ka:Option Addr
 kc:Nat
 KB:List (Nat×Blk)
 ps:List Nat
 ts:List Tree
structure TakeS where
 r:LR
 s:Lst
def tTC:Ty (List Value) where
 size:=3
 rel:=fun _ l x=>l=x∧x.length=3∧x.all Go.Abs.one=true
 len:=fun _ _ _ h=>by rw[h.1];exact h.2.1
 one:=fun _ _ _ h=>by rw[h.1];exact h.2.2
 mono:=fun _ _ _ _ _ h=>h
def E0:Frz:=fun _=>none
theorem cellsT{F G:Frz}{cs:List Value}{ps:List (List Value)}(h:Cells tTC F cs ps):Cells tTC G cs ps:=by
 induction h with
 | nil=>exact .nil
 | cons h _ ih=>exact .cons h ih
theorem bldT{F G:Frz}{a:Option Addr}{n c:Nat}{B:List (Nat×Blk)}{ps:List (List Value)}(h:Bld tTC F a n c B ps):Bld tTC G a n c B ps:=
 ⟨h.len,h.at_.imp id fun ⟨i,cs,h1,h2,h3,h4,h5⟩=>⟨i,cs,h1,h2,h3,cellsT h4,h5⟩⟩
mutual
inductive TOwn:List Value→List (Nat×Blk)→Tree→Prop
 | mk {r:Int} {t:Nat} {ks:List Tree} {a:Option Addr} {n c:Nat} {B bs:List (Nat×Blk)} {css:List (List Value)}:Bld tTC E0 a n c B css→TOwnL css bs ks→ks.length≤1000000→TOwn [.int .i64 r,.int .i64 t,.slice a n c] (B++bs) (.mk r t ks)
inductive TOwnL:List (List Value)→List (Nat×Blk)→List Tree→Prop
 | nil:TOwnL [] [] []
 | cons {cs:List Value} {B:List (Nat×Blk)} {t:Tree} {css:List (List Value)} {bs:List (Nat×Blk)} {ts:List Tree}:TOwn cs B t→TOwnL css bs ts→TOwnL (cs::css) (B++bs) (t::ts)
end
theorem TOwn.shape{cs:List Value}{B:List (Nat×Blk)}{t:Tree}(h:TOwn cs B t):cs.length=3∧cs.all Go.Abs.one=true:=by
 cases h;exact⟨rfl,rfl⟩
theorem TOwnL.len:∀{css:List (List Value)} {bs:List (Nat×Blk)} {ts:List Tree},TOwnL css bs ts→css.length=ts.length
 | _,_,_,.nil=>rfl
 | _,_,_,.cons _ h=>by simp[TOwnL.len h]
theorem TOwnL.snoc{cs:List Value}{B:List (Nat×Blk)}{t:Tree}(h:TOwn cs B t):∀{css:List (List Value)} {bs:List (Nat×Blk)} {ts:List Tree},TOwnL css bs ts→TOwnL (css++[cs]) (bs++B) (ts++[t])
 | _,_,_,.nil=>by simpa using TOwnL.cons h .nil
 | _,_,_,.cons h1 h2=>by
  rw[List.append_assoc];exact .cons h1 (TOwnL.snoc h h2)
mutual
theorem TOwn.frozen{G:Frz}:∀{t:Tree} {cs:List Value} {B:List (Nat×Blk)},TOwn cs B t→(∀i b,(i,b)∈B→G i=some b)→tTree.rel G cs t
 | .mk _ _ ks,_,_,.mk hb hL hk,hB=>tTree_mk (TOwnL.frozen hb hL (fun i b hm=>hB i b (List.mem_append_left _ hm)) (fun i b hm=>hB i b (List.mem_append_right _ hm))) hk
theorem TOwnL.cells{G:Frz}:∀{ts:List Tree} {css:List (List Value)} {bs:List (Nat×Blk)} {cs:List Value},Cells tTC E0 cs css→TOwnL css bs ts→(∀i b,(i,b)∈bs→G i=some b)→Cells tTree G cs ts
 | [],_,_,_,hc,.nil,_=>by cases hc;exact .nil
 | t::ts,_,_,_,hc,.cons h1 h2,hB=>by
  cases hc with
  | cons g1 g2=>
   obtain⟨rfl,_⟩:=g1;exact .cons (TOwn.frozen h1 fun i b hm=>hB i b (List.mem_append_left _ hm)) (TOwnL.cells g2 h2 fun i b hm=>hB i b (List.mem_append_right _ hm))
theorem TOwnL.frozen{G:Frz}:∀{ts:List Tree} {css:List (List Value)} {bs:List (Nat×Blk)} {a:Option Addr} {n c:Nat} {B:List (Nat×Blk)},Bld tTC E0 a n c B css→TOwnL css bs ts→(∀i b,(i,b)∈B→G i=some b)→(∀i b,(i,b)∈bs→G i=some b)→Arr tTree G a n c ts
 | ts,css,bs,a,n,c,B,hb,hL,hB,hB2=>by
  have hl:=hb.len;have hl2:=hL.len;have:Bld tTree G a n c B ts:=⟨by omega,hb.at_.imp (fun ⟨h1,h2,h3,h4⟩=>⟨List.eq_nil_of_length_eq_zero (by rw[←hl2,h1];rfl),h2,h3,h4⟩) fun ⟨i,cs,h1,h2,h3,h4,h5⟩=>⟨i,cs,h1,h2,h3,TOwnL.cells h4 hL hB2,by decide⟩⟩;exact this.frozen (Frz.le.refl G) hB
end
inductive Plain:Tree→Prop
 | leaf {t:Nat}:Plain (.mk (-1) t [])
 | node {r:Nat} {ks:List Tree}:(∀k∈ks,Plain k)→Plain (.mk r 0 ks)
mutual
theorem NT.plain{f:Fo}:∀{T:Tree} {v:Nat},NT f v T→Plain T
 | .mk _ _ _,_,.leaf _ _=>.leaf
 | .mk _ _ _,_,.node _ _ _ h=>.node (NTs.plain h)
theorem NTs.plain{f:Fo}:∀{ts:List Tree} {ks:List Nat},NTs f ks ts→∀t∈ts,Plain t
 | [],_,_,t,h=>by cases h
 | t0::ts,_,.cons h1 h2,t,h=>by
  rcases List.mem_cons.1 h with e | h
  ·rw[e];exact NT.plain h1
  ·exact NTs.plain h2 t h
end
theorem perm_cpT{α:Type}(x a b c l:List α):(x++(a++(b++(c++l)))).Perm (a++(b++(c++(x++l)))):=by
 have h:=(List.perm_append_comm (l₁:=x) (l₂:=a++(b++c))).append_right l;simpa [List.append_assoc] using h
structure PlS where
 a:Option Addr
 c:Nat
 B:List (Nat×Blk)
 css:List (List Value)
 bs:List (Nat×Blk)
def ResOk(g:Gram)(w:List Nat)(F:Frz)(s:Sym)(i:Nat)(v:Value):Prop:=
 v=.agg ⟨[.pointer none,.int .i64 (-1)]⟩∨∃b ro cs t j,v=.agg ⟨[.pointer (some ⟨b,0,none⟩),.int .i64 (j:Nat)]⟩∧F b=some (.cells ro cs)∧tTree.rel F cs t∧TreeOf g w s t i j
theorem ResOk.mono{g:Gram}{w:List Nat}{F G:Frz}{s:Sym}{i:Nat}{v:Value}(h:ResOk g w F s i v)(hF:Frz.le F G):ResOk g w G s i v:=by
 rcases h with h | ⟨b,ro,cs,t,j,h1,h2,h3,h4⟩
 ·exact .inl h
 ·exact .inr ⟨b,ro,cs,t,j,h1,hF _ _ h2,tTree.mono _ _ _ _ hF h3,h4⟩
def MemoOk(g:Gram)(w:List Nat)(F:Frz)(es:Ents (Nat×Nat)):Prop:=∀n i v,Abs.look es (n,i)=some v→ResOk g w F ⟨false,n⟩ i v
theorem MemoOk.mono{g:Gram}{w:List Nat}{F G:Frz}{es:Ents (Nat×Nat)}(h:MemoOk g w F es)(hF:Frz.le F G):MemoOk g w G es:=fun n i v q=>(h n i v q).mono hF
structure PA where
 p:Nat
 im:Nat
 a:Option Addr
 m:Nat
 c:Nat
 b:Option Addr
 k:Nat
 d:Nat
structure ParserAt(F:Frz)(x:PA)(g:Gram)(w:List Nat):Prop where
 blk:∃ro,F x.p=some (.cells ro [.int .i64 g.terms,.int .i64 g.nons,.int .i64 g.start,.slice x.a x.m x.c,.slice x.b x.k x.d,.map (some x.im)])
 rules:Arr tRule F x.a x.m x.c g.rules
 word:Arr tNat F x.b x.k x.d w
theorem ParserAt.mono{F G:Frz}{x:PA}{g:Gram}{w:List Nat}(h:ParserAt F x g w)(hF:Frz.le F G):ParserAt G x g w:=
 ⟨let ⟨ro,q⟩:=h.blk;⟨ro,hF _ _ q⟩,h.rules.mono hF,h.word.mono hF⟩
structure PkI where
 ks:List Tree
 a:Option Addr
 c:Nat
 Bk:List (Nat×Blk)
 B:List (Nat×Blk)
 e:Int
 l:Nat
structure PO where
 q:Option Addr
 e:Int
 B:List (Nat×Blk)
structure TRes(Ns:List Node)(root most:Nat)(L:List Tree)(c:Int):Prop where
 firsts:Firsts (foOf Ns) root most L
 count:CountVal (fun d=>nodeT Ns d root) c
structure PlT where
 a:Option Addr
 n:Nat
 c:Nat
 B:List (Nat×Blk)
 css:List (List Value)
 bs:List (Nat×Blk)
structure LsS where
 r:LR
 s:Lst
 done:List Cand
mutual
theorem TreeOf.end_uniq{g:Gram}{w:List Nat}:∀{t:Tree} {s:Sym} {i j j':Nat},TreeOf g w s t i j→TreeOf g w s t i j'→j=j'
 | .mk _ _ _,_,_,_,_,.leaf _,h=>by cases h with
  | leaf _=>rfl
 | .mk _ _ ks,_,_,_,_,.node h h2,h'=>by
  generalize hs:(⟨false,_⟩:Sym)=s at h';cases h' with
  | node g1 g2=>
   rw[h] at g1;cases g1;exact TreesOf.end_uniq h2 g2
theorem TreesOf.end_uniq{g:Gram}{w:List Nat}:∀{ts:List Tree} {l:List Sym} {i j j':Nat},TreesOf g w l ts i j→TreesOf g w l ts i j'→j=j'
 | [],_,_,_,_,.nil,h=>by cases h;rfl
 | _::_,_,_,_,_,.cons h1 h2,h=>by
  cases h with
  | cons g1 g2=>
   obtain rfl:=TreeOf.end_uniq h1 g1;exact TreesOf.end_uniq h2 g2
end
mutual
theorem TreeOf.dec{g:Gram}{w:List Nat}:∀{t u:Tree} {s:Sym} {i j i' j':Nat} {x y:List Int},TreeOf g w s t i j→TreeOf g w s u i' j'→t.pre++x=u.pre++y→t=u∧x=y
 | .mk _ _ _,u,_,_,_,_,_,x,y,.leaf _,h,e=>by
  cases h with
  | leaf _=>
   have e:(-1:Int)::([]++x)=-1::([]++y):=e;exact⟨rfl,by simpa using e⟩
 | .mk _ _ ks,u,_,_,_,_,_,x,y,.node h h2,h',e=>by
  generalize hs:(⟨false,_⟩:Sym)=s at h';cases h' with
  | leaf _=>cases hs
  | @node k' r' kids' _ _ g1 g2=>
   have e:((_:Nat):Int)::(preL ks++x)=(k':Int)::(preL kids'++y):=e;injection e with e1 e2;have e1:=Int.ofNat_inj.1 e1;subst e1;rw[h] at g1;cases g1;obtain⟨rfl,rfl⟩:=TreesOf.dec h2 g2 e2;exact⟨rfl,rfl⟩
theorem TreesOf.dec{g:Gram}{w:List Nat}:∀{ts us:List Tree} {l:List Sym} {i j i' j':Nat} {x y:List Int},TreesOf g w l ts i j→TreesOf g w l us i' j'→preL ts++x=preL us++y→ts=us∧x=y
 | [],us,_,_,_,_,_,x,y,.nil,h,e=>by
  cases h;exact⟨rfl,by simpa [preL] using e⟩
 | t::ts,us,_,_,_,_,_,x,y,.cons h1 h2,h,e=>by
  cases h with
  | @cons _ _ u us _ _ _ g1 g2=>
   have e:(t.pre++preL ts)++x=(u.pre++preL us)++y:=e;rw[List.append_assoc,List.append_assoc] at e;obtain⟨rfl,e2⟩:=TreeOf.dec h1 g1 e;obtain⟨rfl,rfl⟩:=TreesOf.dec h2 g2 e2;exact⟨rfl,rfl⟩
end
section
variable {g:Gram}{w:List Nat}{E:List (List Nat)}{root:Key}{S:List Key}
end
section
variable {g:Gram}{w:List Nat}{most:Nat}{L:List Tree}{c:Int}
end
theorem treeEqF_spec(F:Frz){a b:Option Addr}{m c d:Nat}{xs:List Tree}(hx:Arr tTree F a m c xs)(hy:Arr tTree F b m d xs)(hm:m≤1000000)
  (hcmp:∀G lx ly (x:Tree),x∈xs→tTree.rel G lx x→tTree.rel G ly x→Abs.Spec CC 23 [.agg ⟨lx⟩,.agg ⟨ly⟩] G [] fun _ v o=>o=[]∧v=.bool true) :
  Abs.Spec CC 51 [.slice a m c,.slice b m d,.func (.func 23) ⟨[]⟩ ⟨[]⟩] F [] fun _ v o=>o=[]∧v=.bool true:=by
 refine Abs.Spec.fn (n:=32) Tryz.func51 rfl rfl fun own=>?_;have hxlen:=hx.len;refine zB4 ?_;refine AW.cond Z (fun h=>(by exfalso;simp at h)) (fun _=>?_);refine zB4 ?_;refine AW.range (S:=Unit) (fun _=>[]) (fun _=>own) (fun j _ G=>True) m () Z Z Z Z Z Z Z Z Z zo Z Z (fun _=>rfl) (fun _=>rfl) sM oR trivial ?_ ?_
 ·intro j _ F1 hF1 hj hP;have hx1:=hx.mono hF1;have hy1:=hy.mono hF1;refine zB4 ?_;refine WT.idxL hT hx1 Z Z Z Z Z Z Z Z Z zo (fun x hxj b1 off ro cs lx hb hp1 hrel=>?_);have hrelx:=hrel;obtain⟨xr,xt,xks⟩:=x;obtain⟨xa,xn,xc,rfl,_⟩:=tTree_cases hrel;refine zB4 ?_;refine WT.allocT hT Z Z Z Z Z Z (fun i8 hi8=>?_);refine zB4 ?_;refine WT.idxL hT hy1 Z Z Z Z Z Z Z Z Z zo (fun y hyj b2 off2 ro2 cs2 ly hb2 hp2 hrel=>?_);obtain rfl:y=.mk xr xt xks:=by rw[hxj] at hyj;exact(Option.some.inj hyj).symm
  have hrely:=hrel;obtain⟨ya,yn,yc,rfl,_⟩:=tTree_cases hrel;refine zB4 ?_;refine WT.allocT hT Z Z Z Z Z Z (fun i9 hi9=>?_);refine zB4 ?_;refine WT.callC Tryz.func23 Z Z Z Z Z Z Z Z (hcmp _ _ _ _ (gM hxj) hrelx hrely) (fun v hv=>?_);subst hv;refine zB4 ?_;refine AW.cond Z (fun h=>(by cases h)) (fun _=>?_);refine zB4 ?_;exact⟨(),sM,OwnLe.skip _ (OwnLe.skip _ oR),trivial⟩
 ·intro _ F1 hF1 hP;refine zB4 ?_;exact AW.ret ⟨_,[],⟨_,_,rfl,rfl,rfl⟩,zsb,rfl,rfl⟩
theorem sameTree_spec:∀(N:Nat) (F:Frz) (lx ly:List Value) (x:Tree),x.pre.length<N→tTree.rel F lx x→tTree.rel F ly x→Abs.Spec CC 23 [.agg ⟨lx⟩,.agg ⟨ly⟩] F [] fun _ v o=>o=[]∧v=.bool true
 | 0,_,_,_,_,h,_,_=>by omega
 | N+1,F,lx,ly,.mk r t ks,hN,hx,hy=>by
  obtain⟨xa,xn,xc,rfl,hxa,hkb⟩:=tTree_cases hx;obtain⟨ya,yn,yc,rfl,hya,_⟩:=tTree_cases hy;obtain rfl:yn=xn:=by rw[hxa.len,hya.len]
  have hxl:=hxa.len;have hpe:(Tree.mk r t ks).pre.length=(preL ks).length+1:=rfl;refine Abs.Spec.fn (n:=24) Tryz.func23 rfl rfl fun own=>?_;refine AW.seq (AW.reg ?_);refine WT.boxT Z Z Z Z Z Z (fun i2 hi2=>?_);refine WT.boxT Z Z Z Z Z Z (fun i3 hi3=>?_);refine zB4 ?_;refine WT.know (v':=.bool true) 10 Z (by congr 1;simp) ?_;refine zB4 ?_;refine WT.know (v':=.bool true) 17 Z (by congr 1;simp) ?_;refine zB4 ?_;refine WT.callV Tryz.func51 Z Z Z Z Z Z (treeEqF_spec _ hxa hya zo (fun G lx ly x hm h1 h2=>sameTree_spec N G lx ly x (by have:=preL_mem hm;omega) h1 h2)) (fun v hv=>?_);subst hv
  refine zB4 ?_;exact AW.ret ⟨_,[],⟨_,_,rfl,rfl,rfl⟩,zsb,rfl,rfl⟩
theorem cells_flatT{F:Frz}{cs:List Value}{css:List (List Value)}(h:Cells tTC F cs css):cs=css.flatten:=by
 induction h with
 | nil=>rfl
 | cons h1 _ ih=>rw[h1.1,ih];rfl
theorem flatT_get:∀{css:List (List Value)} {q:Nat} {x:List Value},(∀y∈css,y.length=3)→css[q]?=some x→css.flatten[q*3+2]?=x[2]?
 | [],_,_,_,h=>by simp at h
 | y::css,0,x,h3,h=>by
  obtain rfl:y=x:=by simpa using h
  have:=h3 y me;rw[List.flatten_cons,List.getElem?_append_left zo]
 | y::css,q+1,x,h3,h=>by
  have:=h3 y me;rw[List.flatten_cons,List.getElem?_append_right zo,show (q+1)*3+2-y.length=q*3+2 by omega];exact flatT_get (fun z hz=>h3 z (List.mem_cons_of_mem _ hz)) (by simpa using h)
theorem flatT_len:∀{css:List (List Value)},(∀y∈css,y.length=3)→css.flatten.length=css.length*3
 | [],_=>rfl
 | y::css,h3=>by
  rw[List.flatten_cons,List.length_append,h3 y me,flatT_len fun z hz=>h3 z (List.mem_cons_of_mem _ hz),List.length_cons];omega
theorem TOwnL.three:∀{css:List (List Value)} {bs:List (Nat×Blk)} {ts:List Tree},TOwnL css bs ts→∀y∈css,y.length=3
 | _,_,_,.nil,y,hy=>by cases hy
 | _,_,_,.cons h1 h2,y,hy=>by
  rcases List.mem_cons.1 hy with rfl | hy
  ·exact h1.shape.1
  ·exact TOwnL.three h2 y hy
def over(hs:List Value)(off:Nat):List Value:=(hs.set (off+0) (.int .i64 (-7))).set (off+1) (.int .i64 (-7))
def SpI(N:Nat)(a:Option Addr)(n c:Nat)(X:List (Nat×Blk))(j:Nat):Prop:=
 n=0∨∃(kb:Nat) (hs:List Value) (done todo:List (Nat×Blk)) (css:List (List Value)) (ks:List Tree),a=some ⟨kb,0,none⟩∧c=3∧X=(kb,.cells false hs)::(done++todo)∧hs.length=n*3∧(∀(q:Nat) (x:List Value),j≤q→css[q]?=some x→hs[q*3+2]?=x[2]?)∧css.length=n∧TOwnL (css.drop j) todo (ks.drop j)∧∀t∈ks,t.pre.length<N
theorem SpI.start{N:Nat}{a:Option Addr}{n c:Nat}{B bs:List (Nat×Blk)}{css:List (List Value)}{ks:List Tree}(hb:Bld tTC E0 a n c B css)(hL:TOwnL css bs ks)(hN:∀t∈ks,t.pre.length<N):SpI N a n c (B++bs) 0:=by
 have hl:=hb.len;rcases hb.at_ with ⟨rfl,_⟩ | ⟨kb,hs,h1,h2,h3,h4,_⟩
 ·exact Or.inl (by simpa using hl)
 ·have e:=cells_flatT h4;subst e;exact Or.inr ⟨kb,_,[],bs,css,ks,h1,h2,by rw[h3];rfl,by rw[flatT_len hL.three,hl],fun q x _ hx=>flatT_get hL.three hx,hl.symm,by simpa using hL,hN⟩
theorem SpI.step{N:Nat}{a:Option Addr}{n c:Nat}{X:List (Nat×Blk)}{j:Nat}(h:SpI N a n c X j)(hj:j<n):∃kb hs done Bj todo r t a2 n2 c2 T,a=some ⟨kb,0,none⟩∧c=3∧X=(kb,.cells false hs)::(done++(Bj++todo))∧
  TOwn [.int .i64 r,.int .i64 t,.slice a2 n2 c2] Bj T∧T.pre.length<N∧hs[j*3+2]?=some (.slice a2 n2 c2)∧∀Bj',SpI N a n c ((kb,.cells false (over hs (j*3)))::(done++(Bj'++todo))) (j+1):=by
 rcases h with h | ⟨kb,hs,done,todo,css,ks,rfl,rfl,rfl,h1,h2,h3,h4,h5⟩
 ·omega
 ·have hx:css.drop j=css[j]'zo::css.drop (j+1):=List.drop_eq_getElem_cons zo;have hxj:css[j]?=some (css[j]'zo):=gE zo;generalize css[j]'zo=x at hx hxj;rw[hx] at h4;generalize hk:ks.drop j=kd at h4;generalize hcd:css.drop (j+1)=cd at h4;cases h4 with
  | @cons _ Bj T _ bs' ts g1 g2=>
   have hTm:T∈ks:=List.mem_of_mem_drop (by rw[hk];exact List.mem_cons_self ..);have hk2:ks.drop (j+1)=ts:=by
    have:=congrArg (List.drop 1) hk;rw[List.drop_drop] at this;simpa using this
   cases hT:T with
   | mk r t k2=>
    subst hT;have g1':=g1;cases g1 with
    | @mk _ _ _ a2 n2 c2 B2 bs2 css2 q1 q2 q3=>
     refine⟨kb,hs,done,_,bs',r,t,a2,n2,c2,.mk r t k2,rfl,rfl,rfl,g1',h5 _ hTm,by rw[h2 j _ (Nat.le_refl _) hxj];rfl,fun Bj'=>Or.inr ⟨kb,_,done++Bj',bs',css,ks,rfl,rfl,by rw[List.append_assoc],by unfold over;rw[List.length_set,List.length_set];exact h1,fun q y hq hy=>?_,h3,by rw[hk2,hcd];exact g2,h5⟩⟩;unfold over;rw[List.getElem?_set_ne zo,List.getElem?_set_ne zo];exact h2 q y zo hy
theorem perm_sp{α:Type}(a k:α)(B d t o:List α):(k::(B++(a::(d++(t++o))))).Perm (a::(k::(d++(B++(t++o))))):=by
 refine((List.perm_middle (a:=a) (l₁:=B) (l₂:=d++(t++o))).cons k).trans ((List.Perm.swap a k _).trans (((?_:(B++(d++(t++o))).Perm (d++(B++(t++o)))).cons k).cons a));have:=(List.perm_append_comm (l₁:=B) (l₂:=d)).append_right (t++o);simpa [List.append_assoc] using this
theorem spoil_spec:∀(N:Nat) (T:Tree) (r t:Int) (a:Option Addr) (n c:Nat) (X:List (Nat×Blk)),TOwn [.int .i64 r,.int .i64 t,.slice a n c] X T→T.pre.length<N→∀(F:Frz) (i off:Nat) (hs:List Value),hs[off+2]?=some (.slice a n c)→
  Abs.Spec CC 22 [.pointer (some ⟨i,off,none⟩)] F [[(i,.cells false hs)],X] fun F' v o=>∃X',o=[[(i,.cells false (over hs off))],X']
 | 0,_,_,_,_,_,_,_,_,h,_,_,_,_,_=>by omega
 | N+1,T,r,t,a,n,c,X,hT',hN,F,i,off,hs,hsl=>by
  have hlen:=(gS hsl).1;have hsp:SpI N a n c X 0∧n≤1000000:=by
   cases hT' with
   | @mk _ t0 ks _ _ _ B bs css q1 q2 q3=>
    have hpe:(Tree.mk r t0 ks).pre.length=(preL ks).length+1:=rfl;exact⟨SpI.start q1 q2 fun k hk=>by have:=preL_mem hk;omega,by rw[q1.len,q2.len];exact q3⟩
  obtain⟨hsp,hn⟩:=hsp;refine Abs.Spec.fn (n:=25) Tryz.func22 rfl rfl fun own=>?_;refine zB4 ?_;refine WT.storeAt hT 0 0 Z Z Z Z Z Z Z Z Z Z zo Z Z ?_;refine zB4 ?_;refine WT.storeAt hT 0 0 Z Z Z Z Z Z Z Z Z Z (by rw[List.length_set];omega) Z Z ?_;have hov:(over hs off)[off+2]?=some (.slice a n c):=by
   unfold over;rw[List.getElem?_set_ne zo,List.getElem?_set_ne zo];exact hsl
  rw[show (hs.set (off+0) (.int .i64 (-7))).set (off+1) (.int .i64 (-7))=over hs off from rfl];generalize over hs off=ys at hov ⊢;refine zB4 ?_;refine WT.loadAt hT 0 Z Z Z Z Z Z me Z Z hov ?_;refine zB4 ?_;refine AW.range (S:=List (Nat×Blk)) (fun _=>[]) (fun s=>[(i,.cells false ys)]::s::own) (fun j s G=>SpI N a n c s j) n X
   Z Z Z Z Z Z Z Z Z zo rfl rfl (fun _=>rfl) (fun _=>rfl) sM oR hsp ?_ ?_
  ·intro j s F1 hF1 hj hP;obtain⟨kb,hks,done,Bj,todo,r2,t2,a2,n2,c2,T2,rfl,rfl,rfl,hT2,hT2N,h3,hnext⟩:=SpI.step hP hj;refine AW.le (own2:=[(i,.cells false ys)]::[(kb,.cells false hks)]::Bj::(done++todo)::own) (OwnLe.cons _ (OwnLe.flat ?_)) ?_
   ·simp only[List.flatten_cons,List.nil_append,List.append_assoc,List.cons_append];exact List.Perm.cons _ (by
     have:=(List.perm_append_comm (l₁:=Bj) (l₂:=done)).append_right (todo++own.flatten);simpa [List.append_assoc] using this.symm)
   refine zB4 ?_;refine WT.loadAt hT 0 Z Z Z Z Z Z me Z Z hov ?_;refine zB4 ?_;refine WT.idxA (j:=j) (s:=3) hT Z Z Z Z Z Z Z Z Z zo ?_;refine WT.callF (oin:=[[(kb,.cells false hks)],Bj]) Tryz.func22 Z Z Z Z Z Z (spoil_spec N T2 r2 t2 a2 n2 c2 Bj hT2 hT2N F1 kb (0+j*3) hks (by rw[Nat.zero_add];exact h3)) ((List.Perm.swap _ _ _).trans (List.Perm.cons _ (List.Perm.swap _ _ _))) (fun F2 v oout hF2 hv=>?_);obtain⟨Bj',rfl⟩:=hv;refine zB4 ?_;refine⟨(kb,.cells false (over hks (j*3)))::(done++(Bj'++todo)),sM,OwnLe.flat ?_,hnext Bj'⟩;rw[Nat.zero_add]
   simp only[List.flatten_cons,List.nil_append,List.append_assoc,List.cons_append];exact perm_sp _ _ _ _ _ _
  ·intro s F1 hF1 hP;exact⟨_,[_,_],rfl,zsb,_,rfl⟩
structure TcS where
 j:Nat
 a:Option Addr
 c:Nat
 B:List (Nat×Blk)
 bs:List (Nat×Blk)
 css:List (List Value)
theorem copyTreeOwn_spec:∀(d:Nat) (F:Frz) (cs:List Value) (t:Tree),(tTreeN d).rel F cs t→Abs.Spec CC 50 [.agg ⟨cs⟩] F [] fun F' v o=>∃X,o=[X]∧∃cs,v=.agg ⟨cs⟩∧TOwn cs X t
 | 0,_,_,_,h=>h.elim
 | d+1,F,cs,t,h=>by
  obtain⟨r,t,ks,a,n,c,rfl,rfl,hk,hkb⟩:=h;have hlen:=hk.len;refine Abs.Spec.fn (n:=27) Tryz.func50 rfl rfl fun own=>?_;refine AW.seq (AW.reg ?_);refine WT.boxT Z Z Z Z Z Z (fun i1 hi1=>?_);refine WT.allocT hT Z Z Z Z Z Z (fun i2 hi2=>?_);refine zB4 ?_;refine WT.allocT hT Z Z Z Z Z Z (fun i3 hi3=>?_);refine zB4 ?_;refine AW.range (S:=TcS) (fun _=>[]) (fun s=>s.B::[(i3,.cells false [.int .i64 r,.int .i64 t,.slice s.a s.css.length s.c])]::s.bs::[(i2,.cells false [.int .i64 0,.int .i64 0,.slice none 0 0])]::[(i1,.cells false [.int .i64 r,.int .i64 t,.slice a n c])]::own)
   (fun j s G=>s.j=j∧Bld tTC E0 s.a s.css.length s.c s.B s.css∧TOwnL s.css s.bs (ks.take j)) n ⟨0,none,0,[],[],[]⟩
   Z Z Z Z Z Z Z Z Z zo rfl rfl (fun _=>rfl) (fun _=>rfl) sM (OwnLe.flat (List.Perm.refl _)) ⟨rfl,Bld.nil_ _ _,by rw[List.take_zero];exact .nil⟩ ?_ ?_
  ·intro j s F1 hF1 hj hP;obtain⟨hsj,hb,hL⟩:=hP;have hLl:=hL.len;rw[List.length_take] at hLl;have hk1:=hk.mono hF1;refine zB6 ?_;refine WT.idxL hT hk1 Z Z Z Z Z Z Z Z (by rw[tTreeN_size];rfl) zo (fun x hx b off ro cs lx hb1 hp1 hrel=>?_);rw[tTreeN_size] at hp1;obtain⟨xr,xt,xk,xa,xn,xc,rfl,rfl,hxa,hxb⟩:∃xr xt xk xa xn xc,x=Tree.mk xr xt xk∧lx=[.int .i64 xr,.int .i64 (xt:Nat),.slice xa xn xc]∧Arr tTree F1 xa xn xc xk∧xk.length≤1000000:=by
    cases x with
    | mk xr xt xk=>
     obtain⟨xa,xn,xc,h1,h2,h3⟩:=tTree_cases ⟨d,hrel⟩;exact⟨xr,xt,xk,xa,xn,xc,rfl,h1,h2,h3⟩
   refine zB6 ?_;refine WT.allocT hT Z Z Z Z Z Z (fun i5 hi5=>?_);refine zB6 ?_;refine AW.draw (ps:=[(1,3),(1,4)]) Z Z ?_;refine zB6 ?_;refine WT.callN Tryz.func50 Z Z Z Z Z Z (copyTreeOwn_spec d F1 _ _ hrel) (fun F2 v B2 hF2 hv=>?_);obtain⟨cs,rfl,hcs⟩:=hv;obtain⟨hc3,hc1⟩:=hcs.shape;obtain⟨x1,x2,x3,rfl⟩:∃x1 x2 x3,cs=[x1,x2,x3]:=by
    match cs,hc3 with
    | [x1,x2,x3],_=>exact⟨x1,x2,x3,rfl⟩
   refine WT.buildT hT Z Z Z Z Z Z Z Z Z Z Z Z Z Z (fun i9 hi9=>?_);refine WT.appendT (R:=tTC) (ys:=[[x1,x2,x3]]) hT 3 (bldT hb) Z (fun _=>rfl) Z Z Z Z Z Z Z Z Z Z Z (fun h0 s0=>news_own hT s0 0 Z Z Z Z) (Cells.single (R:=tTC) ⟨rfl,rfl,hc1⟩) Z (by decide) zom (fun a3 c3 B3 hB3=>?_);refine zB7 ?_;refine⟨zrC,?_⟩;refine⟨⟨j+1,a3,c3,B3,s.bs++B2,s.css++[[x1,x2,x3]]⟩,sM,?_,rfl,by show Bld tTC E0 a3 (s.css++[[x1,x2,x3]]).length c3 B3 _;rw[List.length_append];exact bldT hB3,by rw[List.take_add_one,hx];exact hL.snoc hcs⟩
   show OwnLe (B3::[(i3,.cells false [.int .i64 r,.int .i64 t,.slice a3 (s.css++[[x1,x2,x3]]).length c3])]::(s.bs++B2)::_) _;rw[List.length_append];refine OwnLe.trans (OwnLe.flat ?_) (OwnLe.skip _ (OwnLe.cons B2 (OwnLe.skip _ oR)));simp only[List.flatten_cons,List.append_assoc];exact perm_cpT _ _ _ _ _
  ·intro s F1 hF1 hP;obtain⟨hsj,hb,hL⟩:=hP;rw[List.take_of_length_le zo] at hL;refine zB7 ?_;refine AW.le (own2:=[(i2,.cells false [.int .i64 r,.int .i64 t,.slice s.a s.css.length s.c])]::(s.B++s.bs)::own) (OwnLe.trans (OwnLe.flat ?_) (OwnLe.cons s.B (OwnLe.skip _ (OwnLe.cons s.bs (OwnLe.cons _ (OwnLe.skip _ oR)))))) ?_
   ·have:=List.perm_middle (a:=(i2,Blk.cells false [.int .i64 r,.int .i64 t,.slice s.a s.css.length s.c])) (l₁:=s.B++s.bs) (l₂:=own.flatten);simpa [List.append_assoc] using this
   refine AW.ret ⟨_,[_],⟨_,_,⟨_,rfl,fun G h0 s0=>loadA_cells (s0.has (p:=0) Z me) (readT_ok hT rfl)⟩,rfl,rfl⟩,List.Sublist.cons _ (List.Sublist.refl _),_,rfl,_,rfl,TOwn.mk hb hL hkb⟩
theorem own_tr3(X A B C D Z:List (Nat×Blk))(l:Own):OwnLe (D::A::X::l) (X::Z::A::B::C::D::l):=by
 refine OwnLe.trans (b:=X::D::A::l) (OwnLe.flat ?_) (OwnLe.cons X ((own_tr A B C D l).trans (OwnLe.skip _ oR)));simp only[List.flatten_cons];have h1:(A++(X++l.flatten)).Perm (X++(A++l.flatten)):=by
  have:=(List.perm_append_comm (l₁:=A) (l₂:=X)).append_right l.flatten;simpa [List.append_assoc] using this
 have h2:(D++(X++(A++l.flatten))).Perm (X++(D++(A++l.flatten))):=by
  have:=(List.perm_append_comm (l₁:=D) (l₂:=X)).append_right (A++l.flatten);simpa [List.append_assoc] using this
 first
  | exact(List.Perm.append_left D h1).trans h2
  | exact((List.Perm.append_left D h1).trans h2).symm
theorem own_tr2(A B C D Z:List (Nat×Blk))(l:Own):OwnLe (D::A::[]::l) (Z::A::B::C::D::l):=
 OwnLe.trans (b:=D::A::l) (OwnLe.flat (by simp only[List.flatten_cons,List.nil_append];exact List.Perm.refl _)) ((own_tr A B C D l).trans (OwnLe.skip _ oR))
theorem treeOwn_spec(F:Frz)(g:Gram)(hg:Valid g){T:Tab}{I:List (List Lr)}{rows:List (List Int)}{la:Nat→Lr→Nat→Prop}(hL:LRT g T I rows la){p:PP}{pi:Nat}{σ:List Nat}{τ:List Tree}(hp:PPOk g T F p σ τ){w:List Nat}{i:Nat}(hs:LStk g (goR g rows) w σ τ i)(hσ:σ.length≤2000000)(hw:w.length≤1000) :
  Abs.Spec CC 21 [.pointer (some ⟨pi,0,none⟩)] F [[(pi,.cells false (ppCells g p))]] fun F' v o=>∃X,o=[[(pi,.cells false (ppCells g p))],X]∧∃ly e Y,v=.tuple ⟨[.agg ⟨ly⟩,.int .i64 (e:Nat)]⟩∧TOwn ly X Y∧
   ((e=0∧actT T (topS (redN g (goR g rows) (actT T) g.terms 100000 (σ,τ)).1) g.terms=.acc∧(redN g (goR g rows) (actT T) g.terms 100000 (σ,τ)).2=[Y]∧TreeOf g w ⟨false,g.start⟩ Y 0 i)∨
    (e=10∧ly=[.int .i64 0,.int .i64 0,.slice none 0 0]∧Y=.mk 0 0 []∧actT T (topS (redN g (goR g rows) (actT T) g.terms 100000 (σ,τ)).1) g.terms≠.acc)):=by
 have hgt:=hg.range.terms;have hst:=hs.len;unfold ppCells;refine Abs.Spec.fn (n:=26) Tryz.func21 rfl rfl fun own=>?_;refine zC5 ?_;refine WT.allocT hT Z Z Z Z Z Z (fun i2 hi2=>?_);refine zC5 ?_;have hrs:=reduce_spec F g hg hL hp hs hσ hw (pi:=pi) (t:=g.terms) (Nat.le_refl _);have hln:=redN_len (g:=g) (go:=goR g rows) (act:=actT T) g.terms 100000 (σ,τ);have hsN:=hs.redN hL.lr hL.only (t:=g.terms) 100000 (c:=(σ,τ));generalize redN g (goR g rows) (actT T) g.terms 100000 (σ,τ)=cN at hrs hln hsN;obtain⟨σN,τN⟩:=cN;dsimp only at hrs hln hsN ⊢;unfold ppCells at hrs
 refine WT.callF (oin:=[[(pi,.cells false (ppCells g p))]]) Tryz.func48 Z Z Z Z Z Z hrs (List.Perm.swap _ _ _) (fun F1 v oout hF1 hv=>?_);obtain⟨B1,B2,rfl,xa,xn,xc,ya,yn,yc,a,b,rfl,hx,hy,hact⟩:=hv;have hxl:=hx.len;have hyl:=hy.len;have hp1:=hp.mono hF1;refine zC5 ?_;refine WT.allocT hT Z Z Z Z Z Z (fun i7 hi7=>?_);refine zC5 ?_;refine AW.cond Z (fun h=>?_) (fun h=>?_)
 ·have h:a≠3:=by intro e;subst e;simp at h
  refine zC5 ?_;refine AW.le (own_tr2 _ _ _ _ _ _) ?_;refine AW.ret ⟨_,[[(pi,.cells false (ppCells g p))],[]],⟨_,_,⟨_,rfl,fun G h0 s0=>loadA_cells (s0.has (p:=0) Z me) (readT_ok hT rfl)⟩,⟨_,_,rfl,rfl,rfl⟩,rfl⟩,zsb,_,rfl,_,10,.mk 0 0 [],rfl,TOwn.mk (t:=0) (bs:=[]) (Bld.nil_ _ _) .nil (Nat.zero_le _),.inr ⟨rfl,rfl,rfl,fun e=>?_⟩⟩;rw[e] at hact;exact h (decA_acc.1 hact)
 ·have h:a=3:=by simp at h;omega
  subst h;have hacc:actT T (topS σN) g.terms=.acc:=actOut_acc.1 (hact.symm.trans rfl);obtain⟨X,rfl,hX⟩:=hsN.acc hL.lr hL.only hacc;refine zC6 ?_;refine WT.gidx (j:=0) hT hy Z Z Z Z Z Z Z Z Z (by rw[hyl];exact Nat.zero_lt_one) (fun b1 hb1=>?_);refine WT.gldS (x:=X) hT 3 hy hb1 Z Z Z Z Z Z Z (fun z hz=>hz) Z Z Z (fun l hl=>?_);obtain⟨r,u,ks⟩:=X;obtain⟨dd,hdd⟩:=id hl;refine WT.callN Tryz.func50 Z Z Z Z Z Z (copyTreeOwn_spec dd F1 _ _ hdd) (fun F2 v X2 hF2 hv=>?_);obtain⟨cs,rfl,hcs⟩:=hv;obtain⟨za,zn,zc,rfl⟩:∃za zn zc,cs=[.int .i64 r,.int .i64 u,.slice za zn zc]:=by
   cases hcs;exact⟨_,_,_,rfl⟩
  refine zC7 ?_;refine AW.le (own_tr3 X2 _ _ _ _ _ _) ?_;exact AW.ret ⟨_,[[(pi,.cells false (ppCells g p))],X2],⟨_,_,⟨_,rfl,fun G h0 s0=>loadA_cells (s0.has (p:=0) rfl me) (readT_ok hT rfl)⟩,⟨_,_,rfl,rfl,rfl⟩,rfl⟩,zsb,_,rfl,_,0,_,rfl,hcs,.inl ⟨rfl,hacc,rfl,hX⟩⟩
end Go.Proofs.D
set_option linter.unusedVariables false
set_option maxRecDepth 20000
set_option maxHeartbeats 0
open Go Go.Abs Go.Proofs Go.Proofs.D
namespace Go.Abs
end Go.Abs
namespace Go.Proofs.D
theorem madeOwn_spec(F:Frz){a b:Option Addr}{m n c d:Nat}{l w0:List Int}(hl:Arr tInt F a m c l)(hw:Arr tInt F b n d w0)(hm:n≤9223372036854775807)(most:Nat)(hmost:most≤1000000) :
  Abs.Spec CC 9 [.slice a m c,.slice b n d,.int .i64 most] F [] fun F' v o=>∃B',o=[B']∧∃g a m c b n d w B bs ys,B'=B++bs∧v=.tuple ⟨[.agg ⟨gramCells g a m c⟩,.slice b n d]⟩∧Small g∧Bld tRuleC F' a m c B ys∧Rights F' ys bs g.rules∧Arr tNat F' b n d w∧w.length≤most∧∀t∈w,t<g.terms:=by
 refine Abs.Spec.fn (n:=17) Tryz.func9 rfl rfl fun own=>?_;refine AW.seq (AW.reg ?_);refine WT.allocT hT Z Z Z Z Z Z (fun i6 hi6=>?_);refine zB4 ?_;refine WT.callN (P:=fun F' v B'=>∃g a m c B bs ys,B'=B++bs∧v=.agg ⟨gramCells g a m c⟩∧Bld tRuleC F' a m c B ys∧Rights F' ys bs g.rules∧Small g) Tryz.func32 Z Z Z Z Z Z ((grammarOwn_spec _ hl).mono fun F' v o _ ⟨g,a,m,c,B,bs,ys,h1,h2,h3,h4,h5⟩=>⟨_,h1,g,a,m,c,B,bs,ys,rfl,h2,h3,h4,h5⟩) (fun F1 v B1 hF1 hv=>?_);obtain⟨g,ga,gm,gc,B,bs,ys,rfl,rfl,hb,hR,hg⟩:=hv;unfold gramCells;refine WT.allocT hT Z Z Z Z Z Z (fun i8 hi8=>?_);refine zB4 ?_
 refine AW.draw (ps:=[(0,5)]) Z Z ?_;refine zB4 ?_;have:=hg.terms;refine WT.callF0 Tryz.func34 Z Z Z Z Z Z (word_spec _ g.terms most zo hmost (hw.mono hF1) hm) (fun F2 v hF2 hv=>?_);obtain⟨wa,wm,wc,w,rfl,hwr,hw1,hw2⟩:=hv;refine zB4 ?_;refine⟨zrC,?_⟩;refine AW.le (own2:=[(i6,.cells false [.int .i64 g.terms,.int .i64 g.nons,.int .i64 g.start,.slice ga gm gc])]::(B++bs)::own) (OwnLe.trans (b:=(B++bs)::[(i6,.cells false [.int .i64 g.terms,.int .i64 g.nons,.int .i64 g.start,.slice ga gm gc])]::own) (OwnLe.flat ?_) (OwnLe.skip _ oR)) ?_
 ·have:=List.perm_middle (a:=(i6,Blk.cells false [.int .i64 g.terms,.int .i64 g.nons,.int .i64 g.start,.slice ga gm gc])) (l₁:=B++bs) (l₂:=own.flatten);simpa [List.append_assoc] using this
 refine AW.ret ⟨_,[_],⟨_,_,⟨_,rfl,fun G h0 s0=>loadA_cells (s0.has (p:=0) Z me) (readT_ok hT rfl)⟩,⟨_,_,rfl,rfl,rfl⟩,rfl⟩,zsb,_,rfl,g,ga,gm,gc,wa,wm,wc,w,B,bs,ys,rfl,rfl,hg,hb.mono hF2,hR.mono hF2,hwr,hw1,hw2⟩
end Go.Proofs.D